/-
 SV: the functions are those of the program. No condition.
-/
import Derived.Test.YthhjnogfljegnaaGreatDoorVStd
import Derived.Test.YthhjnogfljegnaaGreatDoorMSum
import Derived.Test.YthhjnogfljegnaaGreatDoorProg
import Derived.KernelRfl
set_option linter.unusedSimpArgs false
set_option linter.unusedVariables false
set_option linter.unusedSectionVars false
namespace Tz
open Go.Sx Go Go.Proofs
noncomputable def fx (n : Nat) : PFn := match pFn Tryz.prog n with
 | some p => p
 | none => ⟨.ret, []⟩
theorem okx {n : Nat} (h : (pFn Tryz.prog n).isSome = true) : pFn Tryz.prog n = some (fx n) := by
 unfold fx
 cases hp : pFn Tryz.prog n with
 | none => rw [hp] at h; cases h
 | some p => rfl
def idxs : List Nat := [12, 18, 26, 34, 45, 48, 49, 50, 51, 58, 64, 65, 66, 90, 91, 92, 97, 98, 99, 100, 101, 102, 103, 104, 105, 106, 107, 108, 115, 116, 117, 118, 119, 120, 121, 122, 123, 124, 125, 139, 140, 141, 153, 154, 155, 156, 157, 158, 159, 160, 161, 162, 163, 168, 169, 170, 171, 172, 173, 174, 175, 176, 177, 178, 179, 180, 181, 194, 205, 206, 207, 208, 209, 210, 211, 212, 213, 214, 215, 216, 217, 218, 219, 220, 221, 222, 223, 224, 233, 234, 242, 243, 244, 245, 246, 247, 248, 249, 252, 253, 254, 255, 256, 257, 258, 259, 260, 261, 262, 263, 264, 265, 266, 267, 268, 281, 282, 283, 284, 285, 286, 287, 288, 289, 290, 291, 292, 293, 294, 295, 299, 300, 301, 302, 304, 305, 308]
noncomputable def lazyL : List Nat → List (Nat × PFn)
 | [] => []
 | n :: l => (n, fx n) :: lazyL l
noncomputable def lazyB : List Nat → Bool
 | [] => true
 | n :: l => Nat.blt n 8000 && (pFn Tryz.prog n).isSome && lazyB l
theorem lazy_ok : ∀ {l : List Nat}, lazyB l = true → AllOk Tryz.prog (lazyL l)
 | [], _ => trivial
 | n :: l, h => by
  simp only [lazyB, Bool.and_eq_true] at h
  exact ⟨⟨h.1.1, okx h.1.2⟩, lazy_ok h.2⟩
theorem allok_app {P : Program} : ∀ {l m : List (Nat × PFn)}, AllOk P l → AllOk P m → AllOk P (l ++ m)
 | [], _, _, h => h
 | _ :: _, _, h, k => ⟨h.1, allok_app h.2 k⟩
noncomputable def fnsX : T PFn := (.node none (.node none (.node none (.node none (.node (some ybq) (.node none (.node none (.node (some ybk) (.node (some (fx 255)) .nil .nil) .nil) (.node (some yaq) .nil .nil)) (.node none (.node (some (fx 159)) (.node (some (fx 287)) .nil .nil) .nil) (.node (some (fx 223)) .nil .nil))) (.node none (.node (some yce) .nil (.node (some (fx 207)) .nil .nil)) (.node none (.node (some (fx 175)) .nil .nil) (.node (some yck) .nil .nil)))) (.node none (.node (some ycb) (.node (some ybg) (.node (some yde) (.node (some (fx 263)) .nil .nil) .nil) (.node (some yaw) .nil .nil)) (.node (some (fx 103)) (.node (some ybz) (.node (some (fx 295)) .nil .nil) .nil) .nil)) (.node (some ycd) (.node (some yac) (.node none (.node (some ycc) .nil .nil) .nil) (.node (some (fx 215)) .nil .nil)) (.node (some (fx 119)) (.node (some ybb) .nil .nil) (.node (some (fx 247)) .nil .nil))))) (.node none (.node none (.node none (.node (some yba) (.node (some yca) (.node (some (fx 259)) .nil .nil) .nil) (.node (some yaa) .nil .nil)) (.node (some (fx 99)) (.node (some (fx 163)) (.node (some (fx 291)) .nil .nil) .nil) .nil)) (.node (some (fx 51)) (.node none .nil (.node (some (fx 211)) .nil .nil)) (.node (some (fx 115)) (.node (some (fx 179)) .nil .nil) (.node (some (fx 243)) .nil .nil)))) (.node (some yai) (.node (some ydb) (.node none (.node (some (fx 139)) (.node (some (fx 267)) .nil .nil) .nil) (.node (some ybi) .nil .nil)) (.node (some (fx 107)) (.node (some (fx 171)) (.node (some (fx 299)) .nil .nil) .nil) (.node (some ybu) .nil .nil))) (.node none (.node (some (fx 91)) (.node (some (fx 155)) (.node (some (fx 283)) .nil .nil) .nil) (.node (some (fx 219)) .nil .nil)) (.node (some (fx 123)) (.node (some yao) .nil .nil) (.node (some yav) .nil .nil)))))) (.node none (.node none (.node none (.node none (.node (some (fx 65)) (.node (some yau) (.node (some (fx 257)) .nil .nil) .nil) (.node (some yar) .nil .nil)) (.node (some (fx 97)) (.node (some (fx 161)) (.node (some (fx 289)) .nil .nil) .nil) .nil)) (.node (some (fx 49)) (.node none .nil (.node (some (fx 209)) .nil .nil)) (.node none (.node (some (fx 177)) (.node (some (fx 305)) .nil .nil) .nil) (.node (some ycp) .nil .nil)))) (.node none (.node none (.node none (.node (some yae) (.node (some (fx 265)) .nil .nil) .nil) (.node (some ybl) .nil .nil)) (.node (some (fx 105)) (.node (some (fx 169)) (.node (some ycw) .nil .nil) .nil) (.node (some (fx 233)) .nil .nil))) (.node (some ycy) (.node (some ycz) (.node (some (fx 153)) (.node (some (fx 281)) .nil .nil) .nil) (.node (some (fx 217)) .nil .nil)) (.node (some (fx 121)) (.node (some yak) .nil .nil) (.node (some (fx 249)) .nil .nil))))) (.node none (.node none (.node none (.node (some ybj) (.node (some ycm) (.node (some (fx 261)) .nil .nil) .nil) (.node (some ybo) .nil .nil)) (.node (some (fx 101)) (.node (some ycv) (.node (some (fx 293)) .nil .nil) .nil) .nil)) (.node none (.node none (.node none (.node (some ycs) .nil .nil) .nil) (.node (some (fx 213)) .nil .nil)) (.node (some (fx 117)) (.node (some (fx 181)) .nil .nil) (.node (some (fx 245)) .nil .nil)))) (.node (some ycr) (.node (some (fx 45)) (.node (some ybf) (.node (some (fx 141)) .nil .nil) (.node (some (fx 205)) .nil .nil)) (.node (some ycg) (.node (some (fx 173)) (.node (some (fx 301)) .nil .nil) .nil) (.node (some ycl) .nil .nil))) (.node none (.node none (.node (some (fx 157)) (.node (some (fx 285)) .nil .nil) .nil) (.node (some (fx 221)) .nil .nil)) (.node (some (fx 125)) (.node (some yap) .nil .nil) (.node (some (fx 253)) .nil .nil))))))) (.node none (.node none (.node none (.node none (.node none (.node (some (fx 64)) (.node (some yab) (.node (some (fx 256)) .nil .nil) .nil) (.node (some yas) .nil .nil)) (.node none (.node (some (fx 160)) (.node (some (fx 288)) .nil .nil) .nil) (.node (some (fx 224)) .nil .nil))) (.node (some (fx 48)) (.node (some ycf) .nil (.node (some (fx 208)) .nil .nil)) (.node none (.node (some (fx 176)) (.node (some (fx 304)) .nil .nil) .nil) (.node (some yco) .nil .nil)))) (.node none (.node (some ybr) (.node (some ybx) (.node none (.node (some (fx 264)) .nil .nil) .nil) (.node (some ybd) .nil .nil)) (.node (some (fx 104)) (.node (some (fx 168)) (.node (some ycu) .nil .nil) .nil) (.node (some ybw) .nil .nil))) (.node (some ycx) (.node (some yad) (.node none (.node (some ycn) .nil .nil) .nil) (.node (some (fx 216)) .nil .nil)) (.node (some (fx 120)) (.node (some yax) .nil .nil) (.node (some (fx 248)) .nil .nil))))) (.node (some (fx 12)) (.node none (.node none (.node (some yay) (.node none (.node (some (fx 260)) .nil .nil) .nil) (.node (some yaz) .nil .nil)) (.node (some (fx 100)) (.node (some ybv) (.node (some (fx 292)) .nil .nil) .nil) .nil)) (.node none (.node none .nil (.node (some (fx 212)) .nil .nil)) (.node (some (fx 116)) (.node (some (fx 180)) (.node (some (fx 308)) .nil .nil) .nil) (.node (some (fx 244)) .nil .nil)))) (.node (some yby) (.node (some yda) (.node (some yah) (.node (some (fx 140)) (.node (some (fx 268)) .nil .nil) .nil) .nil) (.node (some (fx 108)) (.node (some (fx 172)) (.node (some (fx 300)) .nil .nil) .nil) (.node (some ycj) .nil .nil))) (.node none (.node (some (fx 92)) (.node (some (fx 156)) (.node (some (fx 284)) .nil .nil) .nil) (.node (some (fx 220)) .nil .nil)) (.node (some (fx 124)) (.node (some ybc) .nil .nil) (.node (some (fx 252)) .nil .nil)))))) (.node none (.node (some ybp) (.node (some (fx 18)) (.node (some (fx 34)) (.node (some (fx 66)) (.node (some ybm) (.node (some (fx 258)) .nil .nil) .nil) (.node (some (fx 194)) .nil .nil)) (.node (some (fx 98)) (.node (some (fx 162)) (.node (some (fx 290)) .nil .nil) .nil) .nil)) (.node (some (fx 50)) (.node (some ydd) .nil (.node (some (fx 210)) .nil .nil)) (.node none (.node (some (fx 178)) .nil .nil) (.node (some (fx 242)) .nil .nil)))) (.node (some (fx 26)) (.node none (.node none (.node (some yaf) (.node (some (fx 266)) .nil .nil) .nil) (.node (some ybh) .nil .nil)) (.node (some (fx 106)) (.node (some (fx 170)) .nil .nil) (.node (some (fx 234)) .nil .nil))) (.node (some (fx 58)) (.node (some (fx 90)) (.node (some (fx 154)) (.node (some (fx 282)) .nil .nil) .nil) (.node (some (fx 218)) .nil .nil)) (.node (some (fx 122)) (.node (some yan) .nil .nil) (.node (some yat) .nil .nil))))) (.node (some ybs) (.node none (.node (some yag) (.node (some yaj) (.node (some yct) (.node (some (fx 262)) .nil .nil) .nil) (.node (some ybe) .nil .nil)) (.node (some (fx 102)) (.node (some ycq) (.node (some (fx 294)) .nil .nil) .nil) .nil)) (.node none (.node (some ydc) (.node none (.node (some yci) .nil .nil) .nil) (.node (some (fx 214)) .nil .nil)) (.node (some (fx 118)) (.node (some yam) .nil .nil) (.node (some (fx 246)) .nil .nil)))) (.node none (.node none (.node (some ybt) .nil (.node (some (fx 206)) .nil .nil)) (.node none (.node (some (fx 174)) (.node (some (fx 302)) .nil .nil) .nil) (.node (some ych) .nil .nil))) (.node none (.node none (.node (some (fx 158)) (.node (some (fx 286)) .nil .nil) .nil) (.node (some (fx 222)) .nil .nil)) (.node (some yal) (.node (some ybn) .nil .nil) (.node (some (fx 254)) .nil .nil))))))))
def stdL : List (Nat × PFn) := [(195, yaa), (128, yab), (87, yac), (88, yad), (137, yae), (138, yaf), (38, yag), (76, yah), (27, yai), (70, yaj), (185, yak), (126, yal), (182, yam), (186, yan), (187, yao), (189, yap), (191, yaq), (193, yar), (192, yas), (250, yat), (129, yau), (251, yav), (199, yaw), (184, yax), (68, yay), (196, yaz), (67, yba), (183, ybb), (188, ybc), (200, ybd), (198, ybe), (77, ybf), (71, ybg), (202, ybh), (203, ybi), (69, ybj), (127, ybk), (201, ybl), (130, ybm), (190, ybn), (197, ybo), (10, ybp), (15, ybq), (40, ybr), (14, ybs), (78, ybt), (235, ybu), (164, ybv), (232, ybw), (72, ybx), (28, yby), (167, ybz), (131, yca), (39, ycb), (279, ycc), (55, ycd), (79, yce), (80, ycf), (109, ycg), (238, ych), (278, yci), (236, ycj), (239, yck), (237, ycl), (133, ycm), (280, ycn), (240, yco), (241, ycp), (166, ycq), (29, ycr), (277, ycs), (134, yct), (296, ycu), (165, ycv), (297, ycw), (56, ycx), (57, ycy), (89, ycz), (44, yda), (43, ydb), (86, ydc), (82, ydd), (135, yde)]
noncomputable def fnsXL : List (Nat × PFn) := stdL ++ lazyL idxs
theorem ok_yaa : pFn Tryz.prog 195 = some yaa := by kernel_rfl
theorem ok_yab : pFn Tryz.prog 128 = some yab := by kernel_rfl
theorem ok_yac : pFn Tryz.prog 87 = some yac := by kernel_rfl
theorem ok_yad : pFn Tryz.prog 88 = some yad := by kernel_rfl
theorem ok_yae : pFn Tryz.prog 137 = some yae := by kernel_rfl
theorem ok_yaf : pFn Tryz.prog 138 = some yaf := by kernel_rfl
theorem ok_yag : pFn Tryz.prog 38 = some yag := by kernel_rfl
theorem ok_yah : pFn Tryz.prog 76 = some yah := by kernel_rfl
theorem ok_yai : pFn Tryz.prog 27 = some yai := by kernel_rfl
theorem ok_yaj : pFn Tryz.prog 70 = some yaj := by kernel_rfl
theorem ok_yak : pFn Tryz.prog 185 = some yak := by kernel_rfl
theorem ok_yal : pFn Tryz.prog 126 = some yal := by kernel_rfl
theorem ok_yam : pFn Tryz.prog 182 = some yam := by kernel_rfl
theorem ok_yan : pFn Tryz.prog 186 = some yan := by kernel_rfl
theorem ok_yao : pFn Tryz.prog 187 = some yao := by kernel_rfl
theorem ok_yap : pFn Tryz.prog 189 = some yap := by kernel_rfl
theorem ok_yaq : pFn Tryz.prog 191 = some yaq := by kernel_rfl
theorem ok_yar : pFn Tryz.prog 193 = some yar := by kernel_rfl
theorem ok_yas : pFn Tryz.prog 192 = some yas := by kernel_rfl
theorem ok_yat : pFn Tryz.prog 250 = some yat := by kernel_rfl
theorem ok_yau : pFn Tryz.prog 129 = some yau := by kernel_rfl
theorem ok_yav : pFn Tryz.prog 251 = some yav := by kernel_rfl
theorem ok_yaw : pFn Tryz.prog 199 = some yaw := by kernel_rfl
theorem ok_yax : pFn Tryz.prog 184 = some yax := by kernel_rfl
theorem ok_yay : pFn Tryz.prog 68 = some yay := by kernel_rfl
theorem ok_yaz : pFn Tryz.prog 196 = some yaz := by kernel_rfl
theorem ok_yba : pFn Tryz.prog 67 = some yba := by kernel_rfl
theorem ok_ybb : pFn Tryz.prog 183 = some ybb := by kernel_rfl
theorem ok_ybc : pFn Tryz.prog 188 = some ybc := by kernel_rfl
theorem ok_ybd : pFn Tryz.prog 200 = some ybd := by kernel_rfl
theorem ok_ybe : pFn Tryz.prog 198 = some ybe := by kernel_rfl
theorem ok_ybf : pFn Tryz.prog 77 = some ybf := by kernel_rfl
theorem ok_ybg : pFn Tryz.prog 71 = some ybg := by kernel_rfl
theorem ok_ybh : pFn Tryz.prog 202 = some ybh := by kernel_rfl
theorem ok_ybi : pFn Tryz.prog 203 = some ybi := by kernel_rfl
theorem ok_ybj : pFn Tryz.prog 69 = some ybj := by kernel_rfl
theorem ok_ybk : pFn Tryz.prog 127 = some ybk := by kernel_rfl
theorem ok_ybl : pFn Tryz.prog 201 = some ybl := by kernel_rfl
theorem ok_ybm : pFn Tryz.prog 130 = some ybm := by kernel_rfl
theorem ok_ybn : pFn Tryz.prog 190 = some ybn := by kernel_rfl
theorem ok_ybo : pFn Tryz.prog 197 = some ybo := by kernel_rfl
theorem ok_ybp : pFn Tryz.prog 10 = some ybp := by kernel_rfl
theorem ok_ybq : pFn Tryz.prog 15 = some ybq := by kernel_rfl
theorem ok_ybr : pFn Tryz.prog 40 = some ybr := by kernel_rfl
theorem ok_ybs : pFn Tryz.prog 14 = some ybs := by kernel_rfl
theorem ok_ybt : pFn Tryz.prog 78 = some ybt := by kernel_rfl
theorem ok_ybu : pFn Tryz.prog 235 = some ybu := by kernel_rfl
theorem ok_ybv : pFn Tryz.prog 164 = some ybv := by kernel_rfl
theorem ok_ybw : pFn Tryz.prog 232 = some ybw := by kernel_rfl
theorem ok_ybx : pFn Tryz.prog 72 = some ybx := by kernel_rfl
theorem ok_yby : pFn Tryz.prog 28 = some yby := by kernel_rfl
theorem ok_ybz : pFn Tryz.prog 167 = some ybz := by kernel_rfl
theorem ok_yca : pFn Tryz.prog 131 = some yca := by kernel_rfl
theorem ok_ycb : pFn Tryz.prog 39 = some ycb := by kernel_rfl
theorem ok_ycc : pFn Tryz.prog 279 = some ycc := by kernel_rfl
theorem ok_ycd : pFn Tryz.prog 55 = some ycd := by kernel_rfl
theorem ok_yce : pFn Tryz.prog 79 = some yce := by kernel_rfl
theorem ok_ycf : pFn Tryz.prog 80 = some ycf := by kernel_rfl
theorem ok_ycg : pFn Tryz.prog 109 = some ycg := by kernel_rfl
theorem ok_ych : pFn Tryz.prog 238 = some ych := by kernel_rfl
theorem ok_yci : pFn Tryz.prog 278 = some yci := by kernel_rfl
theorem ok_ycj : pFn Tryz.prog 236 = some ycj := by kernel_rfl
theorem ok_yck : pFn Tryz.prog 239 = some yck := by kernel_rfl
theorem ok_ycl : pFn Tryz.prog 237 = some ycl := by kernel_rfl
theorem ok_ycm : pFn Tryz.prog 133 = some ycm := by kernel_rfl
theorem ok_ycn : pFn Tryz.prog 280 = some ycn := by kernel_rfl
theorem ok_yco : pFn Tryz.prog 240 = some yco := by kernel_rfl
theorem ok_ycp : pFn Tryz.prog 241 = some ycp := by kernel_rfl
theorem ok_ycq : pFn Tryz.prog 166 = some ycq := by kernel_rfl
theorem ok_ycr : pFn Tryz.prog 29 = some ycr := by kernel_rfl
theorem ok_ycs : pFn Tryz.prog 277 = some ycs := by kernel_rfl
theorem ok_yct : pFn Tryz.prog 134 = some yct := by kernel_rfl
theorem ok_ycu : pFn Tryz.prog 296 = some ycu := by kernel_rfl
theorem ok_ycv : pFn Tryz.prog 165 = some ycv := by kernel_rfl
theorem ok_ycw : pFn Tryz.prog 297 = some ycw := by kernel_rfl
theorem ok_ycx : pFn Tryz.prog 56 = some ycx := by kernel_rfl
theorem ok_ycy : pFn Tryz.prog 57 = some ycy := by kernel_rfl
theorem ok_ycz : pFn Tryz.prog 89 = some ycz := by kernel_rfl
theorem ok_yda : pFn Tryz.prog 44 = some yda := by kernel_rfl
theorem ok_ydb : pFn Tryz.prog 43 = some ydb := by kernel_rfl
theorem ok_ydc : pFn Tryz.prog 86 = some ydc := by kernel_rfl
theorem ok_ydd : pFn Tryz.prog 82 = some ydd := by kernel_rfl
theorem ok_yde : pFn Tryz.prog 135 = some yde := by kernel_rfl
theorem std_ok : AllOk Tryz.prog stdL := ⟨⟨rfl, ok_yaa⟩, ⟨rfl, ok_yab⟩, ⟨rfl, ok_yac⟩, ⟨rfl, ok_yad⟩, ⟨rfl, ok_yae⟩, ⟨rfl, ok_yaf⟩, ⟨rfl, ok_yag⟩, ⟨rfl, ok_yah⟩, ⟨rfl, ok_yai⟩, ⟨rfl, ok_yaj⟩, ⟨rfl, ok_yak⟩, ⟨rfl, ok_yal⟩, ⟨rfl, ok_yam⟩, ⟨rfl, ok_yan⟩, ⟨rfl, ok_yao⟩, ⟨rfl, ok_yap⟩, ⟨rfl, ok_yaq⟩, ⟨rfl, ok_yar⟩, ⟨rfl, ok_yas⟩, ⟨rfl, ok_yat⟩, ⟨rfl, ok_yau⟩, ⟨rfl, ok_yav⟩, ⟨rfl, ok_yaw⟩, ⟨rfl, ok_yax⟩, ⟨rfl, ok_yay⟩, ⟨rfl, ok_yaz⟩, ⟨rfl, ok_yba⟩, ⟨rfl, ok_ybb⟩, ⟨rfl, ok_ybc⟩, ⟨rfl, ok_ybd⟩, ⟨rfl, ok_ybe⟩, ⟨rfl, ok_ybf⟩, ⟨rfl, ok_ybg⟩, ⟨rfl, ok_ybh⟩, ⟨rfl, ok_ybi⟩, ⟨rfl, ok_ybj⟩, ⟨rfl, ok_ybk⟩, ⟨rfl, ok_ybl⟩, ⟨rfl, ok_ybm⟩, ⟨rfl, ok_ybn⟩, ⟨rfl, ok_ybo⟩, ⟨rfl, ok_ybp⟩, ⟨rfl, ok_ybq⟩, ⟨rfl, ok_ybr⟩, ⟨rfl, ok_ybs⟩, ⟨rfl, ok_ybt⟩, ⟨rfl, ok_ybu⟩, ⟨rfl, ok_ybv⟩, ⟨rfl, ok_ybw⟩, ⟨rfl, ok_ybx⟩, ⟨rfl, ok_yby⟩, ⟨rfl, ok_ybz⟩, ⟨rfl, ok_yca⟩, ⟨rfl, ok_ycb⟩, ⟨rfl, ok_ycc⟩, ⟨rfl, ok_ycd⟩, ⟨rfl, ok_yce⟩, ⟨rfl, ok_ycf⟩, ⟨rfl, ok_ycg⟩, ⟨rfl, ok_ych⟩, ⟨rfl, ok_yci⟩, ⟨rfl, ok_ycj⟩, ⟨rfl, ok_yck⟩, ⟨rfl, ok_ycl⟩, ⟨rfl, ok_ycm⟩, ⟨rfl, ok_ycn⟩, ⟨rfl, ok_yco⟩, ⟨rfl, ok_ycp⟩, ⟨rfl, ok_ycq⟩, ⟨rfl, ok_ycr⟩, ⟨rfl, ok_ycs⟩, ⟨rfl, ok_yct⟩, ⟨rfl, ok_ycu⟩, ⟨rfl, ok_ycv⟩, ⟨rfl, ok_ycw⟩, ⟨rfl, ok_ycx⟩, ⟨rfl, ok_ycy⟩, ⟨rfl, ok_ycz⟩, ⟨rfl, ok_yda⟩, ⟨rfl, ok_ydb⟩, ⟨rfl, ok_ydc⟩, ⟨rfl, ok_ydd⟩, ⟨rfl, ok_yde⟩, trivial⟩
theorem fns_ok : AllOk Tryz.prog fnsXL := allok_app std_ok (lazy_ok (by kernel_rfl))
theorem fns_build : fnsX = buildT fnsXL := by kernel_rfl
theorem mix : Tryz.prog.follows .mixedOrders = true := by kernel_rfl
theorem few : Tryz.prog.globals.size ≤ k40.toNat := Nat.le_of_ble_eq_true (by kernel_rfl)
end Tz
