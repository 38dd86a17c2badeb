/-
  SB: the functions are those of the program. No condition.
-/
import Derived.Test.YtdghbgpolijpcaaGreatDoorFnsY
import Derived.Test.YtdghbgpolijpcaaGreatDoorMSum
import Derived.Test.YtdghbgpolijpcaaGreatDoorProg
import Derived.KernelRfl
set_option linter.unusedSimpArgs false
set_option linter.unusedVariables false
set_option linter.unusedSectionVars false
namespace Tb
open Go.Sx Go Go.Proofs
noncomputable def fx (n : Nat) : PFn := match pFn Tryz.prog n with
  | some p => p
  | none => ⟨.ret, []⟩
theorem okx {n : Nat} (h : (pFn Tryz.prog n).isSome = true) : pFn Tryz.prog n = some (fx n) := by
  unfold fx
  cases hp : pFn Tryz.prog n with
  | none => rw [hp] at h; cases h
  | some p => rfl
def idxs : List Nat := [18, 38, 39, 40, 55, 56, 57, 58, 59, 60, 61, 62, 68, 69, 70, 71, 72, 73, 74, 75, 76, 85, 86, 87, 88, 89, 90, 91, 92, 93, 94, 95, 96, 97, 98, 99, 100, 101, 102, 103, 104, 105, 106, 107, 108, 109, 110, 111, 112, 113, 114, 115, 116, 117, 118, 119, 120, 121, 122, 123, 124, 125, 126, 128, 129, 132, 133, 134, 135, 136, 137, 138, 139, 140, 141, 142, 143, 144, 145, 146, 147, 148, 149, 150, 151, 152, 153, 154, 155, 156, 157, 158, 159, 160, 161, 162, 164, 165, 166, 167, 168, 169, 170, 171, 172, 173, 174, 175, 176, 177, 178, 179, 180, 181, 182, 183, 184, 185, 186, 187, 188, 189, 190, 191, 192, 193, 194]
noncomputable def lazyL : List Nat → List (Nat × PFn)
  | [] => []
  | n :: l => (n, fx n) :: lazyL l
noncomputable def lazyB : List Nat → Bool
  | [] => true
  | n :: l => Nat.blt n 8000 && (pFn Tryz.prog n).isSome && lazyB l
theorem lazy_ok : ∀ {l : List Nat}, lazyB l = true → AllOk Tryz.prog (lazyL l)
  | [], _ => trivial
  | n :: l, h => by
    simp only [lazyB, Bool.and_eq_true] at h
    exact ⟨⟨h.1.1, okx h.1.2⟩, lazy_ok h.2⟩
theorem allok_app {P : Program} : ∀ {l m : List (Nat × PFn)}, AllOk P l → AllOk P m → AllOk P (l ++ m)
  | [], _, _, h => h
  | _ :: _, _, h, k => ⟨h.1, allok_app h.2 k⟩
noncomputable def fnsX : T PFn := (.node none (.node none (.node (some law13_BranchSets) (.node (some ref13_Same) (.node (some ref13_Has) (.node (some branch_members) (.node (some ref02_Uint) .nil (.node (some (fx 191)) .nil .nil)) (.node (some (fx 95)) (.node (some (fx 159)) .nil .nil) .nil)) (.node (some wire_Reader_Text) (.node none (.node (some (fx 143)) .nil .nil) .nil) (.node (some (fx 111)) (.node (some (fx 175)) .nil .nil) .nil))) (.node (some wire_Writer_Done) (.node (some (fx 39)) (.node (some (fx 71)) (.node (some (fx 135)) .nil .nil) .nil) (.node (some (fx 103)) (.node (some (fx 167)) .nil .nil) .nil)) (.node (some (fx 55)) (.node (some (fx 87)) (.node (some (fx 151)) .nil .nil) .nil) (.node (some (fx 119)) (.node (some (fx 183)) .nil .nil) .nil)))) (.node (some ref13_Union) (.node (some law13_increasing) (.node (some cmp_Compare_string) .nil (.node (some (fx 99)) .nil .nil)) (.node none (.node none (.node (some (fx 147)) .nil .nil) .nil) (.node (some (fx 115)) (.node (some (fx 179)) .nil .nil) .nil))) (.node (some wire_Reader_Raw) (.node (some wire_Writer_Uint) (.node (some (fx 75)) (.node (some (fx 139)) .nil .nil) .nil) (.node (some (fx 107)) (.node (some (fx 171)) .nil .nil) .nil)) (.node (some (fx 59)) (.node (some (fx 91)) (.node (some (fx 155)) .nil .nil) .nil) (.node (some (fx 123)) (.node (some (fx 187)) .nil .nil) .nil))))) (.node (some law13_BranchBytes) (.node (some ref13_Set) (.node (some ref13_Compare) (.node (some slices_Contains_Branch_Branch) (.node (some wire_Reader_Uint) (.node (some (fx 129)) .nil .nil) (.node (some (fx 193)) .nil .nil)) (.node (some (fx 97)) (.node (some (fx 161)) .nil .nil) .nil)) (.node (some wire_Reader_take) (.node none (.node (some (fx 145)) .nil .nil) .nil) (.node (some (fx 113)) (.node (some (fx 177)) .nil .nil) .nil))) (.node (some ref13_Encode) (.node (some wire_Writer_Int) (.node (some (fx 73)) (.node (some (fx 137)) .nil .nil) .nil) (.node (some (fx 105)) (.node (some (fx 169)) .nil .nil) .nil)) (.node (some (fx 57)) (.node (some (fx 89)) (.node (some (fx 153)) .nil .nil) .nil) (.node (some (fx 121)) (.node (some (fx 185)) .nil .nil) .nil)))) (.node (some ref13_Minus) (.node (some wire_Writer_Raw) (.node (some ref13_sign) (.node (some (fx 69)) (.node (some (fx 133)) .nil .nil) .nil) (.node (some (fx 101)) (.node (some (fx 165)) .nil .nil) .nil)) (.node (some cmp_isNaN_string) (.node (some (fx 85)) (.node (some (fx 149)) .nil .nil) .nil) (.node (some (fx 117)) (.node (some (fx 181)) .nil .nil) .nil))) (.node (some ref01_Around) (.node (some ref02_Raw) (.node none (.node (some (fx 141)) .nil .nil) .nil) (.node (some (fx 109)) (.node (some (fx 173)) .nil .nil) .nil)) (.node (some (fx 61)) (.node (some (fx 93)) (.node (some (fx 157)) .nil .nil) .nil) (.node (some (fx 125)) (.node (some (fx 189)) .nil .nil) .nil)))))) (.node none (.node (some law13_BranchAlgebra) (.node (some branch_Set) (.node (some branch_Compare) (.node (some ref13_put) (.node (some ref02_Zigzag) (.node (some (fx 128)) .nil .nil) (.node (some (fx 192)) .nil .nil)) (.node (some (fx 96)) (.node (some (fx 160)) .nil .nil) .nil)) (.node (some wire_Reader_End) (.node none (.node (some (fx 144)) .nil .nil) .nil) (.node (some (fx 112)) (.node (some (fx 176)) .nil .nil) .nil))) (.node (some ref01_SameBytes) (.node (some (fx 40)) (.node (some (fx 72)) (.node (some (fx 136)) .nil .nil) .nil) (.node (some (fx 104)) (.node (some (fx 168)) .nil .nil) .nil)) (.node (some (fx 56)) (.node (some (fx 88)) (.node (some (fx 152)) .nil .nil) .nil) (.node (some (fx 120)) (.node (some (fx 184)) .nil .nil) .nil)))) (.node (some branch_Minus) (.node (some branch_Encode) (.node (some cmp_Compare_int) (.node (some (fx 68)) (.node (some (fx 132)) .nil .nil) .nil) (.node (some (fx 100)) (.node (some (fx 164)) .nil .nil) .nil)) (.node (some slices_Index_Branch_Branch) (.node none (.node (some (fx 148)) .nil .nil) .nil) (.node (some (fx 116)) (.node (some (fx 180)) .nil .nil) .nil))) (.node (some ref01_Few) (.node (some ref02_Int) (.node (some (fx 76)) (.node (some (fx 140)) .nil .nil) .nil) (.node (some (fx 108)) (.node (some (fx 172)) .nil .nil) .nil)) (.node (some (fx 60)) (.node (some (fx 92)) (.node (some (fx 156)) .nil .nil) .nil) (.node (some (fx 124)) (.node (some (fx 188)) .nil .nil) .nil))))) (.node (some ref13_List) (.node (some branch_Union) (.node (some (fx 18)) (.node (some cmp_Or_int) (.node (some wire_Reader_fail) .nil (.node (some (fx 194)) .nil .nil)) (.node (some (fx 98)) (.node (some (fx 162)) .nil .nil) .nil)) (.node (some wire_Reader_length) (.node none (.node (some (fx 146)) .nil .nil) .nil) (.node (some (fx 114)) (.node (some (fx 178)) .nil .nil) .nil))) (.node (some branch_Decode) (.node (some wire_Writer_Text) (.node (some (fx 74)) (.node (some (fx 138)) .nil .nil) .nil) (.node (some (fx 106)) (.node (some (fx 170)) .nil .nil) .nil)) (.node (some (fx 58)) (.node (some (fx 90)) (.node (some (fx 154)) .nil .nil) .nil) (.node (some (fx 122)) (.node (some (fx 186)) .nil .nil) .nil)))) (.node (some branch_Has) (.node (some wire_Read) (.node (some (fx 38)) (.node (some (fx 70)) (.node (some (fx 134)) .nil .nil) .nil) (.node (some (fx 102)) (.node (some (fx 166)) .nil .nil) .nil)) (.node (some cmp_isNaN_int) (.node (some (fx 86)) (.node (some (fx 150)) .nil .nil) .nil) (.node (some (fx 118)) (.node (some (fx 182)) .nil .nil) .nil))) (.node (some branch_ordered) (.node (some wire_Reader_Int) (.node none (.node (some (fx 142)) .nil .nil) .nil) (.node (some (fx 110)) (.node (some (fx 174)) .nil .nil) .nil)) (.node (some (fx 62)) (.node (some (fx 94)) (.node (some (fx 158)) .nil .nil) .nil) (.node (some (fx 126)) (.node (some (fx 190)) .nil .nil) .nil)))))))
def stdL : List (Nat × PFn) := [(3, law13_BranchSets), (4, law13_BranchAlgebra), (6, ref13_List), (7, ref13_Same), (8, branch_Set), (9, ref13_Set), (10, branch_Union), (11, ref13_Union), (12, branch_Minus), (13, ref13_Minus), (14, branch_Has), (15, ref13_Has), (16, branch_Compare), (17, ref13_Compare), (19, law13_increasing), (30, branch_ordered), (31, branch_members), (32, ref13_put), (37, ref13_sign), (33, slices_Contains_Branch_Branch), (52, slices_Index_Branch_Branch), (34, cmp_Or_int), (35, cmp_Compare_string), (36, cmp_Compare_int), (53, cmp_isNaN_string), (54, cmp_isNaN_int), (29, ref01_Around), (26, branch_Decode), (20, branch_Encode), (5, law13_BranchBytes), (28, ref01_Few), (24, ref01_SameBytes), (44, ref02_Int), (45, ref02_Raw), (63, ref02_Uint), (64, ref02_Zigzag), (25, ref13_Encode), (22, wire_Read), (48, wire_Reader_End), (46, wire_Reader_Int), (27, wire_Reader_Raw), (47, wire_Reader_Text), (65, wire_Reader_Uint), (66, wire_Reader_fail), (50, wire_Reader_length), (49, wire_Reader_take), (23, wire_Writer_Done), (41, wire_Writer_Int), (21, wire_Writer_Raw), (42, wire_Writer_Text), (43, wire_Writer_Uint)]
noncomputable def fnsXL : List (Nat × PFn) := stdL ++ lazyL idxs
theorem ok_law13_BranchSets : pFn Tryz.prog 3 = some law13_BranchSets := by kernel_rfl
theorem ok_law13_BranchAlgebra : pFn Tryz.prog 4 = some law13_BranchAlgebra := by kernel_rfl
theorem ok_ref13_List : pFn Tryz.prog 6 = some ref13_List := by kernel_rfl
theorem ok_ref13_Same : pFn Tryz.prog 7 = some ref13_Same := by kernel_rfl
theorem ok_branch_Set : pFn Tryz.prog 8 = some branch_Set := by kernel_rfl
theorem ok_ref13_Set : pFn Tryz.prog 9 = some ref13_Set := by kernel_rfl
theorem ok_branch_Union : pFn Tryz.prog 10 = some branch_Union := by kernel_rfl
theorem ok_ref13_Union : pFn Tryz.prog 11 = some ref13_Union := by kernel_rfl
theorem ok_branch_Minus : pFn Tryz.prog 12 = some branch_Minus := by kernel_rfl
theorem ok_ref13_Minus : pFn Tryz.prog 13 = some ref13_Minus := by kernel_rfl
theorem ok_branch_Has : pFn Tryz.prog 14 = some branch_Has := by kernel_rfl
theorem ok_ref13_Has : pFn Tryz.prog 15 = some ref13_Has := by kernel_rfl
theorem ok_branch_Compare : pFn Tryz.prog 16 = some branch_Compare := by kernel_rfl
theorem ok_ref13_Compare : pFn Tryz.prog 17 = some ref13_Compare := by kernel_rfl
theorem ok_law13_increasing : pFn Tryz.prog 19 = some law13_increasing := by kernel_rfl
theorem ok_branch_ordered : pFn Tryz.prog 30 = some branch_ordered := by kernel_rfl
theorem ok_branch_members : pFn Tryz.prog 31 = some branch_members := by kernel_rfl
theorem ok_ref13_put : pFn Tryz.prog 32 = some ref13_put := by kernel_rfl
theorem ok_ref13_sign : pFn Tryz.prog 37 = some ref13_sign := by kernel_rfl
theorem ok_slices_Contains_Branch_Branch : pFn Tryz.prog 33 = some slices_Contains_Branch_Branch := by kernel_rfl
theorem ok_slices_Index_Branch_Branch : pFn Tryz.prog 52 = some slices_Index_Branch_Branch := by kernel_rfl
theorem ok_cmp_Or_int : pFn Tryz.prog 34 = some cmp_Or_int := by kernel_rfl
theorem ok_cmp_Compare_string : pFn Tryz.prog 35 = some cmp_Compare_string := by kernel_rfl
theorem ok_cmp_Compare_int : pFn Tryz.prog 36 = some cmp_Compare_int := by kernel_rfl
theorem ok_cmp_isNaN_string : pFn Tryz.prog 53 = some cmp_isNaN_string := by kernel_rfl
theorem ok_cmp_isNaN_int : pFn Tryz.prog 54 = some cmp_isNaN_int := by kernel_rfl
theorem ok_ref01_Around : pFn Tryz.prog 29 = some ref01_Around := by kernel_rfl
theorem ok_branch_Decode : pFn Tryz.prog 26 = some branch_Decode := by kernel_rfl
theorem ok_branch_Encode : pFn Tryz.prog 20 = some branch_Encode := by kernel_rfl
theorem ok_law13_BranchBytes : pFn Tryz.prog 5 = some law13_BranchBytes := by kernel_rfl
theorem ok_ref01_Few : pFn Tryz.prog 28 = some ref01_Few := by kernel_rfl
theorem ok_ref01_SameBytes : pFn Tryz.prog 24 = some ref01_SameBytes := by kernel_rfl
theorem ok_ref02_Int : pFn Tryz.prog 44 = some ref02_Int := by kernel_rfl
theorem ok_ref02_Raw : pFn Tryz.prog 45 = some ref02_Raw := by kernel_rfl
theorem ok_ref02_Uint : pFn Tryz.prog 63 = some ref02_Uint := by kernel_rfl
theorem ok_ref02_Zigzag : pFn Tryz.prog 64 = some ref02_Zigzag := by kernel_rfl
theorem ok_ref13_Encode : pFn Tryz.prog 25 = some ref13_Encode := by kernel_rfl
theorem ok_wire_Read : pFn Tryz.prog 22 = some wire_Read := by kernel_rfl
theorem ok_wire_Reader_End : pFn Tryz.prog 48 = some wire_Reader_End := by kernel_rfl
theorem ok_wire_Reader_Int : pFn Tryz.prog 46 = some wire_Reader_Int := by kernel_rfl
theorem ok_wire_Reader_Raw : pFn Tryz.prog 27 = some wire_Reader_Raw := by kernel_rfl
theorem ok_wire_Reader_Text : pFn Tryz.prog 47 = some wire_Reader_Text := by kernel_rfl
theorem ok_wire_Reader_Uint : pFn Tryz.prog 65 = some wire_Reader_Uint := by kernel_rfl
theorem ok_wire_Reader_fail : pFn Tryz.prog 66 = some wire_Reader_fail := by kernel_rfl
theorem ok_wire_Reader_length : pFn Tryz.prog 50 = some wire_Reader_length := by kernel_rfl
theorem ok_wire_Reader_take : pFn Tryz.prog 49 = some wire_Reader_take := by kernel_rfl
theorem ok_wire_Writer_Done : pFn Tryz.prog 23 = some wire_Writer_Done := by kernel_rfl
theorem ok_wire_Writer_Int : pFn Tryz.prog 41 = some wire_Writer_Int := by kernel_rfl
theorem ok_wire_Writer_Raw : pFn Tryz.prog 21 = some wire_Writer_Raw := by kernel_rfl
theorem ok_wire_Writer_Text : pFn Tryz.prog 42 = some wire_Writer_Text := by kernel_rfl
theorem ok_wire_Writer_Uint : pFn Tryz.prog 43 = some wire_Writer_Uint := by kernel_rfl
theorem std_ok : AllOk Tryz.prog stdL := ⟨⟨rfl, ok_law13_BranchSets⟩, ⟨rfl, ok_law13_BranchAlgebra⟩, ⟨rfl, ok_ref13_List⟩, ⟨rfl, ok_ref13_Same⟩, ⟨rfl, ok_branch_Set⟩, ⟨rfl, ok_ref13_Set⟩, ⟨rfl, ok_branch_Union⟩, ⟨rfl, ok_ref13_Union⟩, ⟨rfl, ok_branch_Minus⟩, ⟨rfl, ok_ref13_Minus⟩, ⟨rfl, ok_branch_Has⟩, ⟨rfl, ok_ref13_Has⟩, ⟨rfl, ok_branch_Compare⟩, ⟨rfl, ok_ref13_Compare⟩, ⟨rfl, ok_law13_increasing⟩, ⟨rfl, ok_branch_ordered⟩, ⟨rfl, ok_branch_members⟩, ⟨rfl, ok_ref13_put⟩, ⟨rfl, ok_ref13_sign⟩, ⟨rfl, ok_slices_Contains_Branch_Branch⟩, ⟨rfl, ok_slices_Index_Branch_Branch⟩, ⟨rfl, ok_cmp_Or_int⟩, ⟨rfl, ok_cmp_Compare_string⟩, ⟨rfl, ok_cmp_Compare_int⟩, ⟨rfl, ok_cmp_isNaN_string⟩, ⟨rfl, ok_cmp_isNaN_int⟩, ⟨rfl, ok_ref01_Around⟩, ⟨rfl, ok_branch_Decode⟩, ⟨rfl, ok_branch_Encode⟩, ⟨rfl, ok_law13_BranchBytes⟩, ⟨rfl, ok_ref01_Few⟩, ⟨rfl, ok_ref01_SameBytes⟩, ⟨rfl, ok_ref02_Int⟩, ⟨rfl, ok_ref02_Raw⟩, ⟨rfl, ok_ref02_Uint⟩, ⟨rfl, ok_ref02_Zigzag⟩, ⟨rfl, ok_ref13_Encode⟩, ⟨rfl, ok_wire_Read⟩, ⟨rfl, ok_wire_Reader_End⟩, ⟨rfl, ok_wire_Reader_Int⟩, ⟨rfl, ok_wire_Reader_Raw⟩, ⟨rfl, ok_wire_Reader_Text⟩, ⟨rfl, ok_wire_Reader_Uint⟩, ⟨rfl, ok_wire_Reader_fail⟩, ⟨rfl, ok_wire_Reader_length⟩, ⟨rfl, ok_wire_Reader_take⟩, ⟨rfl, ok_wire_Writer_Done⟩, ⟨rfl, ok_wire_Writer_Int⟩, ⟨rfl, ok_wire_Writer_Raw⟩, ⟨rfl, ok_wire_Writer_Text⟩, ⟨rfl, ok_wire_Writer_Uint⟩, trivial⟩
theorem fns_ok : AllOk Tryz.prog fnsXL := allok_app std_ok (lazy_ok (by kernel_rfl))
theorem fns_build : fnsX = buildT fnsXL := by kernel_rfl
theorem mix : Tryz.prog.follows .mixedOrders = true := by kernel_rfl
theorem few : Tryz.prog.globals.size ≤ k40.toNat := Nat.le_of_ble_eq_true (by kernel_rfl)
end Tb
