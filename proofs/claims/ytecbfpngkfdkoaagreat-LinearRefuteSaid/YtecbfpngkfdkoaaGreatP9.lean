/- A part of the proof. No condition. -/
import Derived.Test.YtecbfpngkfdkoaaGreatP8
import Derived.Test.YtecbfpngkfdkoaaGreatProg
import Derived.KernelRfl
set_option linter.unusedSimpArgs false
set_option linter.unusedVariables false
set_option linter.unusedSectionVars false
namespace Ln
open Go.Sx Go Go.Proofs
noncomputable def fx(n:Nat):fK:=match iH Tryz.prog n with
 |some p=>p
 |none=>⟨.ret,[]⟩
theorem okx{n:Nat}(h:(iH Tryz.prog n).isSome=true):iH Tryz.prog n=some (fx n):=by
 unfold fx
 cases hp:iH Tryz.prog n with
 |none=>rw[hp] at h;cases h
 |some p=>rfl
theorem azc{n:Nat}{p:fK}(h:iH Tryz.prog n=some p):fx n=p:=by unfold fx;rw[h]
def aE7:List Nat:=[3,7,15,19,23,27,31,55,59,63,67,71,75,79,83,87,96,124,128,132,136,140,144,148,152,156,163,171,181,185,191,195,200,205,209,221,225,229,233,237,245,249,254,259,263,268,272,276,286,290,296,300,306,316,320,326,331,335,339,344,349,361,365,371]
def aE8:List Nat:=[4,12,16,20,24,28,32,56,60,64,68,72,76,80,84,90,99,125,129,133,137,141,145,149,153,157,164,172,182,186,192,196,201,206,210,222,226,230,234,240,246,250,255,260,264,269,273,277,287,291,297,303,307,317,321,327,332,336,340,345,353,362,366]
def aE9:List Nat:=[5,13,17,21,25,29,41,57,61,65,69,73,77,81,85,93,114,126,130,134,138,142,146,150,154,159,165,174,183,189,193,197,202,207,219,223,227,231,235,241,247,252,257,261,265,270,274,279,288,292,298,304,309,318,324,328,333,337,341,346,357,363,369]
def aFa:List Nat:=[6,14,18,22,26,30,54,58,62,66,70,74,78,82,86,94,123,127,131,135,139,143,147,151,155,160,169,175,184,190,194,199,203,208,220,224,228,232,236,243,248,253,258,262,267,271,275,285,289,294,299,305,310,319,325,330,334,338,342,347,358,364,370]
def idxs:List Nat:=aE7++(aE8++(aE9++aFa))
noncomputable def anR:List Nat→List (Nat×fK)
 | []=>[]
 |n ::l=>(n,fx n) ::anR l
noncomputable def uZ:List Nat→Bool
 | []=>true
 |n ::l=>Nat.blt n 8000&&(iH Tryz.prog n).isSome&&uZ l
theorem anS:∀ {l:List Nat},uZ l=true→HM Tryz.prog (anR l)
 | [],_=>trivial
 |n ::l,h=>by
  simp only[uZ,jj] at h
  exact⟨⟨h.1.1,okx h.1.2⟩,anS h.2⟩
theorem VL:∀ {l:List Nat},uZ l=true→∀ n∈l,iH Tryz.prog n=some (fx n)
 | [],_,n,hn=>by cases hn
 |m ::l,h,n,hn=>by
  simp only[uZ,jj] at h
  rcases Ga.1 hn with e|hn
  ·rw[e];exact okx h.1.2
  ·exact VL h.2 n hn
noncomputable def aBA:T fK:=(.node none (.node none (.node (some (fx 3)) (.node (some (fx 7)) (.node (some (fx 15)) (.node (some (fx 31)) (.node (some (fx 63)) (.node (some (fx 127)) (.node (some (fx 255)) .nil .nil) .nil) (.node (some (fx 191)) (.node (some (fx 319)) .nil .nil) .nil)) (.node none (.node (some (fx 159)) (.node (some (fx 287)) .nil .nil) .nil) (.node (some (fx 223)) .nil .nil))) (.node none (.node (some (fx 79)) (.node (some (fx 143)) (.node (some (fx 271)) .nil .nil) .nil) (.node (some (fx 207)) (.node (some (fx 335)) .nil .nil) .nil)) (.node none (.node (some (fx 175)) (.node (some (fx 303)) .nil .nil) .nil) .nil))) (.node (some (fx 23)) (.node none (.node (some (fx 71)) (.node (some (fx 135)) (.node (some (fx 263)) .nil .nil) .nil) (.node (some (fx 199)) (.node (some (fx 327)) .nil .nil) .nil)) (.node none .nil (.node (some (fx 231)) .nil .nil))) (.node (some (fx 55)) (.node (some (fx 87)) (.node (some (fx 151)) (.node (some (fx 279)) .nil .nil) .nil) .nil) (.node none (.node (some (fx 183)) .nil .nil) (.node (some (fx 247)) .nil .nil))))) (.node none (.node (some (fx 19)) (.node none (.node (some (fx 67)) (.node (some (fx 131)) (.node (some (fx 259)) .nil .nil) .nil) (.node (some (fx 195)) .nil .nil)) (.node (some (fx 99)) (.node (some (fx 163)) (.node (some (fx 291)) .nil .nil) .nil) (.node (some (fx 227)) .nil .nil))) (.node none (.node (some (fx 83)) (.node (some (fx 147)) (.node (some (fx 275)) .nil .nil) .nil) (.node none (.node (some (fx 339)) .nil .nil) .nil)) (.node none (.node none (.node (some (fx 307)) .nil .nil) .nil) (.node (some (fx 243)) (.node (some (fx 371)) .nil .nil) .nil)))) (.node (some (fx 27)) (.node none (.node (some (fx 75)) (.node (some (fx 139)) (.node (some (fx 267)) .nil .nil) .nil) (.node (some (fx 203)) (.node (some (fx 331)) .nil .nil) .nil)) (.node none (.node (some (fx 171)) (.node (some (fx 299)) .nil .nil) .nil) (.node (some (fx 235)) (.node (some (fx 363)) .nil .nil) .nil))) (.node (some (fx 59)) (.node none (.node (some (fx 155)) .nil .nil) (.node (some (fx 219)) (.node (some (fx 347)) .nil .nil) .nil)) (.node (some (fx 123)) .nil .nil))))) (.node (some (fx 5)) (.node none (.node (some (fx 17)) (.node none (.node (some (fx 65)) (.node (some (fx 129)) (.node (some (fx 257)) .nil .nil) .nil) (.node (some (fx 193)) (.node (some (fx 321)) .nil .nil) .nil)) (.node none (.node none (.node (some (fx 289)) .nil .nil) .nil) (.node (some (fx 225)) (.node (some (fx 353)) .nil .nil) .nil))) (.node none (.node (some (fx 81)) (.node (some (fx 145)) (.node (some (fx 273)) .nil .nil) .nil) (.node (some (fx 209)) (.node (some (fx 337)) .nil .nil) .nil)) (.node none (.node none (.node (some (fx 305)) .nil .nil) .nil) (.node (some (fx 241)) (.node (some (fx 369)) .nil .nil) .nil)))) (.node (some (fx 25)) (.node (some (fx 41)) (.node (some (fx 73)) (.node (some (fx 137)) (.node (some (fx 265)) .nil .nil) .nil) (.node (some (fx 201)) .nil .nil)) (.node none (.node (some (fx 169)) (.node (some (fx 297)) .nil .nil) .nil) (.node (some (fx 233)) (.node (some (fx 361)) .nil .nil) .nil))) (.node (some (fx 57)) (.node none (.node (some (fx 153)) .nil .nil) (.node none (.node (some (fx 345)) .nil .nil) .nil)) (.node none (.node (some (fx 185)) .nil .nil) (.node (some (fx 249)) .nil .nil))))) (.node (some (fx 13)) (.node (some (fx 21)) (.node none (.node (some (fx 69)) (.node (some (fx 133)) (.node (some (fx 261)) .nil .nil) .nil) (.node (some (fx 197)) (.node (some (fx 325)) .nil .nil) .nil)) (.node none (.node (some (fx 165)) .nil .nil) (.node (some (fx 229)) (.node (some (fx 357)) .nil .nil) .nil))) (.node none (.node (some (fx 85)) (.node (some (fx 149)) (.node (some (fx 277)) .nil .nil) .nil) (.node none (.node (some (fx 341)) .nil .nil) .nil)) (.node none (.node (some (fx 181)) (.node (some (fx 309)) .nil .nil) .nil) (.node (some (fx 245)) .nil .nil)))) (.node (some (fx 29)) (.node none (.node (some (fx 77)) (.node (some (fx 141)) (.node (some (fx 269)) .nil .nil) .nil) (.node (some (fx 205)) (.node (some (fx 333)) .nil .nil) .nil)) (.node none .nil (.node (some (fx 237)) (.node (some (fx 365)) .nil .nil) .nil))) (.node (some (fx 61)) (.node (some (fx 93)) (.node (some (fx 157)) (.node (some (fx 285)) .nil .nil) .nil) (.node (some (fx 221)) (.node (some (fx 349)) .nil .nil) .nil)) (.node (some (fx 125)) (.node (some (fx 189)) (.node (some (fx 317)) .nil .nil) .nil) (.node (some (fx 253)) .nil .nil))))))) (.node none (.node (some (fx 4)) (.node none (.node (some (fx 16)) (.node (some (fx 32)) (.node (some (fx 64)) (.node (some (fx 128)) .nil .nil) (.node (some (fx 192)) (.node (some (fx 320)) .nil .nil) .nil)) (.node (some (fx 96)) (.node (some (fx 160)) (.node (some (fx 288)) .nil .nil) .nil) (.node (some (fx 224)) .nil .nil))) (.node none (.node (some (fx 80)) (.node (some (fx 144)) (.node (some (fx 272)) .nil .nil) .nil) (.node (some (fx 208)) (.node (some (fx 336)) .nil .nil) .nil)) (.node none (.node none (.node (some (fx 304)) .nil .nil) .nil) (.node (some (fx 240)) .nil .nil)))) (.node (some (fx 24)) (.node none (.node (some (fx 72)) (.node (some (fx 136)) (.node (some (fx 264)) .nil .nil) .nil) (.node (some (fx 200)) (.node (some (fx 328)) .nil .nil) .nil)) (.node none (.node none (.node (some (fx 296)) .nil .nil) .nil) (.node (some (fx 232)) .nil .nil))) (.node (some (fx 56)) (.node none (.node (some (fx 152)) .nil .nil) (.node none (.node (some (fx 344)) .nil .nil) .nil)) (.node none (.node (some (fx 184)) .nil .nil) (.node (some (fx 248)) .nil .nil))))) (.node (some (fx 12)) (.node (some (fx 20)) (.node none (.node (some (fx 68)) (.node (some (fx 132)) (.node (some (fx 260)) .nil .nil) .nil) (.node (some (fx 196)) (.node (some (fx 324)) .nil .nil) .nil)) (.node none (.node (some (fx 164)) (.node (some (fx 292)) .nil .nil) .nil) (.node (some (fx 228)) .nil .nil))) (.node none (.node (some (fx 84)) (.node (some (fx 148)) (.node (some (fx 276)) .nil .nil) .nil) (.node none (.node (some (fx 340)) .nil .nil) .nil)) .nil)) (.node (some (fx 28)) (.node none (.node (some (fx 76)) (.node (some (fx 140)) (.node (some (fx 268)) .nil .nil) .nil) (.node none (.node (some (fx 332)) .nil .nil) .nil)) (.node none (.node (some (fx 172)) (.node (some (fx 300)) .nil .nil) .nil) (.node (some (fx 236)) (.node (some (fx 364)) .nil .nil) .nil))) (.node (some (fx 60)) (.node none (.node (some (fx 156)) .nil .nil) (.node (some (fx 220)) .nil .nil)) (.node (some (fx 124)) (.node none (.node (some (fx 316)) .nil .nil) .nil) (.node (some (fx 252)) .nil .nil)))))) (.node (some (fx 6)) (.node none (.node (some (fx 18)) (.node none (.node (some (fx 66)) (.node (some (fx 130)) (.node (some (fx 258)) .nil .nil) .nil) (.node (some (fx 194)) .nil .nil)) (.node none (.node none (.node (some (fx 290)) .nil .nil) .nil) (.node (some (fx 226)) .nil .nil))) (.node none (.node (some (fx 82)) (.node (some (fx 146)) (.node (some (fx 274)) .nil .nil) .nil) (.node (some (fx 210)) (.node (some (fx 338)) .nil .nil) .nil)) (.node (some (fx 114)) (.node none (.node (some (fx 306)) .nil .nil) .nil) (.node none (.node (some (fx 370)) .nil .nil) .nil)))) (.node (some (fx 26)) (.node none (.node (some (fx 74)) (.node (some (fx 138)) .nil .nil) (.node (some (fx 202)) (.node (some (fx 330)) .nil .nil) .nil)) (.node none (.node none (.node (some (fx 298)) .nil .nil) .nil) (.node (some (fx 234)) (.node (some (fx 362)) .nil .nil) .nil))) (.node (some (fx 58)) (.node (some (fx 90)) (.node (some (fx 154)) .nil .nil) (.node none (.node (some (fx 346)) .nil .nil) .nil)) (.node none (.node (some (fx 186)) .nil .nil) (.node (some (fx 250)) .nil .nil))))) (.node (some (fx 14)) (.node (some (fx 22)) (.node none (.node (some (fx 70)) (.node (some (fx 134)) (.node (some (fx 262)) .nil .nil) .nil) (.node none (.node (some (fx 326)) .nil .nil) .nil)) (.node none (.node none (.node (some (fx 294)) .nil .nil) .nil) (.node (some (fx 230)) (.node (some (fx 358)) .nil .nil) .nil))) (.node (some (fx 54)) (.node (some (fx 86)) (.node (some (fx 150)) .nil .nil) (.node none (.node (some (fx 342)) .nil .nil) .nil)) (.node none (.node (some (fx 182)) (.node (some (fx 310)) .nil .nil) .nil) (.node (some (fx 246)) .nil .nil)))) (.node (some (fx 30)) (.node none (.node (some (fx 78)) (.node (some (fx 142)) (.node (some (fx 270)) .nil .nil) .nil) (.node (some (fx 206)) (.node (some (fx 334)) .nil .nil) .nil)) (.node none (.node (some (fx 174)) .nil .nil) (.node none (.node (some (fx 366)) .nil .nil) .nil))) (.node (some (fx 62)) (.node (some (fx 94)) (.node none (.node (some (fx 286)) .nil .nil) .nil) (.node (some (fx 222)) .nil .nil)) (.node (some (fx 126)) (.node (some (fx 190)) (.node (some (fx 318)) .nil .nil) .nil) (.node (some (fx 254)) .nil .nil))))))))
theorem DC:∀ {a b:List Nat},uZ a=true→uZ b=true→uZ (a++b)=true
 | [],_,_,h=>h
 |n ::l,b,h,k=>by
  simp only[uZ,jj] at h
  simp only[List.cons_append,uZ,jj]
  exact⟨h.1,DC h.2 k⟩
theorem aFb:uZ aE7=true:=by kernel_rfl
theorem aFc:uZ aE8=true:=by kernel_rfl
theorem aFd:uZ aE9=true:=by kernel_rfl
theorem aFe:uZ aFa=true:=by kernel_rfl
theorem anT:uZ idxs=true:=DC aFb (DC aFc (DC aFd aFe))
theorem atI:HM Tryz.prog (anR idxs):=anS anT
theorem Rr:aBA=CJ (anR idxs):=by kernel_rfl
theorem mix:Tryz.prog.follows .mixedOrders=true:=by kernel_rfl
theorem few:Tryz.prog.globals.size≤aQ.toNat:=Nat.le_of_ble_eq_true (by kernel_rfl)
theorem lK{n:Nat}(h:idxs.contains n=true):iH Tryz.prog n=some (fx n):=VL anT n (List.contains_iff_mem.1 h)
def lS(f:Nat):Bool:=Nat.beq f 86||Nat.beq f 175||Nat.beq f 231
def azd(_:Nat):Bool:=false
noncomputable abbrev CF(tab:List (Nat×T Es))(o:hU):cD:=aE0 aBA azd lS tab o
theorem azG{tab:List (Nat×T Es)}(ht:l6 Tryz.prog .nil tab){ρ:Nat→Int}{o:hU}(ho:dq ρ o)(w0:W0)(hL:l9 Tryz.prog .nil w0):Ctx Tryz.prog ρ w0 (CF tab o):=aLg Rr atI mix ht azd lS ho w0 hL
theorem BZ{tab:List (Nat×T Es)}(ht:l6 Tryz.prog .nil tab){n f:Nat}(hf:idxs.contains f=true){es:Es}(h:axp (CF tab []) n f (fx f) .nil aQ es=true):aY Tryz.prog .nil f es:=
 anO (fun ρ w0 hL=>azG ht (dq.nil ρ) w0 hL) (lK hf) few h
theorem avF{tab:List (Nat×T Es)}(ht:l6 Tryz.prog .nil tab){f:Nat}(hf:idxs.contains f=true){l:List AV}{v:AV}(hl:(AV.gf l&&AV.Iy l&&AV.lits v&&v.kf)=true)(h:Fin (CF tab []) f v ⟨ae f (fx f) l,[],.nil,aQ⟩):zj Tryz.prog .nil f l v:=
 anN (fun ρ w0 hL=>azG ht (dq.nil ρ) w0 hL) (lK hf) hl few h
theorem cw{tab:List (Nat×T Es)}(ht:l6 Tryz.prog .nil tab){f:Nat}(hf:idxs.contains f=true){t:T Es}(h:BA Tryz.prog .nil f t):l6 Tryz.prog .nil ((f,t) ::tab):=⟨⟨⟨_,lK hf⟩,h⟩,ht⟩
end Ln
