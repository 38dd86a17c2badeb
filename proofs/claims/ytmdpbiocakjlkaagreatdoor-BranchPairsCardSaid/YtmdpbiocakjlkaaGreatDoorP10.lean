/- A part of the proof. No condition. -/
import Derived.Test.YtmdpbiocakjlkaaGreatDoorP5
import Derived.Test.YtmdpbiocakjlkaaGreatDoorP4
import Derived.Test.YtmdpbiocakjlkaaGreatDoorProg
import Derived.KernelRfl
set_option linter.unusedSimpArgs false
set_option linter.unusedVariables false
set_option linter.unusedSectionVars false
namespace Tb
open Go.Sx Go Go.Proofs
noncomputable def fx(n:Nat):eG:=match pFn Tryz.prog n with
 |some p=>p
 |none=>⟨.ret,[]⟩
noncomputable abbrev fo(n:Nat):=some (fx n)
theorem okx{n:Nat}(h:(pFn Tryz.prog n).isSome=true):pFn Tryz.prog n=some (fx n):=by
 unfold fx
 cases hp:pFn Tryz.prog n with
 |none=>rw[hp] at h;cases h
 |some p=>rfl
def idxs:List Nat:=[12,17,29,34,38,39,40,69,70,74,75,76,81,122,123,124,125,126,127,128,129,130,131,134,135,136,137,138,139,166,167,168,169,170,171,172,173,174,175,176,177,178,179,180,181,182,183,184,185,186,187,188,189,190,191,192,193,194,195,196,197,198,199,200,201,202,227,228,229,230,231,232,233,234,235,236,237,238,239,240,241,242,243,244,245,246,247,248,249,250,251,252,253,254,255,262,263,264,265,266,267,268,269,270,271,272,273,274,275,276,277,278,279,280,281,283,284,285,286,287,288,289,290,291,292]
noncomputable def alW:List Nat→List (Nat×eG)
 | []=>[]
 |n ::l=>(n,fx n) ::alW l
noncomputable def alX:List Nat→Bool
 | []=>true
 |n ::l=>Nat.blt n 8000&&(pFn Tryz.prog n).isSome&&alX l
theorem ahS:∀ {l:List Nat},alX l=true→KZ Tryz.prog (alW l)
 | [],_=>trivial
 |n ::l,h=>by
  simp only[alX,Ad] at h
  exact⟨⟨h.1.1,okx h.1.2⟩,ahS h.2⟩
theorem abE{P:Program}:∀ {l m:List (Nat×eG)},KZ P l→KZ P m→KZ P (l++m)
 | [],_,_,h=>h
 |_ ::_,_,h,k=>⟨h.1,abE h.2 k⟩
noncomputable def ajp:T eG:=(.node none (.node none (.node (some qI) (.node (some Et) (.node none (.node (some EM) (.node (some G9) (.node (fo 127) (.node (fo 255) .nil .nil) .nil) (.node (fo 191) .nil .nil)) (.node none (.node (some th) (.node (fo 287) .nil .nil) .nil) (.node (some vf) .nil .nil))) (.node none (.node none (.node none (.node (fo 271) .nil .nil) .nil) .nil) (.node (some AB) (.node (fo 175) .nil .nil) (.node (fo 239) .nil .nil)))) (.node none (.node (fo 39) (.node (some nP) (.node (fo 135) (.node (fo 263) .nil .nil) .nil) (.node (fo 199) .nil .nil)) (.node (some Rs) (.node (fo 167) .nil .nil) (.node (fo 231) .nil .nil))) (.node none (.node none (.node (some DT) (.node (fo 279) .nil .nil) .nil) (.node (some AI) .nil .nil)) (.node (some sS) (.node (fo 183) .nil .nil) (.node (fo 247) .nil .nil))))) (.node (some GS) (.node none (.node (some LC) (.node (some Aq) (.node (fo 131) (.node (some uB) .nil .nil) .nil) (.node (fo 195) .nil .nil)) (.node none (.node (some nX) (.node (fo 291) .nil .nil) .nil) (.node (fo 227) .nil .nil))) (.node none (.node none (.node none (.node (fo 275) .nil .nil) .nil) (.node (some QI) .nil .nil)) (.node (some Dm) (.node (fo 179) .nil .nil) (.node (fo 243) .nil .nil)))) (.node (some G5) (.node none (.node (fo 75) (.node (fo 139) (.node (fo 267) .nil .nil) .nil) .nil) (.node (some wO) (.node (fo 171) .nil .nil) (.node (fo 235) .nil .nil))) (.node none (.node none (.node (some mz) (.node (fo 283) .nil .nil) .nil) (.node (some xk) .nil .nil)) (.node (fo 123) (.node (fo 187) .nil .nil) (.node (fo 251) .nil .nil)))))) (.node none (.node (some DN) (.node (fo 17) (.node (some Ak) (.node (some A6) (.node (fo 129) .nil .nil) (.node (fo 193) .nil .nil)) (.node none (.node (some qQ) (.node (fo 289) .nil .nil) .nil) (.node (some xr) .nil .nil))) (.node none (.node (fo 81) (.node none (.node (fo 273) .nil .nil) .nil) .nil) (.node (some Hv) (.node (fo 177) .nil .nil) (.node (fo 241) .nil .nil)))) (.node none (.node (some A0) (.node (some LA) (.node (fo 137) (.node (fo 265) .nil .nil) .nil) (.node (fo 201) .nil .nil)) (.node (some Hk) (.node (fo 169) .nil .nil) (.node (fo 233) .nil .nil))) (.node none (.node none (.node (some AG) (.node (fo 281) .nil .nil) .nil) (.node (some sw) .nil .nil)) (.node (some qO) (.node (fo 185) .nil .nil) (.node (fo 249) .nil .nil))))) (.node none (.node none (.node none (.node (fo 69) (.node (some cmp_isNaN_int) (.node (some LP) .nil .nil) .nil) (.node (fo 197) .nil .nil)) (.node none (.node (some mr) .nil .nil) (.node (fo 229) .nil .nil))) (.node none (.node none (.node (some AF) (.node (fo 277) .nil .nil) .nil) (.node (some vI) .nil .nil)) (.node (some AD) (.node (fo 181) .nil .nil) (.node (fo 245) .nil .nil)))) (.node (fo 29) (.node none (.node (some LF) (.node none (.node (fo 269) .nil .nil) .nil) .nil) (.node (some AA) (.node (fo 173) .nil .nil) (.node (fo 237) .nil .nil))) (.node (some DQ) (.node none (.node (some tg) (.node (fo 285) .nil .nil) .nil) (.node (some ve) .nil .nil)) (.node (fo 125) (.node (fo 189) .nil .nil) (.node (fo 253) .nil .nil))))))) (.node none (.node none (.node (some Rq) (.node none (.node (some vY) (.node (some wK) (.node (fo 128) .nil .nil) (.node (fo 192) .nil .nil)) (.node none (.node (some mI) (.node (fo 288) .nil .nil) .nil) (.node (some qH) .nil .nil))) (.node none (.node none (.node none (.node (fo 272) .nil .nil) .nil) .nil) (.node (some wS) (.node (fo 176) .nil .nil) (.node (fo 240) .nil .nil)))) (.node none (.node (fo 40) (.node (some uN) (.node (fo 136) (.node (fo 264) .nil .nil) .nil) (.node (fo 200) .nil .nil)) (.node (some Hj) (.node (fo 168) .nil .nil) (.node (fo 232) .nil .nil))) (.node none (.node none (.node (some DU) (.node (fo 280) .nil .nil) .nil) (.node (some vd) .nil .nil)) (.node (some Hx) (.node (fo 184) .nil .nil) (.node (fo 248) .nil .nil))))) (.node (fo 12) (.node none (.node (some DO) (.node (some wL) (.node (some cmp_isNaN_string) (.node (some GP) .nil .nil) .nil) (.node (fo 196) .nil .nil)) (.node none (.node (some nY) (.node (fo 292) .nil .nil) .nil) (.node (fo 228) .nil .nil))) (.node none (.node none (.node none (.node (fo 276) .nil .nil) .nil) (.node (some xi) .nil .nil)) (.node (some Ae) (.node (fo 180) .nil .nil) (.node (fo 244) .nil .nil)))) (.node (some uf) (.node none (.node (fo 76) (.node none (.node (fo 268) .nil .nil) .nil) .nil) (.node (some LO) (.node (fo 172) .nil .nil) (.node (fo 236) .nil .nil))) (.node (some DP) (.node none (.node (some nT) (.node (fo 284) .nil .nil) .nil) (.node (some AJ) .nil .nil)) (.node (fo 124) (.node (fo 188) .nil .nil) (.node (fo 252) .nil .nil)))))) (.node none (.node (some Dv) (.node (some UC) (.node (fo 34) (.node (some LD) (.node (fo 130) .nil .nil) (.node (fo 194) .nil .nil)) (.node none (.node (some mJ) (.node (fo 290) .nil .nil) .nil) (.node (some tq) .nil .nil))) (.node none (.node none (.node none (.node (fo 274) .nil .nil) .nil) .nil) (.node (some Hw) (.node (fo 178) .nil .nil) (.node (fo 242) .nil .nil)))) (.node (some wk) (.node (some GZ) (.node (fo 74) (.node (fo 138) (.node (fo 266) .nil .nil) .nil) (.node (fo 202) .nil .nil)) (.node (some GO) (.node (fo 170) .nil .nil) (.node (fo 234) .nil .nil))) (.node none (.node none (.node (some pQ) .nil .nil) (.node (some xj) .nil .nil)) (.node (fo 122) (.node (fo 186) .nil .nil) (.node (fo 250) .nil .nil))))) (.node none (.node none (.node (fo 38) (.node (fo 70) (.node (fo 134) (.node (fo 262) .nil .nil) .nil) (.node (fo 198) .nil .nil)) (.node (some LG) (.node (fo 166) .nil .nil) (.node (fo 230) .nil .nil))) (.node none (.node none (.node (some vo) (.node (fo 278) .nil .nil) .nil) (.node (some AH) .nil .nil)) (.node (some AE) (.node (fo 182) .nil .nil) (.node (fo 246) .nil .nil)))) (.node (some pn) (.node none (.node none (.node none (.node (fo 270) .nil .nil) .nil) .nil) (.node (some wQ) (.node (fo 174) .nil .nil) (.node (fo 238) .nil .nil))) (.node (some DI) (.node none (.node (some qP) (.node (fo 286) .nil .nil) .nil) (.node (some qR) .nil .nil)) (.node (fo 126) (.node (fo 190) .nil .nil) (.node (fo 254) .nil .nil))))))))
def ajs:List (Nat×eG):=[(3,qI),(7,Et),(8,Rq),(9,DN),(10,Dv),(11,GS),(18,UC),(26,wk),(27,G5),(28,uf),(30,pn),(31,EM),(32,vY),(33,Ak),(35,LC),(36,DO),(41,A0),(42,GZ),(60,DP),(61,DQ),(62,DI),(63,G9),(64,wK),(65,A6),(66,LD),(67,Aq),(68,wL),(71,nP),(72,uN),(73,LA),(77,LF),(102,LG),(103,Rs),(104,Hj),(105,Hk),(106,GO),(107,wO),(108,LO),(109,AA),(110,wQ),(111,AB),(112,wS),(113,Hv),(114,Hw),(115,Dm),(116,Ae),(117,AD),(118,AE),(119,sS),(120,Hx),(121,qO),(132,cmp_isNaN_string),(133,cmp_isNaN_int),(149,AF),(150,vo),(151,DT),(152,DU),(153,AG),(154,pQ),(155,mz),(156,nT),(157,tg),(158,qP),(159,th),(160,mI),(161,qQ),(162,mJ),(163,nX),(164,nY),(165,mr),(211,QI),(212,xi),(213,vI),(214,AH),(215,AI),(216,vd),(217,sw),(218,xj),(219,xk),(220,AJ),(221,ve),(222,qR),(223,vf),(224,qH),(225,xr),(226,tq),(259,uB),(260,GP),(261,LP)]
noncomputable def ap5:List (Nat×eG):=ajs++alW idxs
theorem Tn:pFn Tryz.prog 30=some pn:=by kernel_rfl
theorem atu:KZ Tryz.prog ajs:=by
 unfold ajs
 repeat' first|exact trivial|refine⟨⟨rfl,by kernel_rfl⟩,?_⟩
theorem abS:KZ Tryz.prog ap5:=abE atu (ahS (by kernel_rfl))
theorem Rj:ajp=Q2 ap5:=by kernel_rfl
theorem mix:Tryz.prog.follows .mixedOrders=true:=by kernel_rfl
theorem few:Tryz.prog.globals.size≤jv.toNat:=Nat.le_of_ble_eq_true (by kernel_rfl)
end Tb
