/- A part of the proof. No condition. -/
import Derived.Test.YtecbfpngkfdkoaaGreatP7
import Derived.Test.YtecbfpngkfdkoaaGreatProg
import Derived.KernelRfl
namespace Ln
open Go.Sx Go Go.Proofs
noncomputable def fx(n:Nat):ej:=match Hb Tryz.prog n with
 |some p=>p
 |none=>⟨.ret,[]⟩
theorem okx{n:Nat}(h:(Hb Tryz.prog n).isSome=true):Hb Tryz.prog n=some (fx n):=by
 unfold fx;cases hp:Hb Tryz.prog n with
 |none=>rw[hp]at h;cases h
 |some p=>rfl
theorem ao8{n:Nat}{p:ej}(h:Hb Tryz.prog n=some p):fx n=p:=by unfold fx;rw[h]
def awF:List Nat:=[3,7,14,18,22,26,30,41,57,61,65,69,73,77,81,85,89,94,123,127,131,135,139,143,147,151,155,160,169,175,184,190,194,199,203,208,220,224,228,232,236,243,248,253,258,262,267,271,275,285,289,293,298,304,309,318,324,328,333,337,341,346,355,362,366]
def awG:List Nat:=[4,8,15,19,23,27,31,54,58,62,66,70,74,78,82,86,90,96,124,128,132,136,140,144,148,152,156,163,171,181,185,191,195,200,205,209,221,225,229,233,237,245,249,254,259,263,268,272,276,286,290,294,299,305,310,319,325,330,334,338,342,347,357,363,369]
def awH:List Nat:=[5,12,16,20,24,28,32,55,59,63,67,71,75,79,83,87,91,99,125,129,133,137,141,145,149,153,157,164,172,182,186,192,196,201,206,210,222,226,230,234,240,246,250,255,260,264,269,273,277,287,291,296,300,306,316,320,326,331,335,339,344,349,358,364,370]
def awI:List Nat:=[6,13,17,21,25,29,33,56,60,64,68,72,76,80,84,88,93,114,126,130,134,138,142,146,150,154,159,165,174,183,189,193,197,202,207,219,223,227,231,235,241,247,252,257,261,265,270,274,279,288,292,297,303,307,317,321,327,332,336,340,345,353,361,365,371]
def idxs:List Nat:=awF++(awG++(awH++awI))
noncomputable def adr:List Nat→List (Nat×ej)
 | []=>[]
 |n ::l=>(n,fx n) ::adr l
noncomputable def xa:List Nat→Bool
 | []=>true
 |n ::l=>Nat.blt n 8000&&(Hb Tryz.prog n).isSome&&xa l
theorem adt:∀{l:List Nat},xa l=true→Kj Tryz.prog (adr l)
 | [],_=>trivial
 |n ::l,h=>by simp only[xa,kO]at h;exact⟨⟨h.1.1,okx h.1.2⟩,adt h.2⟩
theorem Xk:∀{l:List Nat},xa l=true→∀n∈l,Hb Tryz.prog n=some (fx n)
 | [],_,n,hn=>by cases hn
 |m ::l,h,n,hn=>by
  simp only[xa,kO]at h;rcases K3.1 hn with e|hn
  ·rw[e];exact okx h.1.2
  ·exact Xk h.2 n hn
noncomputable abbrev acY(n:Nat):T ej:=.node (some (fx n)) .nil .nil
noncomputable abbrev ac5(n:Nat)(l r:T ej):T ej:=.node (some (fx n)) l r
abbrev ada(l r:T ej):T ej:=.node none l r
abbrev adc:T ej:=.nil
noncomputable def amK:T ej:=(ada (ada (ac5 3 (ac5 7 (ac5 15 (ac5 31 (ac5 63 (ac5 127 (acY 255) adc) (ac5 191 (acY 319) adc)) (ada (ac5 159 (acY 287) adc) (acY 223))) (ada (ac5 79 (ac5 143 (acY 271) adc) (ac5 207 (acY 335) adc)) (ada (ac5 175 (acY 303) adc) adc))) (ac5 23 (ada (ac5 71 (ac5 135 (acY 263) adc) (ac5 199 (acY 327) adc)) (ada adc (acY 231))) (ac5 55 (ac5 87 (ac5 151 (acY 279) adc) adc) (ada (acY 183) (acY 247))))) (ada (ac5 19 (ada (ac5 67 (ac5 131 (acY 259) adc) (acY 195)) (ac5 99 (ac5 163 (acY 291) adc) (ac5 227 (acY 355) adc))) (ada (ac5 83 (ac5 147 (acY 275) adc) (ada (acY 339) adc)) (ada (ada (acY 307) adc) (ac5 243 (acY 371) adc)))) (ac5 27 (ada (ac5 75 (ac5 139 (acY 267) adc) (ac5 203 (acY 331) adc)) (ada (ac5 171 (acY 299) adc) (ac5 235 (acY 363) adc))) (ac5 59 (ac5 91 (acY 155) (ac5 219 (acY 347) adc)) (acY 123))))) (ac5 5 (ada (ac5 17 (ac5 33 (ac5 65 (ac5 129 (acY 257) adc) (ac5 193 (acY 321) adc)) (ada (ada (acY 289) adc) (ac5 225 (acY 353) adc))) (ada (ac5 81 (ac5 145 (acY 273) adc) (ac5 209 (acY 337) adc)) (ada (ada (acY 305) adc) (ac5 241 (acY 369) adc)))) (ac5 25 (ac5 41 (ac5 73 (ac5 137 (acY 265) adc) (acY 201)) (ada (ac5 169 (acY 297) adc) (ac5 233 (acY 361) adc))) (ac5 57 (ac5 89 (acY 153) (ada (acY 345) adc)) (ada (acY 185) (acY 249))))) (ac5 13 (ac5 21 (ada (ac5 69 (ac5 133 (acY 261) adc) (ac5 197 (acY 325) adc)) (ada (ac5 165 (acY 293) adc) (ac5 229 (acY 357) adc))) (ada (ac5 85 (ac5 149 (acY 277) adc) (ada (acY 341) adc)) (ada (ac5 181 (acY 309) adc) (acY 245)))) (ac5 29 (ada (ac5 77 (ac5 141 (acY 269) adc) (ac5 205 (acY 333) adc)) (ada adc (ac5 237 (acY 365) adc))) (ac5 61 (ac5 93 (ac5 157 (acY 285) adc) (ac5 221 (acY 349) adc)) (ac5 125 (ac5 189 (acY 317) adc) (acY 253))))))) (ada (ac5 4 (ac5 8 (ac5 16 (ac5 32 (ac5 64 (acY 128) (ac5 192 (acY 320) adc)) (ac5 96 (ac5 160 (acY 288) adc) (acY 224))) (ada (ac5 80 (ac5 144 (acY 272) adc) (ac5 208 (acY 336) adc)) (ada (ada (acY 304) adc) (acY 240)))) (ac5 24 (ada (ac5 72 (ac5 136 (acY 264) adc) (ac5 200 (acY 328) adc)) (ada (ada (acY 296) adc) (acY 232))) (ac5 56 (ac5 88 (acY 152) (ada (acY 344) adc)) (ada (acY 184) (acY 248))))) (ac5 12 (ac5 20 (ada (ac5 68 (ac5 132 (acY 260) adc) (ac5 196 (acY 324) adc)) (ada (ac5 164 (acY 292) adc) (acY 228))) (ada (ac5 84 (ac5 148 (acY 276) adc) (ada (acY 340) adc)) adc)) (ac5 28 (ada (ac5 76 (ac5 140 (acY 268) adc) (ada (acY 332) adc)) (ada (ac5 172 (acY 300) adc) (ac5 236 (acY 364) adc))) (ac5 60 (ada (acY 156) (acY 220)) (ac5 124 (ada (acY 316) adc) (acY 252)))))) (ac5 6 (ada (ac5 18 (ada (ac5 66 (ac5 130 (acY 258) adc) (acY 194)) (ada (ada (acY 290) adc) (acY 226))) (ada (ac5 82 (ac5 146 (acY 274) adc) (ac5 210 (acY 338) adc)) (ac5 114 (ada (acY 306) adc) (ada (acY 370) adc)))) (ac5 26 (ada (ac5 74 (acY 138) (ac5 202 (acY 330) adc)) (ada (ada (acY 298) adc) (ac5 234 (acY 362) adc))) (ac5 58 (ac5 90 (acY 154) (ada (acY 346) adc)) (ada (acY 186) (acY 250))))) (ac5 14 (ac5 22 (ada (ac5 70 (ac5 134 (acY 262) adc) (ada (acY 326) adc)) (ada (ada (acY 294) adc) (ac5 230 (acY 358) adc))) (ac5 54 (ac5 86 (acY 150) (ada (acY 342) adc)) (ada (ac5 182 (acY 310) adc) (acY 246)))) (ac5 30 (ada (ac5 78 (ac5 142 (acY 270) adc) (ac5 206 (acY 334) adc)) (ada (acY 174) (ada (acY 366) adc))) (ac5 62 (ac5 94 (ada (acY 286) adc) (acY 222)) (ac5 126 (ac5 190 (acY 318) adc) (acY 254))))))))
theorem GD:∀{a b:List Nat},xa a=true→xa b=true→xa (a++b)=true
 | [],_,_,h=>h
 |n ::l,b,h,k=>by simp only[xa,kO]at h;simp only[List.cons_append,xa,kO];exact⟨h.1,GD h.2 k⟩
theorem awJ:xa awF=true:=by kernel_rfl
theorem awK:xa awG=true:=by kernel_rfl
theorem awL:xa awH=true:=by kernel_rfl
theorem awM:xa awI=true:=by kernel_rfl
theorem adu:xa idxs=true:=GD awJ (GD awK (GD awL awM))
theorem aiW:Kj Tryz.prog (adr idxs):=adt adu
theorem Ts:amK=Ft (adr idxs):=by kernel_rfl
theorem mix:Tryz.prog.follows .mixedOrders=true:=by kernel_rfl
theorem few:Tryz.prog.globals.size≤bD.toNat:=Nat.le_of_ble_eq_true (by kernel_rfl)
theorem iL{n:Nat}(h:idxs.contains n=true):Hb Tryz.prog n=some (fx n):=Xk adu n (List.contains_iff_mem.1 h)
def kY(f:Nat):Bool:=Nat.beq f 86||Nat.beq f 175||Nat.beq f 231
def ao9(_:Nat):Bool:=false
noncomputable abbrev CF(tab:List (Nat×T Es))(o:iG):bK:=awz amK ao9 kY tab o
theorem apO{tab:List (Nat×T Es)}(ht:qy Tryz.prog .nil tab){ρ:Nat→Int}{o:iG}(ho:ep ρ o)(w0:W0)(hL:iE Tryz.prog .nil w0):Ctx Tryz.prog ρ w0 (CF tab o):=aDw Ts aiW mix ht ao9 kY ho w0 hL
theorem xL{tab:List (Nat×T Es)}(ht:qy Tryz.prog .nil tab){n f:Nat}(hf:idxs.contains f=true){es:Es}(h:amE (CF tab []) n f (fx f) .nil bD es=true):aO Tryz.prog .nil f es:=
 ado (fun ρ w0 hL=>apO ht (ep.nil ρ) w0 hL) (iL hf) few h
theorem ak8{tab:List (Nat×T Es)}(ht:qy Tryz.prog .nil tab){f:Nat}(hf:idxs.contains f=true){l:List AV}{v:AV}(hl:(AV.gE l&&AV.Ec l&&AV.lits v&&v.kf)=true)(h:Fin (CF tab []) f v ⟨an f (fx f) l,[],.nil,bD⟩):Ent Tryz.prog .nil f l v:=
 adn (fun ρ w0 hL=>apO ht (ep.nil ρ) w0 hL) (iL hf) hl few h
theorem vp{tab:List (Nat×T Es)}(ht:qy Tryz.prog .nil tab){f:Nat}(hf:idxs.contains f=true){t:T Es}(h:DR Tryz.prog .nil f t):qy Tryz.prog .nil ((f,t) ::tab):=⟨⟨⟨_,iL hf⟩,h⟩,ht⟩
end Ln
