/- A part of the proof. No condition. -/
import Derived.Test.YtecbfpngkfdkoaaGreatP7
import Derived.Test.YtecbfpngkfdkoaaGreatProg
import Derived.KernelRfl
namespace Ln
open Go.Sx Go Go.Proofs
noncomputable def fx(n:Nat):fN:=match IS Tryz.prog n with
 |some p=>p
 |none=>⟨.ret,[]⟩
theorem okx{n:Nat}(h:(IS Tryz.prog n).isSome=true):IS Tryz.prog n=some (fx n):=by
 unfold fx;cases hp:IS Tryz.prog n with
 |none=>rw[hp]at h;cases h
 |some p=>rfl
theorem avp{n:Nat}{p:fN}(h:IS Tryz.prog n=some p):fx n=p:=by unfold fx;rw[h]
def aDe:List Nat:=[3,7,13,17,21,25,29,33,47,56,60,64,68,72,76,80,84,88,93,105,109,123,127,131,135,139,143,147,151,155,160,169,173,177,183,189,193,197,202,207,219,223,227,231,235,241,246,250,255,259,263,268,272,276,286,290,294,299,303,307,317,321,327,332,336,340,345,353,361,365,371]
def aDf:List Nat:=[4,8,14,18,22,26,30,41,48,57,61,65,69,73,77,81,85,89,94,106,110,124,128,132,136,140,144,148,152,156,163,170,174,179,184,190,194,199,203,208,220,224,228,232,236,243,247,252,256,260,264,269,273,277,287,291,296,300,304,309,318,324,328,333,337,341,346,355,362,366]
def aDg:List Nat:=[5,10,15,19,23,27,31,45,54,58,62,66,70,74,78,82,86,90,96,107,111,125,129,133,137,141,145,149,153,157,164,171,175,181,185,191,195,200,205,209,221,225,229,233,237,244,248,253,257,261,265,270,274,279,288,292,297,301,305,310,319,325,330,334,338,342,347,357,363,369]
def aDh:List Nat:=[6,12,16,20,24,28,32,46,55,59,63,67,71,75,79,83,87,91,99,108,114,126,130,134,138,142,146,150,154,159,165,172,176,182,186,192,196,201,206,210,222,226,230,234,240,245,249,254,258,262,267,271,275,285,289,293,298,302,306,316,320,326,331,335,339,344,349,358,364,370]
def idxs:List Nat:=aDe++(aDf++(aDg++aDh))
noncomputable def ahZ:List Nat→List (Nat×fN)
 | []=>[]
 |n ::l=>(n,fx n) ::ahZ l
noncomputable def y7:List Nat→Bool
 | []=>true
 |n ::l=>Nat.blt n 8000&&(IS Tryz.prog n).isSome&&y7 l
theorem ah0:∀{l:List Nat},y7 l=true→Ml Tryz.prog (ahZ l)
 | [],_=>trivial
 |n ::l,h=>by simp only[y7,kW]at h;exact⟨⟨h.1.1,okx h.1.2⟩,ah0 h.2⟩
theorem abH:∀{l:List Nat},y7 l=true→∀n∈l,IS Tryz.prog n=some (fx n)
 | [],_,n,hn=>by cases hn
 |m ::l,h,n,hn=>by
  simp only[y7,kW]at h;rcases CR.1 hn with e|hn
  ·rw[e];exact okx h.1.2
  ·exact abH h.2 n hn
noncomputable abbrev aig(n:Nat):T fN:=.node (some (fx n)) .nil .nil
noncomputable abbrev aik(n:Nat)(l r:T fN):T fN:=.node (some (fx n)) l r
abbrev aiE(l r:T fN):T fN:=.node none l r
abbrev aiG:T fN:=.nil
noncomputable def asA:T fN:=(aiE (aiE (aik 3 (aik 7 (aik 15 (aik 31 (aik 63 (aik 127 (aig 255) aiG) (aik 191 (aig 319) aiG)) (aiE (aik 159 (aig 287) aiG) (aig 223))) (aik 47 (aik 79 (aik 143 (aig 271) aiG) (aik 207 (aig 335) aiG)) (aik 111 (aik 175 (aig 303) aiG) aiG))) (aik 23 (aiE (aik 71 (aik 135 (aig 263) aiG) (aik 199 (aig 327) aiG)) (aiE aiG (aig 231))) (aik 55 (aik 87 (aik 151 (aig 279) aiG) aiG) (aiE (aig 183) (aig 247))))) (aiE (aik 19 (aiE (aik 67 (aik 131 (aig 259) aiG) (aig 195)) (aik 99 (aik 163 (aig 291) aiG) (aik 227 (aig 355) aiG))) (aiE (aik 83 (aik 147 (aig 275) aiG) (aiE (aig 339) aiG)) (aiE (aik 179 (aig 307) aiG) (aik 243 (aig 371) aiG)))) (aik 27 (aiE (aik 75 (aik 139 (aig 267) aiG) (aik 203 (aig 331) aiG)) (aik 107 (aik 171 (aig 299) aiG) (aik 235 (aig 363) aiG))) (aik 59 (aik 91 (aig 155) (aik 219 (aig 347) aiG)) (aig 123))))) (aik 5 (aiE (aik 17 (aik 33 (aik 65 (aik 129 (aig 257) aiG) (aik 193 (aig 321) aiG)) (aiE (aiE (aig 289) aiG) (aik 225 (aig 353) aiG))) (aiE (aik 81 (aik 145 (aig 273) aiG) (aik 209 (aig 337) aiG)) (aiE (aik 177 (aig 305) aiG) (aik 241 (aig 369) aiG)))) (aik 25 (aik 41 (aik 73 (aik 137 (aig 265) aiG) (aig 201)) (aik 105 (aik 169 (aig 297) aiG) (aik 233 (aig 361) aiG))) (aik 57 (aik 89 (aig 153) (aiE (aig 345) aiG)) (aiE (aig 185) (aig 249))))) (aik 13 (aik 21 (aiE (aik 69 (aik 133 (aig 261) aiG) (aik 197 (aig 325) aiG)) (aiE (aik 165 (aig 293) aiG) (aik 229 (aig 357) aiG))) (aiE (aik 85 (aik 149 (aig 277) aiG) (aiE (aig 341) aiG)) (aiE (aik 181 (aig 309) aiG) (aig 245)))) (aik 29 (aik 45 (aik 77 (aik 141 (aig 269) aiG) (aik 205 (aig 333) aiG)) (aik 109 (aik 173 (aig 301) aiG) (aik 237 (aig 365) aiG))) (aik 61 (aik 93 (aik 157 (aig 285) aiG) (aik 221 (aig 349) aiG)) (aik 125 (aik 189 (aig 317) aiG) (aig 253))))))) (aiE (aik 4 (aik 8 (aik 16 (aik 32 (aik 64 (aik 128 (aig 256) aiG) (aik 192 (aig 320) aiG)) (aik 96 (aik 160 (aig 288) aiG) (aig 224))) (aik 48 (aik 80 (aik 144 (aig 272) aiG) (aik 208 (aig 336) aiG)) (aiE (aik 176 (aig 304) aiG) (aig 240)))) (aik 24 (aiE (aik 72 (aik 136 (aig 264) aiG) (aik 200 (aig 328) aiG)) (aiE (aiE (aig 296) aiG) (aig 232))) (aik 56 (aik 88 (aig 152) (aiE (aig 344) aiG)) (aiE (aig 184) (aig 248))))) (aik 12 (aik 20 (aiE (aik 68 (aik 132 (aig 260) aiG) (aik 196 (aig 324) aiG)) (aiE (aik 164 (aig 292) aiG) (aig 228))) (aiE (aik 84 (aik 148 (aig 276) aiG) (aiE (aig 340) aiG)) (aiE aiG (aig 244)))) (aik 28 (aiE (aik 76 (aik 140 (aig 268) aiG) (aiE (aig 332) aiG)) (aik 108 (aik 172 (aig 300) aiG) (aik 236 (aig 364) aiG))) (aik 60 (aiE (aig 156) (aig 220)) (aik 124 (aiE (aig 316) aiG) (aig 252)))))) (aik 6 (aik 10 (aik 18 (aiE (aik 66 (aik 130 (aig 258) aiG) (aig 194)) (aiE (aiE (aig 290) aiG) (aig 226))) (aiE (aik 82 (aik 146 (aig 274) aiG) (aik 210 (aig 338) aiG)) (aik 114 (aiE (aig 306) aiG) (aiE (aig 370) aiG)))) (aik 26 (aiE (aik 74 (aig 138) (aik 202 (aig 330) aiG)) (aik 106 (aik 170 (aig 298) aiG) (aik 234 (aig 362) aiG))) (aik 58 (aik 90 (aig 154) (aiE (aig 346) aiG)) (aiE (aig 186) (aig 250))))) (aik 14 (aik 22 (aiE (aik 70 (aik 134 (aig 262) aiG) (aiE (aig 326) aiG)) (aiE (aiE (aig 294) aiG) (aik 230 (aig 358) aiG))) (aik 54 (aik 86 (aig 150) (aiE (aig 342) aiG)) (aiE (aik 182 (aig 310) aiG) (aig 246)))) (aik 30 (aik 46 (aik 78 (aik 142 (aig 270) aiG) (aik 206 (aig 334) aiG)) (aik 110 (aik 174 (aig 302) aiG) (aiE (aig 366) aiG))) (aik 62 (aik 94 (aiE (aig 286) aiG) (aig 222)) (aik 126 (aik 190 (aig 318) aiG) (aig 254))))))))
theorem Ij:∀{a b:List Nat},y7 a=true→y7 b=true→y7 (a++b)=true
 | [],_,_,h=>h
 |n ::l,b,h,k=>by simp only[y7,kW]at h;simp only[List.cons_append,y7,kW];exact⟨h.1,Ij h.2 k⟩
theorem aDi:y7 aDe=true:=by kernel_rfl
theorem aDj:y7 aDf=true:=by kernel_rfl
theorem aDk:y7 aDg=true:=by kernel_rfl
theorem aDl:y7 aDh=true:=by kernel_rfl
theorem ah1:y7 idxs=true:=Ij aDi (Ij aDj (Ij aDk aDl))
theorem aoh:Ml Tryz.prog (ahZ idxs):=ah0 ah1
theorem Xn:asA=He (ahZ idxs):=by kernel_rfl
theorem mix:Tryz.prog.follows .mixedOrders=true:=by kernel_rfl
theorem few:Tryz.prog.globals.size≤bz.toNat:=Nat.le_of_ble_eq_true (by kernel_rfl)
theorem iO{n:Nat}(h:idxs.contains n=true):IS Tryz.prog n=some (fx n):=abH ah1 n (List.contains_iff_mem.1 h)
def mT(f:Nat):Bool:=Nat.beq f 86||Nat.beq f 175||Nat.beq f 231
def avq(_:Nat):Bool:=false
noncomputable abbrev CF(tab:List (Nat×T Es))(o:jK):bH:=aC7 asA avq mT tab o
theorem av1{tab:List (Nat×T Es)}(ht:sG Tryz.prog .nil tab){ρ:Nat→Int}{o:jK}(ho:fA ρ o)(w0:W0)(hL:jI Tryz.prog .nil w0):Ctx Tryz.prog ρ w0 (CF tab o):=aLB Xn aoh mix ht avq mT ho w0 hL
theorem zH{tab:List (Nat×T Es)}(ht:sG Tryz.prog .nil tab){n f:Nat}(hf:idxs.contains f=true){es:Es}(h:asu (CF tab []) n f (fx f) .nil bz es=true):aR Tryz.prog .nil f es:=
 ahW (fun ρ w0 hL=>av1 ht (fA.nil ρ) w0 hL) (iO hf) few h
theorem aqz{tab:List (Nat×T Es)}(ht:sG Tryz.prog .nil tab){f:Nat}(hf:idxs.contains f=true){l:List AV}{v:AV}(hl:(AV.dA l&&AV.Bb l&&AV.lits v&&v.kf)=true)(h:Fin (CF tab []) f v ⟨ah f (fx f) l,[],.nil,bz⟩):Ent Tryz.prog .nil f l v:=
 ahV (fun ρ w0 hL=>av1 ht (fA.nil ρ) w0 hL) (iO hf) hl few h
theorem xI{tab:List (Nat×T Es)}(ht:sG Tryz.prog .nil tab){f:Nat}(hf:idxs.contains f=true){t:T Es}(h:EP Tryz.prog .nil f t):sG Tryz.prog .nil ((f,t) ::tab):=⟨⟨⟨_,iO hf⟩,h⟩,ht⟩
end Ln
