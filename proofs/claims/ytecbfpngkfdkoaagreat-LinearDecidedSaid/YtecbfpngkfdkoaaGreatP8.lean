/- A part of the proof. No condition. -/
import Derived.Test.YtecbfpngkfdkoaaGreatP7
import Derived.Test.YtecbfpngkfdkoaaGreatProg
import Derived.KernelRfl
namespace Ln
open Go.Sx Go Go.Proofs
noncomputable def fx(n:Nat):gE:=match Jf Tryz.prog n with
 |some p=>p
 |none=>⟨.ret,[]⟩
theorem okx{n:Nat}(h:(Jf Tryz.prog n).isSome=true):Jf Tryz.prog n=some (fx n):=by
 unfold fx;cases hp:Jf Tryz.prog n with
 |none=>rw[hp]at h;cases h
 |some p=>rfl
theorem at2{n:Nat}{p:gE}(h:Jf Tryz.prog n=some p):fx n=p:=by unfold fx;rw[h]
def aA0:List Nat:=[3,7,14,18,22,26,30,41,57,61,65,69,73,77,81,85,89,94,123,127,131,135,139,143,147,151,155,160,169,175,184,190,194,199,203,208,220,224,228,232,236,243,248,253,258,262,267,271,275,285,289,293,298,304,309,318,324,328,333,337,341,346,355,362,366]
def aA1:List Nat:=[4,8,15,19,23,27,31,54,58,62,66,70,74,78,82,86,90,96,124,128,132,136,140,144,148,152,156,163,171,181,185,191,195,200,205,209,221,225,229,233,237,245,249,254,259,263,268,272,276,286,290,294,299,305,310,319,325,330,334,338,342,347,357,363,369]
def aA2:List Nat:=[5,12,16,20,24,28,32,55,59,63,67,71,75,79,83,87,91,99,125,129,133,137,141,145,149,153,157,164,172,182,186,192,196,201,206,210,222,226,230,234,240,246,250,255,260,264,269,273,277,287,291,296,300,306,316,320,326,331,335,339,344,349,358,364,370]
def aA3:List Nat:=[6,13,17,21,25,29,33,56,60,64,68,72,76,80,84,88,93,114,126,130,134,138,142,146,150,154,159,165,174,183,189,193,197,202,207,219,223,227,231,235,241,247,252,257,261,265,270,274,279,288,292,297,303,307,317,321,327,332,336,340,345,353,361,365,371]
def idxs:List Nat:=aA0++(aA1++(aA2++aA3))
noncomputable def aht:List Nat→List (Nat×gE)
 | []=>[]
 |n ::l=>(n,fx n) ::aht l
noncomputable def Ap:List Nat→Bool
 | []=>true
 |n ::l=>Nat.blt n 8000&&(Jf Tryz.prog n).isSome&&Ap l
theorem ahu:∀{l:List Nat},Ap l=true→Ms Tryz.prog (aht l)
 | [],_=>trivial
 |n ::l,h=>by simp only[Ap,nn]at h;exact⟨⟨h.1.1,okx h.1.2⟩,ahu h.2⟩
theorem aba:∀{l:List Nat},Ap l=true→∀n∈l,Jf Tryz.prog n=some (fx n)
 | [],_,n,hn=>by cases hn
 |m ::l,h,n,hn=>by
  simp only[Ap,nn]at h;rcases M4.1 hn with e|hn
  ·rw[e];exact okx h.1.2
  ·exact aba h.2 n hn
noncomputable abbrev agJ(n:Nat):T gE:=.node (some (fx n)) .nil .nil
noncomputable abbrev agT(n:Nat)(l r:T gE):T gE:=.node (some (fx n)) l r
abbrev agU(l r:T gE):T gE:=.node none l r
abbrev agX:T gE:=.nil
noncomputable def arA:T gE:=(agU (agU (agT 3 (agT 7 (agT 15 (agT 31 (agT 63 (agT 127 (agJ 255) agX) (agT 191 (agJ 319) agX)) (agU (agT 159 (agJ 287) agX) (agJ 223))) (agU (agT 79 (agT 143 (agJ 271) agX) (agT 207 (agJ 335) agX)) (agU (agT 175 (agJ 303) agX) agX))) (agT 23 (agU (agT 71 (agT 135 (agJ 263) agX) (agT 199 (agJ 327) agX)) (agU agX (agJ 231))) (agT 55 (agT 87 (agT 151 (agJ 279) agX) agX) (agU (agJ 183) (agJ 247))))) (agU (agT 19 (agU (agT 67 (agT 131 (agJ 259) agX) (agJ 195)) (agT 99 (agT 163 (agJ 291) agX) (agT 227 (agJ 355) agX))) (agU (agT 83 (agT 147 (agJ 275) agX) (agU (agJ 339) agX)) (agU (agU (agJ 307) agX) (agT 243 (agJ 371) agX)))) (agT 27 (agU (agT 75 (agT 139 (agJ 267) agX) (agT 203 (agJ 331) agX)) (agU (agT 171 (agJ 299) agX) (agT 235 (agJ 363) agX))) (agT 59 (agT 91 (agJ 155) (agT 219 (agJ 347) agX)) (agJ 123))))) (agT 5 (agU (agT 17 (agT 33 (agT 65 (agT 129 (agJ 257) agX) (agT 193 (agJ 321) agX)) (agU (agU (agJ 289) agX) (agT 225 (agJ 353) agX))) (agU (agT 81 (agT 145 (agJ 273) agX) (agT 209 (agJ 337) agX)) (agU (agU (agJ 305) agX) (agT 241 (agJ 369) agX)))) (agT 25 (agT 41 (agT 73 (agT 137 (agJ 265) agX) (agJ 201)) (agU (agT 169 (agJ 297) agX) (agT 233 (agJ 361) agX))) (agT 57 (agT 89 (agJ 153) (agU (agJ 345) agX)) (agU (agJ 185) (agJ 249))))) (agT 13 (agT 21 (agU (agT 69 (agT 133 (agJ 261) agX) (agT 197 (agJ 325) agX)) (agU (agT 165 (agJ 293) agX) (agT 229 (agJ 357) agX))) (agU (agT 85 (agT 149 (agJ 277) agX) (agU (agJ 341) agX)) (agU (agT 181 (agJ 309) agX) (agJ 245)))) (agT 29 (agU (agT 77 (agT 141 (agJ 269) agX) (agT 205 (agJ 333) agX)) (agU agX (agT 237 (agJ 365) agX))) (agT 61 (agT 93 (agT 157 (agJ 285) agX) (agT 221 (agJ 349) agX)) (agT 125 (agT 189 (agJ 317) agX) (agJ 253))))))) (agU (agT 4 (agT 8 (agT 16 (agT 32 (agT 64 (agJ 128) (agT 192 (agJ 320) agX)) (agT 96 (agT 160 (agJ 288) agX) (agJ 224))) (agU (agT 80 (agT 144 (agJ 272) agX) (agT 208 (agJ 336) agX)) (agU (agU (agJ 304) agX) (agJ 240)))) (agT 24 (agU (agT 72 (agT 136 (agJ 264) agX) (agT 200 (agJ 328) agX)) (agU (agU (agJ 296) agX) (agJ 232))) (agT 56 (agT 88 (agJ 152) (agU (agJ 344) agX)) (agU (agJ 184) (agJ 248))))) (agT 12 (agT 20 (agU (agT 68 (agT 132 (agJ 260) agX) (agT 196 (agJ 324) agX)) (agU (agT 164 (agJ 292) agX) (agJ 228))) (agU (agT 84 (agT 148 (agJ 276) agX) (agU (agJ 340) agX)) agX)) (agT 28 (agU (agT 76 (agT 140 (agJ 268) agX) (agU (agJ 332) agX)) (agU (agT 172 (agJ 300) agX) (agT 236 (agJ 364) agX))) (agT 60 (agU (agJ 156) (agJ 220)) (agT 124 (agU (agJ 316) agX) (agJ 252)))))) (agT 6 (agU (agT 18 (agU (agT 66 (agT 130 (agJ 258) agX) (agJ 194)) (agU (agU (agJ 290) agX) (agJ 226))) (agU (agT 82 (agT 146 (agJ 274) agX) (agT 210 (agJ 338) agX)) (agT 114 (agU (agJ 306) agX) (agU (agJ 370) agX)))) (agT 26 (agU (agT 74 (agJ 138) (agT 202 (agJ 330) agX)) (agU (agU (agJ 298) agX) (agT 234 (agJ 362) agX))) (agT 58 (agT 90 (agJ 154) (agU (agJ 346) agX)) (agU (agJ 186) (agJ 250))))) (agT 14 (agT 22 (agU (agT 70 (agT 134 (agJ 262) agX) (agU (agJ 326) agX)) (agU (agU (agJ 294) agX) (agT 230 (agJ 358) agX))) (agT 54 (agT 86 (agJ 150) (agU (agJ 342) agX)) (agU (agT 182 (agJ 310) agX) (agJ 246)))) (agT 30 (agU (agT 78 (agT 142 (agJ 270) agX) (agT 206 (agJ 334) agX)) (agU (agJ 174) (agU (agJ 366) agX))) (agT 62 (agT 94 (agU (agJ 286) agX) (agJ 222)) (agT 126 (agT 190 (agJ 318) agX) (agJ 254))))))))
theorem IH:∀{a b:List Nat},Ap a=true→Ap b=true→Ap (a++b)=true
 | [],_,_,h=>h
 |n ::l,b,h,k=>by simp only[Ap,nn]at h;simp only[List.cons_append,Ap,nn];exact⟨h.1,IH h.2 k⟩
theorem aA4:Ap aA0=true:=by kernel_rfl
theorem aA5:Ap aA1=true:=by kernel_rfl
theorem aA6:Ap aA2=true:=by kernel_rfl
theorem aA7:Ap aA3=true:=by kernel_rfl
theorem ahv:Ap idxs=true:=IH aA4 (IH aA5 (IH aA6 aA7))
theorem anj:Ms Tryz.prog (aht idxs):=ahu ahv
theorem WQ:arA=HN (aht idxs):=by kernel_rfl
theorem mix:Tryz.prog.follows .mixedOrders=true:=by kernel_rfl
theorem few:Tryz.prog.globals.size≤bG.toNat:=Nat.le_of_ble_eq_true (by kernel_rfl)
theorem l9{n:Nat}(h:idxs.contains n=true):Jf Tryz.prog n=some (fx n):=aba ahv n (List.contains_iff_mem.1 h)
def nD(f:Nat):Bool:=Nat.beq f 86||Nat.beq f 175||Nat.beq f 231
def at3(_:Nat):Bool:=false
noncomputable abbrev CF(tab:List (Nat×T Es))(o:jZ):bU:=aAU arA at3 nD tab o
theorem auH{tab:List (Nat×T Es)}(ht:uw Tryz.prog .nil tab){ρ:Nat→Int}{o:jZ}(ho:fU ρ o)(w0:W0)(hL:kl Tryz.prog .nil w0):Ctx Tryz.prog ρ w0 (CF tab o):=aIj WQ anj mix ht at3 nD ho w0 hL
theorem AR{tab:List (Nat×T Es)}(ht:uw Tryz.prog .nil tab){n f:Nat}(hf:idxs.contains f=true){es:Es}(h:aru (CF tab []) n f (fx f) .nil bG es=true):aT Tryz.prog .nil f es:=
 ahq (fun ρ w0 hL=>auH ht (fU.nil ρ) w0 hL) (l9 hf) few h
theorem apL{tab:List (Nat×T Es)}(ht:uw Tryz.prog .nil tab){f:Nat}(hf:idxs.contains f=true){l:List AV}{v:AV}(hl:(AV.gS l&&AV.IP l&&AV.lits v&&v.kf)=true)(h:Fin (CF tab []) f v ⟨ah f (fx f) l,[],.nil,bG⟩):Ent Tryz.prog .nil f l v:=
 ahp (fun ρ w0 hL=>auH ht (fU.nil ρ) w0 hL) (l9 hf) hl few h
theorem yR{tab:List (Nat×T Es)}(ht:uw Tryz.prog .nil tab){f:Nat}(hf:idxs.contains f=true){t:T Es}(h:FX Tryz.prog .nil f t):uw Tryz.prog .nil ((f,t) ::tab):=⟨⟨⟨_,l9 hf⟩,h⟩,ht⟩
end Ln
