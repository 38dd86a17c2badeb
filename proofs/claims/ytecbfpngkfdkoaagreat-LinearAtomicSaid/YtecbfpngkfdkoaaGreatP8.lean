/- A part of the proof. No condition. -/
import Derived.Test.YtecbfpngkfdkoaaGreatP7
import Derived.Test.YtecbfpngkfdkoaaGreatProg
import Derived.KernelRfl
namespace Ln
open Go.Sx Go Go.Proofs
noncomputable def fx(n:Nat):fq:=match I3 Tryz.prog n with
 |some p=>p
 |none=>⟨.ret,[]⟩
theorem okx{n:Nat}(h:(I3 Tryz.prog n).isSome=true):I3 Tryz.prog n=some (fx n):=by
 unfold fx;cases hp:I3 Tryz.prog n with
 |none=>rw[hp]at h;cases h
 |some p=>rfl
theorem auD{n:Nat}{p:fq}(h:I3 Tryz.prog n=some p):fx n=p:=by unfold fx;rw[h]
def aBS:List Nat:=[3,7,13,17,21,25,29,33,47,52,56,60,64,68,72,76,80,84,88,93,112,116,120,124,128,132,136,140,144,148,152,156,163,171,180,184,188,192,196,201,206,210,222,226,230,234,240,245,249,254,258,262,267,271,275,285,289,293,298,302,306,316,320,326,331,335,339,344,349,358,364,370]
def aBT:List Nat:=[4,8,14,18,22,26,30,34,49,53,57,61,65,69,73,77,81,85,89,94,113,117,121,125,129,133,137,141,145,149,153,157,164,172,181,185,189,193,197,202,207,219,223,227,231,235,241,246,250,255,259,263,268,272,276,286,290,294,299,303,307,317,321,327,332,336,340,345,353,361,365,371]
def aBU:List Nat:=[5,11,15,19,23,27,31,41,50,54,58,62,66,70,74,78,82,86,90,96,114,118,122,126,130,134,138,142,146,150,154,159,165,174,182,186,190,194,199,203,208,220,224,228,232,236,243,247,252,256,260,264,269,273,277,287,291,296,300,304,309,318,324,328,333,337,341,346,355,362,366]
def aBV:List Nat:=[6,12,16,20,24,28,32,45,51,55,59,63,67,71,75,79,83,87,91,99,115,119,123,127,131,135,139,143,147,151,155,160,169,175,183,187,191,195,200,205,209,221,225,229,233,237,244,248,253,257,261,265,270,274,279,288,292,297,301,305,310,319,325,330,334,338,342,347,357,363,369]
def idxs:List Nat:=aBS++(aBT++(aBU++aBV))
noncomputable def ahR:List Nat→List (Nat×fq)
 | []=>[]
 |n ::l=>(n,fx n) ::ahR l
noncomputable def z8:List Nat→Bool
 | []=>true
 |n ::l=>Nat.blt n 8000&&(I3 Tryz.prog n).isSome&&z8 l
theorem ahS:∀{l:List Nat},z8 l=true→MV Tryz.prog (ahR l)
 | [],_=>trivial
 |n ::l,h=>by simp only[z8,jq]at h;exact⟨⟨h.1.1,okx h.1.2⟩,ahS h.2⟩
theorem abt:∀{l:List Nat},z8 l=true→∀n∈l,I3 Tryz.prog n=some (fx n)
 | [],_,n,hn=>by cases hn
 |m ::l,h,n,hn=>by
  simp only[z8,jq]at h;rcases GP.1 hn with e|hn
  ·rw[e];exact okx h.1.2
  ·exact abt h.2 n hn
noncomputable abbrev ahj(n:Nat):T fq:=.node (some (fx n)) .nil .nil
noncomputable abbrev ahn(n:Nat)(l r:T fq):T fq:=.node (some (fx n)) l r
abbrev aho(l r:T fq):T fq:=.node none l r
abbrev aht:T fq:=.nil
noncomputable def arR:T fq:=(aho (aho (ahn 3 (ahn 7 (ahn 15 (ahn 31 (ahn 63 (ahn 127 (ahj 255) aht) (ahn 191 (ahj 319) aht)) (aho (ahn 159 (ahj 287) aht) (ahj 223))) (ahn 47 (ahn 79 (ahn 143 (ahj 271) aht) (ahn 207 (ahj 335) aht)) (aho (ahn 175 (ahj 303) aht) aht))) (ahn 23 (aho (ahn 71 (ahn 135 (ahj 263) aht) (ahn 199 (ahj 327) aht)) (aho aht (ahj 231))) (ahn 55 (ahn 87 (ahn 151 (ahj 279) aht) aht) (ahn 119 (ahj 183) (ahj 247))))) (ahn 11 (ahn 19 (aho (ahn 67 (ahn 131 (ahj 259) aht) (ahj 195)) (ahn 99 (ahn 163 (ahj 291) aht) (ahn 227 (ahj 355) aht))) (ahn 51 (ahn 83 (ahn 147 (ahj 275) aht) (aho (ahj 339) aht)) (ahn 115 (aho (ahj 307) aht) (ahn 243 (ahj 371) aht)))) (ahn 27 (aho (ahn 75 (ahn 139 (ahj 267) aht) (ahn 203 (ahj 331) aht)) (aho (ahn 171 (ahj 299) aht) (ahn 235 (ahj 363) aht))) (ahn 59 (ahn 91 (ahj 155) (ahn 219 (ahj 347) aht)) (ahn 123 (ahj 187) aht))))) (ahn 5 (aho (ahn 17 (ahn 33 (ahn 65 (ahn 129 (ahj 257) aht) (ahn 193 (ahj 321) aht)) (aho (aho (ahj 289) aht) (ahn 225 (ahj 353) aht))) (ahn 49 (ahn 81 (ahn 145 (ahj 273) aht) (ahn 209 (ahj 337) aht)) (ahn 113 (aho (ahj 305) aht) (ahn 241 (ahj 369) aht)))) (ahn 25 (ahn 41 (ahn 73 (ahn 137 (ahj 265) aht) (ahj 201)) (aho (ahn 169 (ahj 297) aht) (ahn 233 (ahj 361) aht))) (ahn 57 (ahn 89 (ahj 153) (aho (ahj 345) aht)) (ahn 121 (ahj 185) (ahj 249))))) (ahn 13 (ahn 21 (aho (ahn 69 (ahn 133 (ahj 261) aht) (ahn 197 (ahj 325) aht)) (aho (ahn 165 (ahj 293) aht) (ahn 229 (ahj 357) aht))) (ahn 53 (ahn 85 (ahn 149 (ahj 277) aht) (aho (ahj 341) aht)) (ahn 117 (ahn 181 (ahj 309) aht) (ahj 245)))) (ahn 29 (ahn 45 (ahn 77 (ahn 141 (ahj 269) aht) (ahn 205 (ahj 333) aht)) (aho (aho (ahj 301) aht) (ahn 237 (ahj 365) aht))) (ahn 61 (ahn 93 (ahn 157 (ahj 285) aht) (ahn 221 (ahj 349) aht)) (ahn 125 (ahn 189 (ahj 317) aht) (ahj 253))))))) (aho (ahn 4 (ahn 8 (ahn 16 (ahn 32 (ahn 64 (ahn 128 (ahj 256) aht) (ahn 192 (ahj 320) aht)) (ahn 96 (ahn 160 (ahj 288) aht) (ahj 224))) (aho (ahn 80 (ahn 144 (ahj 272) aht) (ahn 208 (ahj 336) aht)) (ahn 112 (aho (ahj 304) aht) (ahj 240)))) (ahn 24 (aho (ahn 72 (ahn 136 (ahj 264) aht) (ahn 200 (ahj 328) aht)) (aho (aho (ahj 296) aht) (ahj 232))) (ahn 56 (ahn 88 (ahj 152) (aho (ahj 344) aht)) (ahn 120 (ahj 184) (ahj 248))))) (ahn 12 (ahn 20 (aho (ahn 68 (ahn 132 (ahj 260) aht) (ahn 196 (ahj 324) aht)) (aho (ahn 164 (ahj 292) aht) (ahj 228))) (ahn 52 (ahn 84 (ahn 148 (ahj 276) aht) (aho (ahj 340) aht)) (ahn 116 (ahj 180) (ahj 244)))) (ahn 28 (aho (ahn 76 (ahn 140 (ahj 268) aht) (aho (ahj 332) aht)) (aho (ahn 172 (ahj 300) aht) (ahn 236 (ahj 364) aht))) (ahn 60 (aho (ahj 156) (ahj 220)) (ahn 124 (ahn 188 (ahj 316) aht) (ahj 252)))))) (ahn 6 (aho (ahn 18 (ahn 34 (ahn 66 (ahn 130 (ahj 258) aht) (ahj 194)) (aho (aho (ahj 290) aht) (ahj 226))) (ahn 50 (ahn 82 (ahn 146 (ahj 274) aht) (ahn 210 (ahj 338) aht)) (ahn 114 (aho (ahj 306) aht) (aho (ahj 370) aht)))) (ahn 26 (aho (ahn 74 (ahj 138) (ahn 202 (ahj 330) aht)) (aho (aho (ahj 298) aht) (ahn 234 (ahj 362) aht))) (ahn 58 (ahn 90 (ahj 154) (aho (ahj 346) aht)) (ahn 122 (ahj 186) (ahj 250))))) (ahn 14 (ahn 22 (aho (ahn 70 (ahn 134 (ahj 262) aht) (aho (ahj 326) aht)) (aho (aho (ahj 294) aht) (ahn 230 (ahj 358) aht))) (ahn 54 (ahn 86 (ahj 150) (aho (ahj 342) aht)) (ahn 118 (ahn 182 (ahj 310) aht) (ahj 246)))) (ahn 30 (aho (ahn 78 (ahn 142 (ahj 270) aht) (ahn 206 (ahj 334) aht)) (aho (ahn 174 (ahj 302) aht) (aho (ahj 366) aht))) (ahn 62 (ahn 94 (aho (ahj 286) aht) (ahj 222)) (ahn 126 (ahn 190 (ahj 318) aht) (ahj 254))))))))
theorem Iv:∀{a b:List Nat},z8 a=true→z8 b=true→z8 (a++b)=true
 | [],_,_,h=>h
 |n ::l,b,h,k=>by simp only[z8,jq]at h;simp only[List.cons_append,z8,jq];exact⟨h.1,Iv h.2 k⟩
theorem aBW:z8 aBS=true:=by kernel_rfl
theorem aBX:z8 aBT=true:=by kernel_rfl
theorem aBY:z8 aBU=true:=by kernel_rfl
theorem aBZ:z8 aBV=true:=by kernel_rfl
theorem ahT:z8 idxs=true:=Iv aBW (Iv aBX (Iv aBY aBZ))
theorem anF:MV Tryz.prog (ahR idxs):=ahS ahT
theorem WV:arR=HG (ahR idxs):=by kernel_rfl
theorem mix:Tryz.prog.follows .mixedOrders=true:=by kernel_rfl
theorem few:Tryz.prog.globals.size≤bC.toNat:=Nat.le_of_ble_eq_true (by kernel_rfl)
theorem iJ{n:Nat}(h:idxs.contains n=true):I3 Tryz.prog n=some (fx n):=abt ahT n (List.contains_iff_mem.1 h)
def ma(f:Nat):Bool:=Nat.beq f 86||Nat.beq f 175||Nat.beq f 231
def auE(_:Nat):Bool:=false
noncomputable abbrev CF(tab:List (Nat×T Es))(o:iV):bP:=aBM arR auE ma tab o
theorem avl{tab:List (Nat×T Es)}(ht:sG Tryz.prog .nil tab){ρ:Nat→Int}{o:iV}(ho:fk ρ o)(w0:W0)(hL:ji Tryz.prog .nil w0):Ctx Tryz.prog ρ w0 (CF tab o):=aJA WV anF mix ht auE ma ho w0 hL
theorem AE{tab:List (Nat×T Es)}(ht:sG Tryz.prog .nil tab){n f:Nat}(hf:idxs.contains f=true){es:Es}(h:arK (CF tab []) n f (fx f) .nil bC es=true):aT Tryz.prog .nil f es:=
 ahO (fun ρ w0 hL=>avl ht (fk.nil ρ) w0 hL) (iJ hf) few h
theorem ap1{tab:List (Nat×T Es)}(ht:sG Tryz.prog .nil tab){f:Nat}(hf:idxs.contains f=true){l:List AV}{v:AV}(hl:(AV.dU l&&AV.Ey l&&AV.lits v&&v.kf)=true)(h:Fin (CF tab []) f v ⟨ai f (fx f) l,[],.nil,bC⟩):Ent Tryz.prog .nil f l v:=
 ahN (fun ρ w0 hL=>avl ht (fk.nil ρ) w0 hL) (iJ hf) hl few h
theorem yr{tab:List (Nat×T Es)}(ht:sG Tryz.prog .nil tab){f:Nat}(hf:idxs.contains f=true){t:T Es}(h:FJ Tryz.prog .nil f t):sG Tryz.prog .nil ((f,t) ::tab):=⟨⟨⟨_,iJ hf⟩,h⟩,ht⟩
end Ln
