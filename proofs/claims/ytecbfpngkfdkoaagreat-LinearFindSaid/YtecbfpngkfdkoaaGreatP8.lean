/- A part of the proof. No condition. -/
import Derived.Test.YtecbfpngkfdkoaaGreatP7
import Derived.Test.YtecbfpngkfdkoaaGreatProg
import Derived.KernelRfl
namespace Ln
open Go.Sx Go Go.Proofs
noncomputable def fx(n:Nat):fe:=match J9 Tryz.prog n with
 |some p=>p
 |none=>⟨.ret,[]⟩
theorem okx{n:Nat}(h:(J9 Tryz.prog n).isSome=true):J9 Tryz.prog n=some (fx n):=by
 unfold fx;cases hp:J9 Tryz.prog n with
 |none=>rw[hp]at h;cases h
 |some p=>rfl
theorem au8{n:Nat}{p:fe}(h:J9 Tryz.prog n=some p):fx n=p:=by unfold fx;rw[h]
def aBV:List Nat:=[3,7,15,19,23,27,31,55,59,63,67,71,75,79,83,87,96,124,128,132,136,140,144,148,152,156,163,171,181,185,191,195,200,205,209,221,225,229,233,237,245,249,254,259,263,268,272,276,286,290,294,299,305,310,319,325,330,334,338,342,347,357,363,369]
def aBW:List Nat:=[4,12,16,20,24,28,32,56,60,64,68,72,76,80,84,90,99,125,129,133,137,141,145,149,153,157,164,172,182,186,192,196,201,206,210,222,226,230,234,240,246,250,255,260,264,269,273,277,287,291,296,300,306,316,320,326,331,335,339,344,349,358,364,370]
def aBX:List Nat:=[5,13,17,21,25,29,41,57,61,65,69,73,77,81,85,93,114,126,130,134,138,142,146,150,154,159,165,174,183,189,193,197,202,207,219,223,227,231,235,241,247,252,257,261,265,270,274,279,288,292,297,303,307,317,321,327,332,336,340,345,353,361,365,371]
def aBY:List Nat:=[6,14,18,22,26,30,54,58,62,66,70,74,78,82,86,94,123,127,131,135,139,143,147,151,155,160,169,175,184,190,194,199,203,208,220,224,228,232,236,243,248,253,258,262,267,271,275,285,289,293,298,304,309,318,324,328,333,337,341,346,355,362,366]
def idxs:List Nat:=aBV++(aBW++(aBX++aBY))
noncomputable def aiJ:List Nat→List (Nat×fe)
 | []=>[]
 |n ::l=>(n,fx n) ::aiJ l
noncomputable def zJ:List Nat→Bool
 | []=>true
 |n ::l=>Nat.blt n 8000&&(J9 Tryz.prog n).isSome&&zJ l
theorem aiK:∀{l:List Nat},zJ l=true→NU Tryz.prog (aiJ l)
 | [],_=>trivial
 |n ::l,h=>by simp only[zJ,mP]at h;exact⟨⟨h.1.1,okx h.1.2⟩,aiK h.2⟩
theorem acy:∀{l:List Nat},zJ l=true→∀n∈l,J9 Tryz.prog n=some (fx n)
 | [],_,n,hn=>by cases hn
 |m ::l,h,n,hn=>by
  simp only[zJ,mP]at h;rcases OG.1 hn with e|hn
  ·rw[e];exact okx h.1.2
  ·exact acy h.2 n hn
noncomputable abbrev afq(n:Nat):T fe:=.node (some (fx n)) .nil .nil
noncomputable abbrev afr(n:Nat)(l r:T fe):T fe:=.node (some (fx n)) l r
abbrev aft(l r:T fe):T fe:=.node none l r
abbrev afw:T fe:=.nil
noncomputable def asI:T fe:=(aft (aft (afr 3 (afr 7 (afr 15 (afr 31 (afr 63 (afr 127 (afq 255) afw) (afr 191 (afq 319) afw)) (aft (afr 159 (afq 287) afw) (afq 223))) (aft (afr 79 (afr 143 (afq 271) afw) (afr 207 (afq 335) afw)) (aft (afr 175 (afq 303) afw) afw))) (afr 23 (aft (afr 71 (afr 135 (afq 263) afw) (afr 199 (afq 327) afw)) (aft afw (afq 231))) (afr 55 (afr 87 (afr 151 (afq 279) afw) afw) (aft (afq 183) (afq 247))))) (aft (afr 19 (aft (afr 67 (afr 131 (afq 259) afw) (afq 195)) (afr 99 (afr 163 (afq 291) afw) (afr 227 (afq 355) afw))) (aft (afr 83 (afr 147 (afq 275) afw) (aft (afq 339) afw)) (aft (aft (afq 307) afw) (afr 243 (afq 371) afw)))) (afr 27 (aft (afr 75 (afr 139 (afq 267) afw) (afr 203 (afq 331) afw)) (aft (afr 171 (afq 299) afw) (afr 235 (afq 363) afw))) (afr 59 (aft (afq 155) (afr 219 (afq 347) afw)) (afq 123))))) (afr 5 (aft (afr 17 (aft (afr 65 (afr 129 (afq 257) afw) (afr 193 (afq 321) afw)) (aft (aft (afq 289) afw) (afr 225 (afq 353) afw))) (aft (afr 81 (afr 145 (afq 273) afw) (afr 209 (afq 337) afw)) (aft (aft (afq 305) afw) (afr 241 (afq 369) afw)))) (afr 25 (afr 41 (afr 73 (afr 137 (afq 265) afw) (afq 201)) (aft (afr 169 (afq 297) afw) (afr 233 (afq 361) afw))) (afr 57 (aft (afq 153) (aft (afq 345) afw)) (aft (afq 185) (afq 249))))) (afr 13 (afr 21 (aft (afr 69 (afr 133 (afq 261) afw) (afr 197 (afq 325) afw)) (aft (afr 165 (afq 293) afw) (afr 229 (afq 357) afw))) (aft (afr 85 (afr 149 (afq 277) afw) (aft (afq 341) afw)) (aft (afr 181 (afq 309) afw) (afq 245)))) (afr 29 (aft (afr 77 (afr 141 (afq 269) afw) (afr 205 (afq 333) afw)) (aft afw (afr 237 (afq 365) afw))) (afr 61 (afr 93 (afr 157 (afq 285) afw) (afr 221 (afq 349) afw)) (afr 125 (afr 189 (afq 317) afw) (afq 253))))))) (aft (afr 4 (aft (afr 16 (afr 32 (afr 64 (afq 128) (afr 192 (afq 320) afw)) (afr 96 (afr 160 (afq 288) afw) (afq 224))) (aft (afr 80 (afr 144 (afq 272) afw) (afr 208 (afq 336) afw)) (aft (aft (afq 304) afw) (afq 240)))) (afr 24 (aft (afr 72 (afr 136 (afq 264) afw) (afr 200 (afq 328) afw)) (aft (aft (afq 296) afw) (afq 232))) (afr 56 (aft (afq 152) (aft (afq 344) afw)) (aft (afq 184) (afq 248))))) (afr 12 (afr 20 (aft (afr 68 (afr 132 (afq 260) afw) (afr 196 (afq 324) afw)) (aft (afr 164 (afq 292) afw) (afq 228))) (aft (afr 84 (afr 148 (afq 276) afw) (aft (afq 340) afw)) afw)) (afr 28 (aft (afr 76 (afr 140 (afq 268) afw) (aft (afq 332) afw)) (aft (afr 172 (afq 300) afw) (afr 236 (afq 364) afw))) (afr 60 (aft (afq 156) (afq 220)) (afr 124 (aft (afq 316) afw) (afq 252)))))) (afr 6 (aft (afr 18 (aft (afr 66 (afr 130 (afq 258) afw) (afq 194)) (aft (aft (afq 290) afw) (afq 226))) (aft (afr 82 (afr 146 (afq 274) afw) (afr 210 (afq 338) afw)) (afr 114 (aft (afq 306) afw) (aft (afq 370) afw)))) (afr 26 (aft (afr 74 (afq 138) (afr 202 (afq 330) afw)) (aft (aft (afq 298) afw) (afr 234 (afq 362) afw))) (afr 58 (afr 90 (afq 154) (aft (afq 346) afw)) (aft (afq 186) (afq 250))))) (afr 14 (afr 22 (aft (afr 70 (afr 134 (afq 262) afw) (aft (afq 326) afw)) (aft (aft (afq 294) afw) (afr 230 (afq 358) afw))) (afr 54 (afr 86 (afq 150) (aft (afq 342) afw)) (aft (afr 182 (afq 310) afw) (afq 246)))) (afr 30 (aft (afr 78 (afr 142 (afq 270) afw) (afr 206 (afq 334) afw)) (aft (afq 174) (aft (afq 366) afw))) (afr 62 (afr 94 (aft (afq 286) afw) (afq 222)) (afr 126 (afr 190 (afq 318) afw) (afq 254))))))))
theorem JK:∀{a b:List Nat},zJ a=true→zJ b=true→zJ (a++b)=true
 | [],_,_,h=>h
 |n ::l,b,h,k=>by simp only[zJ,mP]at h;simp only[List.cons_append,zJ,mP];exact⟨h.1,JK h.2 k⟩
theorem aBZ:zJ aBV=true:=by kernel_rfl
theorem aB0:zJ aBW=true:=by kernel_rfl
theorem aB1:zJ aBX=true:=by kernel_rfl
theorem aB2:zJ aBY=true:=by kernel_rfl
theorem aiL:zJ idxs=true:=JK aBZ (JK aB0 (JK aB1 aB2))
theorem aoK:NU Tryz.prog (aiJ idxs):=aiK aiL
theorem Yw:asI=IX (aiJ idxs):=by kernel_rfl
theorem mix:Tryz.prog.follows .mixedOrders=true:=by kernel_rfl
theorem few:Tryz.prog.globals.size≤bw.toNat:=Nat.le_of_ble_eq_true (by kernel_rfl)
theorem lv{n:Nat}(h:idxs.contains n=true):J9 Tryz.prog n=some (fx n):=acy aiL n (List.contains_iff_mem.1 h)
def mY(f:Nat):Bool:=Nat.beq f 86||Nat.beq f 175||Nat.beq f 231
def au9(_:Nat):Bool:=false
noncomputable abbrev CF(tab:List (Nat×T Es))(o:jR):bQ:=aBP asI au9 mY tab o
theorem avI{tab:List (Nat×T Es)}(ht:tF Tryz.prog .nil tab){ρ:Nat→Int}{o:jR}(ho:fK ρ o)(w0:W0)(hL:jQ Tryz.prog .nil w0):Ctx Tryz.prog ρ w0 (CF tab o):=aJm Yw aoK mix ht au9 mY ho w0 hL
theorem Aq{tab:List (Nat×T Es)}(ht:tF Tryz.prog .nil tab){n f:Nat}(hf:idxs.contains f=true){es:Es}(h:asC (CF tab []) n f (fx f) .nil bw es=true):aV Tryz.prog .nil f es:=
 aiG (fun ρ w0 hL=>avI ht (fK.nil ρ) w0 hL) (lv hf) few h
theorem aq7{tab:List (Nat×T Es)}(ht:tF Tryz.prog .nil tab){f:Nat}(hf:idxs.contains f=true){l:List AV}{v:AV}(hl:(AV.iA l&&AV.JO l&&AV.lits v&&v.kf)=true)(h:Fin (CF tab []) f v ⟨ai f (fx f) l,[],.nil,bw⟩):Ent Tryz.prog .nil f l v:=
 aiF (fun ρ w0 hL=>avI ht (fK.nil ρ) w0 hL) (lv hf) hl few h
theorem yn{tab:List (Nat×T Es)}(ht:tF Tryz.prog .nil tab){f:Nat}(hf:idxs.contains f=true){t:T Es}(h:HC Tryz.prog .nil f t):tF Tryz.prog .nil ((f,t) ::tab):=⟨⟨⟨_,lv hf⟩,h⟩,ht⟩
end Ln
