/- A part of the proof. No condition. -/
import Derived.Test.YtmdpbiocakjlkaaGreatDoorP6
set_option linter.unusedSimpArgs false
set_option linter.unusedVariables false
set_option linter.unusedSectionVars false
namespace Tb
open Go.Sx Go
variable{C:cU}(S:dd C)
variable{p:Key}{M m m' na nb nc ne nf:Nat}{h h':T ab}{nx nx':Key}{tm:T AV}{cs:List AV}{kd:Int}
include S
theorem apH(O:Dk p h nx M tm kd cs m h' nx')(hk:kd=1∨kd=2)(Xx:aa (K 49) tm=some (I kd)):bt C dcB (dcQ C p M h nx) tm h' nx':=by
 have q1:=S.bD
 have q2:=S.bg
 have q3:=S.KR
 have q4:=S.pI
 have q5:=S.bJ
 have q6:=S.pJ
 have q7:=S.cH
 have e0:=O.e0
 have e2:=O.e2
 have e3:=O.e3
 have hM:=O.hM
 have Ws:=O.hm
 have hww:=O.w
 have hl:=O.len
 have h0:¬ kd=0:=by omega
 -- the end
 have fin:∀ (tm':T AV) (hx:T ab) (aF:Key) (mx:Nat) (Vs:List AV),aa (K 0) tm'=some (.ptr p 0)→aa (K 2) tm'=some (.ptr nx 0)→aa (K 3) tm'=some (.ptr nx.succ 0)→Dw p h nx 0 0 0 0 0 Vs mx hx aF→wF (dF 0 0 0 0 0) Vs+8*mx≤8*m→bt C (U.ops nq) (ai 2 (dcQ C p M h nx)) tm' hx aF:=by
  intro tm' hx aF mx Vs e0 e2 e3 Dx hmx
  simp[nq,e0,q2]
  refine(bC S Dx.P _ _).mono ?_
  rintro o h4 jq ⟨⟨m4,rfl,P4,Oj⟩,k4⟩
  have D4:=Dx.call P4 k4
  simp
  have key:=fun tm' e2 e3=>adC (C:=C) (tm:=tm') (M:=M) S O.hp D4 hM e2 e3 (by omega)
  simp at key
  refine key _ ?_ ?_
  ·simp[e2]
  ·simp[e3]
 -- body or auB
 have bod:∀ (tm':T AV) (hx:T ab) (aF:Key) (mx:Nat) (Vs:List AV),aa (K 0) tm'=some (.ptr p 0)→aa (K 2) tm'=some (.ptr nx 0)→aa (K 3) tm'=some (.ptr nx.succ 0)→Dw p h nx 0 0 0 0 0 (I kd ::Vs) mx hx aF→wF (dF 0 0 0 0 0) (I kd ::Vs)+8*mx≤8*m→bt C ((U.ops sL).seq (((U.ops nj).seq (U.cond (PX.t (K 85)) (U.ops sM) (U.ops sN))).seq (U.ops nq))) (ai 2 (dcQ C p M h nx)) tm' hx aF:=by
  intro tm' hx aF mx Vs e0 e2 e3 Dx hmx
  simp
  simp[sL,e0,q2]
  refine(bC S Dx.P _ _).mono ?_
  rintro o h4 jq ⟨⟨m4,rfl,P4,Oj⟩,k4⟩
  have D4:=Dx.call P4 k4
  have hlx:Vs.length=44:=by have:(I kd ::Vs).length=45:=Dx.F.len;simpa using this
  simp
  rcases hk with rfl|rfl
  ·simp[nj,e3,D4.g]
   simp[sN,e0,q7]
   refine(vJ S (by omega) P4).mono ?_
   rintro o h5 iW ⟨⟨l5,m5,rfl,o5,P5,Oy⟩,k5⟩
   have l5n:l5.length=7:=o5.len
   have z5:l5.all AV.aD=true:=mi.2 o5.aU
   have D5:=D4.call P5 k5
   have D6:=D5.ZG (ts:=sj) o5 (i:=8) (j:=15) (by simp) (by omega) rfl
   have w6:=La (fs:=dF 0 0 0 0 0) (cs:=I 1 ::Vs) (ts:=sj) (vs:=l5) (i:=8) (j:=15) (by simp[hlx]) (by rw[l5n];rfl) (by simp) (by omega) rfl
   rw[show List.take 8 (I 1 ::Vs)++(l5++List.drop 15 (I 1 ::Vs))=I 1 ::(List.take 7 Vs++(l5++List.drop 14 Vs)) from rfl] at w6
   simp at D6
   simp[D5.g,e3,l5n,z5,hlx]
   have key:=fun tm' e0 e2 e3=>fin tm' _ _ _ _ e0 e2 e3 D6 (by omega)
   simp at key
   refine key _ ?_ ?_ ?_
   ·simp[e0]
   ·simp[e2]
   ·simp[e3]
  ·simp[nj,e3,D4.g]
   simp[sM,e0,q6]
   refine(aoz S (by omega) P4).mono ?_
   rintro o h5 iW ⟨⟨l5,m5,rfl,o5,P5,Oy⟩,k5⟩
   have l5n:l5.length=6:=o5.len
   have z5:l5.all AV.aD=true:=mi.2 o5.aU
   have D5:=D4.call P5 k5
   have D6:=D5.ZG (ts:=RZ) o5 (i:=16) (j:=22) (by simp) (by omega) rfl
   have w6:=La (fs:=dF 0 0 0 0 0) (cs:=I 2 ::Vs) (ts:=RZ) (vs:=l5) (i:=16) (j:=22) (by simp[hlx]) (by rw[l5n];rfl) (by simp) (by omega) rfl
   rw[show List.take 16 (I 2 ::Vs)++(l5++List.drop 22 (I 2 ::Vs))=I 2 ::(List.take 15 Vs++(l5++List.drop 21 Vs)) from rfl] at w6
   simp at D6
   simp[D5.g,e3,l5n,z5,hlx]
   have key:=fun tm' e0 e2 e3=>fin tm' _ _ _ _ e0 e2 e3 D6 (by omega)
   simp at key
   refine key _ ?_ ?_ ?_
   ·simp[e0]
   ·simp[e2]
   ·simp[e3]
 have main:∀ (tm':T AV),aa (K 0) tm'=some (.ptr p 0)→aa (K 2) tm'=some (.ptr nx 0)→aa (K 3) tm'=some (.ptr nx.succ 0)→bt C dcG (ai 2 (dcQ C p M h nx)) tm' h' nx':=by
  intro tm' e0 e2 e3
  simp
  simp[y8,e0,q3]
  refine(adW S O.D.P (by omega)).mono ?_
  rintro o h1 aY ⟨⟨c,m1,rfl,oc,P1,hm1⟩,k1⟩
  have D1:=O.D.call P1 k1
  have D2:=D1.Dq (i:=4) (f:=.d (.sl 6)) rfl oc
  have w2:wF (dF 0 0 0 0 0) (I kd ::cs.set 3 c)≤wF (dF 0 0 0 0 0) (I kd ::cs)+AV.wt c:=LY (t:=.sl 6) (fs:=dF 0 0 0 0 0) (cs:=I kd ::cs) (i:=4) (by simp[hl])
  have s3:List.take 3 cs++c ::List.drop 4 cs=cs.set 3 c:=Iu hl (by omega)
  simp at D2
  simp[D1.g,e3,oc.cell,oc.cells,hl,s3]
  have Sa:(cs.set 3 c).length=44:=by rw[List.length_set];exact hl
  generalize cs.set 3 c=mo at D2 Sa w2
  simp[za,e0,q2]
  refine(bC S D2.P _ _).mono ?_
  rintro o h3 dw ⟨⟨m3,rfl,P3,Lj⟩,k3⟩
  have D3:=D2.call P3 k3
  simp
  simp[zb,e0,q4]
  refine(adA S m3 P3).mono ?_
  rintro o h4 jq ⟨⟨l4,m4,rfl,o4,P4,Oj⟩,k4⟩
  have l4n:l4.length=3:=o4.len
  have z4:l4.all AV.aD=true:=mi.2 o4.aU
  have D4:=D3.call P4 k4
  have D5:=D4.ZG (ts:=YG) o4 (i:=5) (j:=8) (by simp) (by omega) rfl
  have w5:=La (fs:=dF 0 0 0 0 0) (cs:=I kd ::mo) (ts:=YG) (vs:=l4) (i:=5) (j:=8) (by simp[Sa]) (by rw[l4n];rfl) (by simp) (by omega) rfl
  rw[show List.take 5 (I kd ::mo)++(l4++List.drop 8 (I kd ::mo))=I kd ::(List.take 4 mo++(l4++List.drop 7 mo)) from rfl] at w5
  simp at D5
  simp[D4.g,e3,l4n,z4,Sa]
  have hl5:(List.take 4 mo++(l4++List.drop 7 mo)).length=44:=by simp;omega
  generalize List.take 4 mo++(l4++List.drop 7 mo)=cs5 at D5 hl5 w5
  by_cases hk2:kd=2
  ·subst hk2
   simp[sK,e0,e3,D5.g,q1]
   refine(eK S D5.P _ _).mono ?_
   rintro o h6 IC ⟨⟨t,m6,rfl,P6,Wn⟩,k6⟩
   have D6:=D5.call P6 k6
   cases t with
   |false=>
    simp at Wn
    simp
    have key:=fun tm' e0 e2 e3=>bod tm' _ _ _ _ e0 e2 e3 D6 (by omega)
    simp at key
    refine key _ ?_ ?_ ?_
    ·simp[e0]
    ·simp[e2]
    ·simp[e3]
   |true=>
    simp at Wn
    simp
    simp[zc,e0,q5]
    refine(iR S P6 2).mono ?_
    rintro o h7 tZ ⟨⟨l7,m7,rfl,o7,P7,Z8⟩,k7⟩
    obtain⟨j1,j2,j3,j4,j5,rfl,hn7,hs7⟩:=I4 o7
    have D7:=D6.call P7 k7
    have D8:=D7.Dq (i:=15) (f:=.d .int) rfl hn7
    have w8:wF (dF 0 0 0 0 0) (I 2 ::cs5.set 14 (I j3))≤wF (dF 0 0 0 0 0) (I 2 ::cs5)+0:=LY (t:=.int) (v:=I j3) (fs:=dF 0 0 0 0 0) (cs:=I 2 ::cs5) (i:=15) (by simp[hl5])
    have s8:List.take 14 cs5++I j3 ::List.drop 15 cs5=cs5.set 14 (I j3):=Iu hl5 (by omega)
    simp at D8
    simp[D7.g,e3,hl5,s8]
    have key:=fun tm' e0 e2 e3=>bod tm' _ _ _ _ e0 e2 e3 D8 (by omega)
    simp at key
    refine key _ ?_ ?_ ?_
    ·simp[e0]
    ·simp[e2]
    ·simp[e3]
  ·have hk1:kd=1:=by omega
   subst hk1
   simp[sK,e3,D5.g]
   have key:=fun tm' e0 e2 e3=>bod tm' _ _ _ _ e0 e2 e3 D5 (by omega)
   simp at key
   refine key _ ?_ ?_ ?_
   ·simp[e0]
   ·simp[e2]
   ·simp[e3]
 rcases hk with rfl|rfl
 ·simp
  simp[eQ,Xx]
  simp[gZ,Xx]
  have key:=fun tm' e0 e2 e3=>main tm' e0 e2 e3
  simp at key
  refine key _ ?_ ?_ ?_
  ·simp[e0]
  ·simp[e2]
  ·simp[e3]
 ·simp
  simp[eQ,Xx]
  simp[gZ,Xx]
  simp[jz,Xx]
  have key:=fun tm' e0 e2 e3=>main tm' e0 e2 e3
  simp at key
  refine key _ ?_ ?_ ?_
  ·simp[e0]
  ·simp[e2]
  ·simp[e3]
end Tb
/-
 SQ: the reference's parser: a declaration. No condition.
-/
namespace Tb
open Go.Sx Go
variable{C:cU}(S:dd C)
variable{p:Key}{M m m' na nb nc ne nf:Nat}{h h':T ab}{nx nx':Key}{tm:T AV}{cs:List AV}{kd:Int}
include S
theorem as7(O:Dk p h nx M tm kd cs m h' nx')(hk:0≤kd∧kd≤5):bt C dcN (dcR C p M h nx) tm h' nx':=by
 have q4:=S.bJ
 have q5:=S.ji
 have e0:=O.e0
 have e2:=O.e2
 have e3:=O.e3
 have hM:=O.hM
 have Ws:=O.hm
 have hww:=O.w
 have hl:=O.len
 have rest:∀ (tm':T AV) (hx:T ab) (aF:Key) (mx:Nat) (Vs:List AV),aa (K 0) tm'=some (.ptr p 0)→aa (K 2) tm'=some (.ptr nx 0)→aa (K 3) tm'=some (.ptr nx.succ 0)→Dw p h nx 0 0 0 0 0 (I kd ::Vs) mx hx aF→wF (dF 0 0 0 0 0) (I kd ::Vs)≤0→mx≤m→bt C (((U.ops nh).seq dcB).seq ((U.ops gW).seq U.ret)) (dcR C p M h nx) tm' hx aF:=by
  intro tm' hx aF mx Vs e0 e2 e3 Dx hwx hmx
  have Ok:∀ oW,aa (K 0) oW=some (.ptr p 0)→aa (K 2) oW=some (.ptr nx 0)→aa (K 3) oW=some (.ptr nx.succ 0)→Dk p h nx M oW kd Vs mx hx aF:=fun oW a b c=>⟨O.hp,hM,Dx,hwx,a,b,c,by omega⟩
  simp
  simp[nh,e3,Dx.g]
  have alK:kd=0∨kd=1∨kd=2∨kd=3∨kd=4∨kd=5:=by omega
  have all:∀ oW,aa (K 0) oW=some (.ptr p 0)→aa (K 2) oW=some (.ptr nx 0)→aa (K 3) oW=some (.ptr nx.succ 0)→aa (K 49) oW=some (I kd)→bt C dcB (dcQ C p M h nx) oW hx aF:=by
   intro oW a b c e
   rcases alK with rfl|rfl|rfl|rfl|rfl|rfl
   ·exact asX S (Ok oW a b c) e
   ·exact apH S (Ok oW a b c) (.inl rfl) e
   ·exact apH S (Ok oW a b c) (.inr rfl) e
   ·exact asY S (Ok oW a b c) e
   ·exact anN S (Ok oW a b c) e
   ·exact alf S (Ok oW a b c) e
  simp at all
  refine all _ ?_ ?_ ?_ ?_
  ·simp[e0]
  ·simp[e2]
  ·simp[e3]
  ·simp
 simp
 simp[yW,e0,q5]
 refine(amV S O.D.P).mono ?_
 rintro o h1 aY ⟨⟨n,rfl,hn⟩,x1⟩
 have D1:=O.D.ext x1
 have D2:=D1.Dq (i:=2) (f:=.d .int) rfl hn
 have w2:wF (dF 0 0 0 0 0) (I kd ::cs.set 1 (I n))≤wF (dF 0 0 0 0 0) (I kd ::cs)+0:=LY (t:=.int) (v:=I n) (fs:=dF 0 0 0 0 0) (cs:=I kd ::cs) (i:=2) (by simp[hl])
 have s2:List.take 1 cs++I n ::List.drop 2 cs=cs.set 1 (I n):=Iu hl (by omega)
 have Sa:(cs.set 1 (I n)).length=44:=by rw[List.length_set];exact hl
 simp at D2
 simp[D1.g,e3,hl,s2]
 generalize cs.set 1 (I n)=mo at D2 Sa w2
 have nm:∀ (tm':T AV) (hx:T ab) (aF:Key) (mx:Nat) (sn sc:Nat),aa (K 0) tm'=some (.ptr p 0)→aa (K 2) tm'=some (.ptr nx 0)→aa (K 3) tm'=some (.ptr nx.succ 0)→Dw p h nx 0 0 0 0 0 (I kd ::mo) mx hx aF→mx≤m→dg W0 .str (.str sn sc)→
   bt C (((U.ops nh).seq dcB).seq ((U.ops gW).seq U.ret)) (dcR C p M h nx) tm' (aK nx.succ (some (.cells (I kd ::.str sn sc ::mo.tail) .fix)) hx) aF:=by
  intro tm' hx aF mx sn sc e0 e2 e3 Dx hmx hs
  have D3:=Dx.Dq (i:=1) (f:=.d .str) rfl hs
  obtain⟨y,ys,rfl⟩:∃ y ys,mo=y ::ys:=by
   cases mo with
   |nil=>simp at Sa
   |cons y ys=>exact⟨y,ys,rfl⟩
  have w3:wF (dF 0 0 0 0 0) (I kd ::.str sn sc ::ys)≤wF (dF 0 0 0 0 0) (I kd ::y ::ys)+0:=LY (t:=.str) (v:=.str sn sc) (fs:=dF 0 0 0 0 0) (cs:=I kd ::y ::ys) (i:=1) (by simpa using Sa.symm)
  exact rest tm' _ aF mx _ e0 e2 e3 D3 (show wF (dF 0 0 0 0 0) (I kd ::.str sn sc ::ys)≤0 by omega) hmx
 obtain⟨y,ys,rfl⟩:∃ y ys,mo=y ::ys:=by
  cases mo with
  |nil=>simp at Sa
  |cons y ys=>exact⟨y,ys,rfl⟩
 simp at Sa
 by_cases Rz:kd=0
 ·subst Rz
  simp[sJ,e3]
  simp[yX,e0,q4]
  refine(iR S D2.P 1).mono ?_
  rintro o h4 jq ⟨⟨l4,m4,rfl,o4,P4,Oj⟩,k4⟩
  obtain⟨j1,j2,j3,sn,sc,rfl,hn4,hs4⟩:=I4 o4
  have D4:=D2.call P4 k4
  simp[D4.g,e3]
  have key:=fun tm' e0 e2 e3=>nm tm' _ _ _ _ _ e0 e2 e3 D4 (by omega) hs4
  simp at key
  refine key _ ?_ ?_ ?_
  ·simp[e0]
  ·simp[e2]
  ·simp[e3]
 ·have cB:(kd==0)=false:=by simp[Rz]
  simp[sJ,e3,cB]
  simp[yY,e0,q4]
  refine(iR S D2.P 0).mono ?_
  rintro o h4 jq ⟨⟨l4,m4,rfl,o4,P4,Oj⟩,k4⟩
  obtain⟨j1,j2,j3,sn,sc,rfl,hn4,hs4⟩:=I4 o4
  have D4:=D2.call P4 k4
  simp[D4.g,e3]
  have key:=fun tm' e0 e2 e3=>nm tm' _ _ _ _ _ e0 e2 e3 D4 (by omega) hs4
  simp at key
  refine key _ ?_ ?_ ?_
  ·simp[e0]
  ·simp[e2]
  ·simp[e3]
end Tb
/-
 SQ: the reference's parser: a declaration, whole. No condition.
-/
namespace Tb
open Go.Sx Go
variable{C:cU}(S:dd C)
include S
theorem as5{p:Key}{M:Nat}{h:T ab}{nx:Key}{cs:List AV}{h':T ab}{nx':Key}{tm:T AV}(hp:p.toNat<nx.toNat)(O:Dw p h nx 0 0 0 0 0 cs 0 h' nx')(hw:wF (dF 0 0 0 0 0) cs≤0)(e2:aa (K 2) tm=some (.ptr nx 0))(e3:aa (K 3) tm=some (.ptr nx.succ 0)) :
  bt C ((U.ops sI).seq .ret) (aN [RV.cell (K 2) true 45] (mf (W0 14) p M h nx)) tm h' nx':=by
 have s0:=kTSu nx
 have hl:cs.length=45:=O.F.len
 have hc:cs.all AV.aD=true:=mi.2 O.F.aU
 have gz:aa nx h'=some (.cells dZ .fix):=by rw[O.k.g nx (by omega) (aG (by omega)),gTSm]
 have O':=O.base ((Ks.refl p h nx).new) hp
 simp
 simp[sI,e2,e3,O.g,hl,sh hl,hc,gz]
 obtain⟨⟨l,m',a,b,c,d⟩,e⟩:=O'.amu (rb:=nx) (B:=wF (dF 0 0 0 0 0) cs+8*0) (fun h2=>by have:=h2.1;omega) (bS _) rfl (by omega) (bS _) 9997
 exact⟨⟨l,m',a,b,c,by omega⟩,e⟩
theorem as6{p:Key}{m:Nat}{h:T ab}{nx:Key}(P:PP p m h nx)(hm:m≤8000):aO C wi [.ptr p 0] h nx (mf (W0 14) p m h nx):=by
 have q1:=S.bD
 have q2:=S.aaM
 have s0:=kTSu nx
 have s1:=kTSu nx.succ
 have hp:=P.hi
 refine S.ZN.call ?_
 simp[DQ]
 simp[MZ]
 have P0:PP p m (aK nx (some (.cells dZ .fix)) h) nx.succ:=P.ext (E0 h nx _)
 have P1:=P0.ext (E0 (aK nx (some (.cells dZ .fix)) h) nx.succ (.cells (I (-1) ::dZ.tail) .fix))
 have D1:Dw p h nx 0 0 0 0 0 (I (-1) ::dZ.tail) m (aK nx.succ (some (.cells (I (-1) ::dZ.tail) .fix)) (aK nx (some (.cells dZ .fix)) h)) nx.succ.succ:=
  ⟨P1,by rw[gTSm],(ab3 (dF 0 0 0 0 0) (by intro k len hk;simp at hk;omega)).Dq (t:=.int) (v:=I (-1)) (ok_int (by omega) (by omega)) (i:=0) rfl rfl,(Ks.refl _ _ _).new,by omega,bS _,by omega,fun h2=>h2.2 rfl,fun b hb=>hb.1,fun b hb=>⟨by omega,aG (by omega)⟩⟩
 simp[M3]
 simp[M4,q2]
 refine(amA S _ _).mono ?_
 rintro o h2 aH ⟨⟨L,rfl,hL,hs⟩,x2⟩
 have D2:Dw p h nx 0 0 0 0 0 (I (-1) ::dZ.tail) m h2 aH:=D1.ext x2
 have w2:wF (dF 0 0 0 0 0) (I (-1) ::dZ.tail)≤0:=by simp[zC,FS.ct]
 generalize (dZ.tail:List AV)=z at D2 w2
 simp
 simp[M5]
 refine W.bV (n:=6) (ajL p m L h nx) ?_ ?_
 ·exact⟨0,-1,z,m,by omega,by omega,by simp,by simp,by simp,by simp,by simp,D2,w2,by omega,.inl rfl⟩
 rintro k Vp h3 dw ⟨i,kd,cs,m3,rfl,hi,f0,f2,f3,f4,f5,D3,hw3,Lj,hkd⟩
 refine W.of ?_
 have OT:(I kd ::cs).length=45:=D3.F.len
 simp at OT
 have g3:=D3.g
 have ex:∀ tm',aa (K 0) tm'=some (.ptr p 0)→aa (K 2) tm'=some (.ptr nx 0)→aa (K 3) tm'=some (.ptr nx.succ 0)→bt C dcE (dcR C p m h nx) tm' h3 dw:=by
  intro tm' e0 e2 e3
  rcases hkd with rfl|hkd
  ·obtain⟨sn,sc,c0,rs,j,bad,b1,b2,b3,b4,b5,b6,_⟩:=D3.P.at_
   simp
   simp[uZ,e3,g3]
   simp[Cb,e0,b1]
   have Dz:=D3.call (PP.fail (sc:=sc) (h:=h3) (nx:=dw) D3.P.hi b2 b3 b4 b5 b6) (tw _ _ _ _)
   have key:=fun tm' e2 e3=>as5 (C:=C) (tm:=tm') (M:=m) S hp Dz hw3 e2 e3
   simp at key
   refine key _ ?_ ?_
   ·simp[e2]
   ·simp[e3]
  ·have hk1:¬ kd<0:=by omega
   have key:=fun tm' e0 e2 e3=>as7 (C:=C) (tm:=tm') (M:=m) S ⟨hp,hm,D3,hw3,e0,e2,e3,hkd.2.2⟩ ⟨hkd.1,hkd.2.1⟩
   simp
   simp[uZ,e3,g3,hk1]
   simp at key
   refine key _ ?_ ?_ ?_
   ·simp[e0]
   ·simp[e2]
   ·simp[e3]
 simp at ex
 simp[Nb]
 by_cases hi6:i=6
 ·subst hi6
  simp[uY,f4,f5]
  refine ex _ ?_ ?_ ?_
  ·simp[f0]
  ·simp[f2]
  ·simp[f3]
 ·have axK:(i:Int)<6:=by omega
  have aGS:i<6:=by omega
  rcases hkd with rfl|hkd
  ·have hib:¬ (i:Int)<0:=by omega
   have aNF:¬ 1048576<i:=by omega
   have hli:i<L.length:=by omega
   obtain⟨a,b,hab⟩:=hs L[i] (XV hli)
   have h1:1≤6-i:=by omega
   have ec:List.take 1 (List.drop i L)=[.str a b]:=by
    rw[zqt (by omega),hab];rfl
   have hw:aW .i64 ((i:Int)+1)=((i+1:Nat):Int):=by rw[show(i:Int)+1=((i+1:Nat):Int) by omega];exact br (by omega) (by omega)
   simp[uY,f3,f4,f5,g3,axK]
   simp[M9,f0,f4,f5,aGS,hL,h1,ec,q1]
   refine(eK S D3.P _ _).mono ?_
   rintro o h4 jq ⟨⟨t,m4,rfl,P4,Oj⟩,k4⟩
   have D4:=D3.call P4 k4
   cases t with
   |true=>
    simp at Oj
    have D5:=D4.Dq (i:=0) (f:=.d .int) rfl (v:=I i) (ok_int (by omega) (by omega))
    simp at D5
    simp
    simp[Na,f3,f5,D4.g]
    simp[Ca,f5]
    refine⟨6-(i+1),by omega,?_⟩
    unfold ajL
    exact⟨i+1,i,cs,m4,rfl,by omega,by simp[f0],by simp[f2],by simp[f3],by simp[f4],by simp[hw],D5,by simpa using hw3,by omega,.inr ⟨by omega,by omega,by omega⟩⟩
   |false=>
    simp at Oj
    simp
    simp[Ca,f5]
    refine⟨6-(i+1),by omega,?_⟩
    unfold ajL
    exact⟨i+1,-1,cs,m4,rfl,by omega,by simp[f0],by simp[f2],by simp[f3],by simp[f4],by simp[hw],D4,hw3,by omega,.inl rfl⟩
  ·have aGT:¬ kd<0:=by omega
   simp[uY,f3,f4,f5,g3,axK,aGT]
   refine ex _ ?_ ?_ ?_
   ·simp[f0]
   ·simp[f2]
   ·simp[f3]
end Tb
/-
 SQ: the reference's lexer: classes, blanks. No condition.
-/
namespace Tb
open Go.Sx Go
def tX(h:T ab)(nx:Key)(o:Out)(h':T ab)(nx':Key):Prop:=(∃ k:Int,o=.ret (I k)∧0≤k∧k≤6)∧Ext h nx h' nx'
theorem tX.mk{h:T ab}{nx:Key}{k:Int}(h1:0≤k)(h2:k≤6):tX h nx (.ret (.int .i64 (.lit k))) h nx:=⟨⟨k,rfl,h1,h2⟩,Ext.refl _ _⟩
variable{C:cU}(S:dd C)
include S
theorem DY(x:Int)(h:T ab)(nx:Key):aO C dK [.int .u8 (.lit x)] h nx (tX h nx):=by
 refine S.aaO.call ?_
 simp[Hj]
 simp[PL]
 simp[PM]
 by_cases c1:x=32
 ·subst c1
  simp[FC]
  simp[wN]
  exact tX.mk (by omega) (by omega)
 have b1:(x==32)=false:=by simp[c1]
 simp[FC,b1]
 by_cases c2:x=9
 ·subst c2
  simp[FD]
  simp[wN]
  exact tX.mk (by omega) (by omega)
 have b2:(x==9)=false:=by simp[c2]
 simp[FD,b2]
 by_cases c3:x=10
 ·subst c3
  simp[FE]
  simp[wN]
  exact tX.mk (by omega) (by omega)
 have b3:(x==10)=false:=by simp[c3]
 simp[FE,b3]
 by_cases c4:x=95
 ·subst c4
  simp[FF]
  simp[PN]
  exact tX.mk (by omega) (by omega)
 have b4:(x==95)=false:=by simp[c4]
 simp[FF,b4]
 by_cases c5:x=35
 ·subst c5
  simp[FG]
  simp[PO]
  exact tX.mk (by omega) (by omega)
 have b5:(x==35)=false:=by simp[c5]
 simp[FG,b5]
 have g16:∀ tm,eu C (ak (bt C U.ret (aN [RV.tmp (K 2)] (tX h nx))) (aN [RV.tmp (K 2)] (tX h nx))) pE tm h nx:=by
  intro tm
  simp[pE]
  exact tX.mk (by omega) (by omega)
 have g14:∀ tm,aa (K 0) tm=some (.int .u8 (.lit x))→bt C (((U.ops kW).seq (U.cond (PX.t (K 29)) ((U.ops u7).seq U.ret) U.skip)).seq ((U.ops pE).seq U.ret)) (aN [RV.tmp (K 2)] (tX h nx)) tm h nx:=by
  intro tm e0
  by_cases d1:x<48
  ·simp[kW,e0,d1]
   exact g16 _
  ·by_cases d2:57<x
   ·simp[kW,e0,d1,d2]
    exact g16 _
   ·simp[kW,e0,d1,d2]
    simp[u7]
    exact tX.mk (by omega) (by omega)
 have g12:∀ tm,aa (K 0) tm=some (.int .u8 (.lit x))→bt C (((U.ops pD).seq (U.cond (PX.t (K 23)) ((U.ops Ci).seq U.ret) U.skip)).seq (((U.ops kW).seq (U.cond (PX.t (K 29)) ((U.ops u7).seq U.ret) U.skip)).seq ((U.ops pE).seq U.ret))) (aN [RV.tmp (K 2)] (tX h nx)) tm h nx:=by
  intro tm e0
  simp at g14
  by_cases d1:x<65
  ·simp[pD,e0,d1]
   exact g14 _ (by simp[e0])
  ·by_cases d2:90<x
   ·simp[pD,e0,d1,d2]
    exact g14 _ (by simp[e0])
   ·simp[pD,e0,d1,d2]
    simp[Ci]
    exact tX.mk (by omega) (by omega)
 simp at g12
 by_cases d1:x<97
 ·simp[u6,d1]
  exact g12 _ (by simp)
 ·by_cases d2:122<x
  ·simp[u6,d1,d2]
   exact g12 _ (by simp)
  ·simp[u6,d1,d2]
   simp[Nc]
   exact tX.mk (by omega) (by omega)
def ahN(n c:Nat)(a:Nat)(h:T ab)(nx:Key)(k:Nat)(tm':T AV)(h':T ab)(nx':Key):Prop:=
 ∃ (j:Nat) (t:Bool),k=n-j∧a≤j∧j≤n∧aa (K 0) tm'=some (.str n c)∧aa (K 1) tm'=some (I j)∧aa (K 5) tm'=some (.bool t)∧Ext h nx h' nx'
def TW(n a:Nat)(h:T ab)(nx:Key)(o:Out)(h':T ab)(nx':Key):Prop:=(∃ j:Nat,o=.ret (I j)∧a≤j∧j≤n)∧Ext h nx h' nx'
theorem aku{n c a:Nat}(hn:n≤10000)(ha:a≤n)(h:T ab)(nx:Key):aO C wj [.str n c,I a] h nx (TW n a h nx):=by
 have q1:=S.pT
 refine S.ac0.call ?_
 simp[LG]
 simp[Sq]
 simp[Ss]
 refine W.bV (n:=n-a) (ahN n c a h nx) ?_ ?_
 ·exact⟨a,false,by omega,bS _,ha,by simp,by simp,by simp,Ext.refl _ _⟩
 rintro k jk h1 aY ⟨j,t,rfl,haj,hj,f0,f1,f5,x1⟩
 refine W.of ?_
 simp[Sv]
 by_cases aM:j<n
 ·have aX:(j:Int)<n:=by omega
  obtain⟨b,hb⟩:∃ b:Nat,(c >>> (8*j)).mod 256=b:=⟨_,rfl⟩
  have hw:aW .i64 ((j:Int)+1)=((j+1:Nat):Int):=by rw[show(j:Int)+1=((j+1:Nat):Int) by omega];exact br (by omega) (by omega)
  have g9:∀ (tm':T AV) (t':Bool) (hx:T ab) (aF:Key),aa (K 0) tm'=some (.str n c)→aa (K 1) tm'=some (I j)→aa (K 5) tm'=some (.bool t')→Ext h nx hx aF→eu C (ai 1 (ak (fun tm KT ns=>∃ m,m<n-j∧ahN n c a h nx m tm KT ns) (ai 0 (ak (bt C ((U.ops wM).seq U.ret) (aN [RV.tmp (K 4)] (TW n a h nx))) (aN [RV.tmp (K 4)] (TW n a h nx)))))) Aw tm' hx aF:=by
   intro tm' t' hx aF e0 e1 e5 xx
   simp[Aw,e1]
   refine⟨n-(j+1),by omega,?_⟩
   unfold ahN
   exact⟨j+1,t',rfl,by omega,by omega,by simp[e0],by simp[hw],by simp[e5],xx⟩
  have g7:∀ (tm':T AV) (t':Bool),aa (K 0) tm'=some (.str n c)→aa (K 1) tm'=some (I j)→aa (K 5) tm'=some (.bool t')→bt C (((U.ops Av).seq (U.cond (PX.t (K 26)) ((U.ops Ii).seq U.ret) U.skip)).seq (U.ops Aw)) (ai 1 (ak (fun tm KT ns=>∃ m,m<n-j∧ahN n c a h nx m tm KT ns) (ai 0 (ak (bt C ((U.ops wM).seq U.ret) (aN [RV.tmp (K 4)] (TW n a h nx))) (aN [RV.tmp (K 4)] (TW n a h nx)))))) tm' h1 aY:=by
   intro tm' t' e0 e1 e5
   cases t' with
   |true=>
    simp[Av,e5]
    exact g9 _ true _ _ (by simp[e0]) (by simp[e1]) (by simp[e5]) x1
   |false=>
    simp[Av,e0,e1,e5,aM,hb,q1]
    refine(DY S _ _ _).mono ?_
    rintro o h3 dw ⟨⟨k,rfl,hk1,hk2⟩,x3⟩
    by_cases Rz:k=0
    ·subst Rz
     simp
     exact g9 _ false _ _ (by simp[e0]) (by simp[e1]) (by simp[e5]) (x1.trans x3)
    ·have cB:(k==0)=false:=by simp[Rz]
     simp[cB]
     simp[Ii,e1]
     exact⟨⟨j,rfl,haj,hj⟩,x1.trans x3⟩
  have g7t:=fun tm'=>g7 tm' true
  have g7f:=fun tm'=>g7 tm' false
  have g7u:=fun tm'=>g7 tm' t
  simp at g7t g7f g7u
  simp[Ig,f0,f1,aX]
  by_cases b1:(b:Int)=35
  ·simp[Ih,f0,f1,aM,hb,b1]
   simp[St]
   simp[Au,f0,f1,aM,hb,b1]
   exact g7t _ (by simp[f0]) (by simp[f1]) (by simp)
  ·have b1':((b:Int)==35)=false:=by simp[b1]
   simp[Ih,f0,f1,aM,hb,b1']
   by_cases b2:(b:Int)=10
   ·simp[Au,f0,f1,aM,hb,b2]
    simp[Su]
    exact g7f _ (by simp[f0]) (by simp[f1]) (by simp)
   ·have b2':((b:Int)==10)=false:=by simp[b2]
    simp[Au,f0,f1,aM,hb,b2']
    exact g7u _ (by simp[f0]) (by simp[f1]) (by simp[f5])
 ·have aX:¬ (j:Int)<n:=by omega
  simp[Ig,f0,f1,aX]
  simp[wM,f1]
  exact⟨⟨j,rfl,haj,hj⟩,x1⟩
end Tb
/-
 SQ: the reference's lexer: a token's end. No condition.
-/
namespace Tb
open Go.Sx Go
variable{C:cU}(S:dd C)
include S
def W7(n c a:Nat)(h:T ab)(nx:Key)(k:Nat)(tm':T AV)(h':T ab)(nx':Key):Prop:=
 ∃ (j:Nat),k=n-j∧a≤j∧j≤n∧aa (K 0) tm'=some (.str n c)∧aa (K 1) tm'=some (I a)∧aa (K 5) tm'=some (I j)∧Ext h nx h' nx'
def EnS(n c a:Nat)(L:List AV)(h:T ab)(nx:Key)(k:Nat)(tm':T AV)(h':T ab)(nx':Key):Prop:=
 ∃ (j:Nat),k=22-j∧j≤22∧aa (K 0) tm'=some (.str n c)∧aa (K 1) tm'=some (I a)∧aa (K 6) tm'=some (.sl L 22 1 .any)∧aa (K 7) tm'=some (I j)∧Ext h nx h' nx'
theorem aE7{n c a:Nat}(hn:n≤10000){h h':T ab}{nx nx':Key}{tm:T AV}{j:Nat}(hj:a≤j)(Yd:j≤n)(f0:aa (K 0) tm=some (.str n c))(f1:aa (K 1) tm=some (I a))(f5:aa (K 5) tm=some (I j))(x:Ext h nx h' nx'){P:T AV→T ab→Key→Prop} :
  bt C ((U.block 5 (.loop LN)).seq ((U.ops Ay).seq .ret)) (ai 0 (ak P (aN [RV.tmp (K 4)] (TW n a h nx)))) tm h' nx':=by
 have q1:=S.pT
 simp
 refine W.bV (n:=n-j) (W7 n c a h nx) ?_ ?_
 ·exact⟨j,rfl,hj,Yd,f0,f1,f5,x⟩
 clear f0 f1 f5
 rintro k jk h1 aY ⟨i,rfl,hai,hi,f0,f1,f5,x1⟩
 refine W.of ?_
 simp[LN]
 by_cases aM:i<n
 ·have aX:(i:Int)<n:=by omega
  have hw:aW .i64 ((i:Int)+1)=((i+1:Nat):Int):=by rw[show(i:Int)+1=((i+1:Nat):Int) by omega];exact br (by omega) (by omega)
  simp[Ik,f0,f5,aM,aX,q1]
  refine(DY S _ _ _).mono ?_
  rintro o h2 aH ⟨⟨k,rfl,hk1,hk2⟩,x2⟩
  by_cases hk:k=3
  ·subst hk
   simp
   simp[Sw,f5]
   refine⟨n-(i+1),by omega,?_⟩
   unfold W7
   exact⟨i+1,rfl,by omega,by omega,by simp[f0],by simp[f1],by simp[hw],x1.trans x2⟩
  ·have cB:(k==3)=false:=by simp[hk]
   simp[cB]
   simp[Ay,f5]
   exact⟨⟨i,rfl,hai,hi⟩,x1.trans x2⟩
 ·have aX:¬ (i:Int)<n:=by omega
  simp[Ik,f0,f5,aX]
  simp[Ay,f5]
  exact⟨⟨i,rfl,hai,hi⟩,x1⟩
theorem aE6{n c a:Nat}(hn:n≤10000){h h':T ab}{nx nx':Key}{tm:T AV}{j:Nat}(hj:a≤j)(Yd:j≤n)(f0:aa (K 0) tm=some (.str n c))(f1:aa (K 1) tm=some (I a))(f5:aa (K 5) tm=some (I j))(x:Ext h nx h' nx'){P:T AV→T ab→Key→Prop} :
  bt C ((U.block 3 (.loop LM)).seq ((U.ops ui).seq .ret)) (ai 0 (ak P (aN [RV.tmp (K 4)] (TW n a h nx)))) tm h' nx':=by
 have q1:=S.pT
 simp
 refine W.bV (n:=n-j) (W7 n c a h nx) ?_ ?_
 ·exact⟨j,rfl,hj,Yd,f0,f1,f5,x⟩
 clear f0 f1 f5
 rintro k jk h1 aY ⟨i,rfl,hai,hi,f0,f1,f5,x1⟩
 refine W.of ?_
 simp[LM]
 by_cases aM:i<n
 ·have aX:(i:Int)<n:=by omega
  have hw:aW .i64 ((i:Int)+1)=((i+1:Nat):Int):=by rw[show(i:Int)+1=((i+1:Nat):Int) by omega];exact br (by omega) (by omega)
  simp[LL,f0,f5,aM,aX,q1]
  refine(DY S _ _ _).mono ?_
  rintro o h2 aH ⟨⟨k,rfl,hk1,hk2⟩,x2⟩
  by_cases hk:k<1
  ·simp[hk]
   simp[ui,f5]
   exact⟨⟨i,rfl,hai,hi⟩,x1.trans x2⟩
  ·simp[hk,f0,f5,aM,q1]
   refine(DY S _ _ _).mono ?_
   rintro o h3 dw ⟨⟨k',rfl,hk3,hk4⟩,x3⟩
   have x3':=(x1.trans x2).trans x3
   by_cases Ed:4<k'
   ·simp[Ed]
    simp[ui,f5]
    exact⟨⟨i,rfl,hai,hi⟩,x3'⟩
   ·simp[Ed]
    simp[UJ,f5]
    refine⟨n-(i+1),by omega,?_⟩
    unfold W7
    exact⟨i+1,rfl,by omega,by omega,by simp[f0],by simp[f1],by simp[hw],x3'⟩
 ·have aX:¬ (i:Int)<n:=by omega
  simp[LL,f0,f5,aX]
  simp[ui,f5]
  exact⟨⟨i,rfl,hai,hi⟩,x1⟩
theorem aE5{n c a:Nat}(hn:n≤10000){h h':T ab}{nx nx':Key}{tm:T AV}{j:Nat}(hj:a≤j)(Yd:j≤n)(f0:aa (K 0) tm=some (.str n c))(f1:aa (K 1) tm=some (I a))(f5:aa (K 5) tm=some (I j))(x:Ext h nx h' nx'){P:T AV→T ab→Key→Prop} :
  bt C ((U.block 1 (.loop LJ)).seq ((U.ops DS).seq .ret)) (ai 0 (ak P (aN [RV.tmp (K 4)] (TW n a h nx)))) tm h' nx':=by
 have q1:=S.pT
 simp
 refine W.bV (n:=n-j) (W7 n c a h nx) ?_ ?_
 ·exact⟨j,rfl,hj,Yd,f0,f1,f5,x⟩
 clear f0 f1 f5
 rintro k jk h1 aY ⟨i,rfl,hai,hi,f0,f1,f5,x1⟩
 refine W.of ?_
 simp[LJ]
 by_cases aM:i<n
 ·have aX:(i:Int)<n:=by omega
  have hw:aW .i64 ((i:Int)+1)=((i+1:Nat):Int):=by rw[show(i:Int)+1=((i+1:Nat):Int) by omega];exact br (by omega) (by omega)
  simp[LI,f0,f5,aM,aX,q1]
  refine(DY S _ _ _).mono ?_
  rintro o h2 aH ⟨⟨k,rfl,hk1,hk2⟩,x2⟩
  by_cases hk:k=1
  ·subst hk
   simp
   simp[DR,f5]
   refine⟨n-(i+1),by omega,?_⟩
   unfold W7
   exact⟨i+1,rfl,by omega,by omega,by simp[f0],by simp[f1],by simp[hw],x1.trans x2⟩
  have cB:(k==1)=false:=by simp[hk]
  simp[cB,f0,f5,aM,q1]
  refine(DY S _ _ _).mono ?_
  rintro o h3 dw ⟨⟨k',rfl,hk3,hk4⟩,x3⟩
  have x3':=(x1.trans x2).trans x3
  by_cases Ed:k'=3
  ·subst Ed
   simp
   simp[DR,f5]
   refine⟨n-(i+1),by omega,?_⟩
   unfold W7
   exact⟨i+1,rfl,by omega,by omega,by simp[f0],by simp[f1],by simp[hw],x3'⟩
  have aHL:(k'==3)=false:=by simp[Ed]
  simp[aHL,f0,f5,aM,q1]
  refine(DY S _ _ _).mono ?_
  rintro o h4 jq ⟨⟨k'',rfl,hk5,hk6⟩,x4⟩
  have x4':=x3'.trans x4
  by_cases ayZ:k''=4
  ·subst ayZ
   simp
   simp[DR,f5]
   refine⟨n-(i+1),by omega,?_⟩
   unfold W7
   exact⟨i+1,rfl,by omega,by omega,by simp[f0],by simp[f1],by simp[hw],x4'⟩
  have ay0:(k''==4)=false:=by simp[ayZ]
  simp[ay0]
  simp[DS,f5]
  exact⟨⟨i,rfl,hai,hi⟩,x4'⟩
 ·have aX:¬ (i:Int)<n:=by omega
  simp[LI,f0,f5,aX]
  simp[DS,f5]
  exact⟨⟨i,rfl,hai,hi⟩,x1⟩
end Tb
/-
 SQ: the reference's lexer: a token's end, whole. No condition.
-/
namespace Tb
open Go.Sx Go
variable{C:cU}(S:dd C)
include S
omit S in
theorem aE1:∀ x∈mR jA,∃ a b,x=.str a b∧a≤2:=by
 have h:(mR jA).all (fun x=>match x with|.str n _=>Nat.ble n 2|_=>false)=true:=rfl
 intro x hx
 have:=mi.1 h x hx
 cases x<;>first|exact⟨_,_,rfl,Nat.le_of_ble_eq_true this⟩|cases this
def arQ(o:Out):Prop:=∃ L:List AV,o=.ret (.sl L 22 1 .any)∧L.length=22∧∀ x∈L,∃ a b,x=.str a b∧a≤2
theorem arR:XR C uV [] arQ:=by
 intro h nx
 have s1:=kTSu nx
 refine S.Xr.call ?_
 simp[AF]
 simp[JU]
 refine ab4 (L:=mR jA) rfl ?_
 have hl:(mR jA).length=22:=rfl
 have hs:=aE1
 generalize mR jA=L at hl hs
 have hz:=si (n:=9998) (b:=nx) (len:=22) (sz:=1) (l:=L) (H:=aK nx (some (.cells L .fix)) h) (by rw[gTSm]) (by omega) (YJ fun x hx=>by obtain⟨a,b,e,_⟩:=hs x hx;exact⟨a,b,e⟩)
 simp[hz]
 exact⟨⟨L,rfl,hl,hs⟩,by omega,fun b hb=>by rw[bA (by omega)]⟩
theorem aE2{n c a:Nat}(hn:n≤10000)(ha:a≤n){h h':T ab}{nx nx':Key}{tm:T AV}(f0:aa (K 0) tm=some (.str n c))(f1:aa (K 1) tm=some (I a))(x:Ext h nx h' nx') :
  bt C ((U.ops pN).seq (((U.ops pO).seq (U.block 7 (U.loop sP))).seq ((U.ops me).seq U.ret))) (aN [RV.tmp (K 4)] (TW n a h nx)) tm h' nx':=by
 have q1:=S.Xs
 simp
 simp[pN,q1]
 refine(arR S _ _).mono ?_
 rintro o h2 aH ⟨⟨L,rfl,hL,hs⟩,x2⟩
 have x2':=x.trans x2
 simp
 simp[pO]
 refine W.bV (n:=22) (EnS n c a L h nx) ?_ ?_
 ·exact⟨0,by omega,by omega,by simp[f0],by simp[f1],by simp,by simp,x2'⟩
 clear f0 f1
 rintro k jk hz aY ⟨i,rfl,hi,f0,f1,f6,f7,x1⟩
 refine W.of ?_
 simp[sP]
 by_cases aM:i<22
 ·have aX:(i:Int)<22:=by omega
  have hli:i<L.length:=by omega
  obtain⟨b,d,hab,UU⟩:=hs L[i] (XV hli)
  have h1:1≤22-i:=by omega
  have ec:List.take 1 (List.drop i L)=[.str b d]:=by
   rw[zqt (by omega),hab];rfl
  have hw:aW .i64 ((i:Int)+1)=((i+1:Nat):Int):=by rw[show(i:Int)+1=((i+1:Nat):Int) by omega];exact br (by omega) (by omega)
  have nxt:∀ (tm':T AV),aa (K 0) tm'=some (.str n c)→aa (K 1) tm'=some (I a)→aa (K 6) tm'=some (.sl L 22 1 .any)→aa (K 7) tm'=some (I i)→eu C (ak (fun tm KT ns=>∃ m,m<22-i∧EnS n c a L h nx m tm KT ns) (ai 7 (ak (bt C ((U.ops me).seq U.ret) (aN [RV.tmp (K 4)] (TW n a h nx))) (aN [RV.tmp (K 4)] (TW n a h nx))))) Io tm' hz aY:=by
   intro tm' e0 e1 e6 e7
   simp[Io,e7]
   refine⟨22-(i+1),by omega,?_⟩
   unfold EnS
   exact⟨i+1,rfl,by omega,by simp[e0],by simp[e1],by simp[e6],by simp[hw],x1⟩
  simp[Il,f6,f7,aX]
  simp[Sy,f1,f6,f7,aM,hL,h1,ec]
  have TO:aW .i64 ((a:Int)+(b:Int))=((a+b:Nat):Int):=by rw[show(a:Int)+(b:Int)=((a+b:Nat):Int) by omega];exact br (by omega) (by omega)
  rw[TO]
  by_cases hle:n<a+b
  ·have arS:(n:Int)<((a+b:Nat):Int):=by omega
   simp[-Int.natCast_add,Im,f0,arS]
   exact nxt _ (by simp[f0]) (by simp[f1]) (by simp[f6]) (by simp[f7])
  ·have arS:¬ (n:Int)<((a+b:Nat):Int):=by omega
   have ajd:a+b≤n:=by omega
   have ad8:amD c a (a+b)=.str b (Nat.mod (Nat.shiftRight c (8*a)) (Nat.pow 2 (8*b))):=by
    unfold amD
    rw[show a+b-a=b by omega]
   generalize Nat.mod (Nat.shiftRight c (8*a)) (Nat.pow 2 (8*b))=cc at ad8
   obtain⟨t,ht⟩:∃ t,opS .eql b cc b d=some (.bool t):=⟨_,rfl⟩
   simp[-Int.natCast_add,Im,f0,f1,f6,f7,arS,ajd,aM,hL,h1,ec,ad8,ht]
   cases t with
   |true=>
    simp[-Int.natCast_add]
    simp[-Int.natCast_add,Sz]
    exact⟨⟨a+b,rfl,by omega,by omega⟩,x1⟩
   |false=>
    simp[-Int.natCast_add]
    exact nxt _ (by simp[f0]) (by simp[f1]) (by simp[f6]) (by simp[f7])
 ·have aX:¬ (i:Int)<22:=by omega
  simp[Il,f6,f7,aX]
  simp[me,f1]
  exact⟨⟨a,rfl,bS _,ha⟩,x1⟩
theorem avP{n c a:Nat}(hn:n≤10000)(ha:a<n)(h:T ab)(nx:Key):aO C G4 [.str n c,I a] h nx (TW n a h nx):=by
 have q1:=S.pT
 refine S.ad9.call ?_
 simp[Rs]
 simp[UG]
 have hw:aW .i64 ((a:Int)+1)=((a+1:Nat):Int):=by rw[show(a:Int)+1=((a+1:Nat):Int) by omega];exact br (by omega) (by omega)
 simp[-Int.natCast_add,UH,hw]
 simp[-Int.natCast_add,UI,ha,q1]
 refine(DY S _ _ _).mono ?_
 rintro o h2 aH ⟨⟨k,rfl,hk1,hk2⟩,x2⟩
 simp[-Int.natCast_add]
 by_cases c1:k=1
 ·subst c1
  simp[-Int.natCast_add,LH]
  have key:=fun tm f0 f1 f5=>aE5 (C:=C) (tm:=tm) (P:=bt C ((U.ops pN).seq (((U.ops pO).seq (U.block 7 (U.loop sP))).seq ((U.ops me).seq U.ret))) (aN [RV.tmp (K 4)] (TW n a h nx))) S hn (c:=c) (a:=a) (j:=a+1) (by omega) (by omega) f0 f1 f5 x2
  simp[-Int.natCast_add] at key
  refine key _ ?_ ?_ ?_
  ·simp
  ·simp
  ·simp
 have b1:(k==1)=false:=by simp[c1]
 simp[-Int.natCast_add,LH,b1]
 by_cases c2:k=2
 ·subst c2
  simp[-Int.natCast_add,LK]
  have key:=fun tm f0 f1 f5=>aE6 (C:=C) (tm:=tm) (P:=bt C ((U.ops pN).seq (((U.ops pO).seq (U.block 7 (U.loop sP))).seq ((U.ops me).seq U.ret))) (aN [RV.tmp (K 4)] (TW n a h nx))) S hn (c:=c) (a:=a) (j:=a+1) (by omega) (by omega) f0 f1 f5 x2
  simp[-Int.natCast_add] at key
  refine key _ ?_ ?_ ?_
  ·simp
  ·simp
  ·simp
 have b2:(k==2)=false:=by simp[c2]
 simp[-Int.natCast_add,LK,b2]
 by_cases c3:k=3
 ·subst c3
  simp[-Int.natCast_add,Ij]
  have key:=fun tm f0 f1 f5=>aE7 (C:=C) (tm:=tm) (P:=bt C ((U.ops pN).seq (((U.ops pO).seq (U.block 7 (U.loop sP))).seq ((U.ops me).seq U.ret))) (aN [RV.tmp (K 4)] (TW n a h nx))) S hn (c:=c) (a:=a) (j:=a+1) (by omega) (by omega) f0 f1 f5 x2
  simp[-Int.natCast_add] at key
  refine key _ ?_ ?_ ?_
  ·simp
  ·simp
  ·simp
 have b3:(k==3)=false:=by simp[c3]
 simp[-Int.natCast_add,Ij,b3]
 have key:=fun tm f0 f1=>aE2 (C:=C) (tm:=tm) S hn (c:=c) (a:=a) (by omega) f0 f1 x2
 simp[-Int.natCast_add] at key
 refine key _ ?_ ?_
 ·simp
 ·simp
end Tb
/-
 SQ: the reference's lexer: values. No condition.
-/
namespace Tb
open Go.Sx Go
variable{C:cU}(S:dd C)
include S
def alM(n c:Nat)(h:T ab)(nx:Key)(k:Nat)(tm':T AV)(h':T ab)(nx':Key):Prop:=
 ∃ (j:Nat) (v:Int),k=n-j∧j≤n∧aa (K 0) tm'=some (.str n c)∧aa (K 3) tm'=some (I v)∧aa (K 4) tm'=some (I j)∧dg W0 .int (I v)∧h'=h∧nx'=nx
theorem amX{n c:Nat}(hn:n≤10000)(h:T ab)(nx:Key):aO C Ao [.str n c] h nx (afO h nx):=by
 refine S.aaP.call ?_
 simp[Hk]
 simp[PQ]
 simp[PR]
 simp[PS]
 refine W.bV (n:=n) (alM n c h nx) ?_ ?_
 ·exact⟨0,0,by omega,by omega,by simp,by simp,by simp,mM,rfl,rfl⟩
 rintro k jk h1 aY ⟨j,v,rfl,hj,f0,f3,f4,ov,rfl,rfl⟩
 refine W.of ?_
 simp[PU]
 by_cases aM:j<n
 ·have aX:(j:Int)<n:=by omega
  have hw:aW .i64 ((j:Int)+1)=((j+1:Nat):Int):=by rw[show(j:Int)+1=((j+1:Nat):Int) by omega];exact br (by omega) (by omega)
  simp[FH,f0,f4,aX]
  simp[PT,f0,f3,f4,aM]
  generalize aW IntKind.i64 (10*v)+aW IntKind.i64 (aW IntKind.u8 (((c >>> (8*j)).mod 256:Nat)-48))=w
  by_cases hb:1099511627777<aW .i64 w
  ·simp[hb]
   simp[FI,f4]
   refine⟨n-(j+1),by omega,?_⟩
   unfold alM
   exact⟨j+1,1099511627777,rfl,by omega,by simp[f0],by simp,by simp[hw],ok_int (by omega) (by omega),rfl,rfl⟩
  ·simp[hb]
   simp[FI,f4]
   refine⟨n-(j+1),by omega,?_⟩
   unfold alM
   exact⟨j+1,_,rfl,by omega,by simp[f0],by simp,by simp[hw],DW w,rfl,rfl⟩
 ·have aX:¬ (j:Int)<n:=by omega
  simp[FH,f0,f4,aX]
  simp[PV,f3]
  exact⟨⟨v,rfl,ov⟩,Ext.refl _ _⟩
end Tb
/-
 SQ: the reference's lexer: tokens. No condition.
-/
namespace Tb
open Go.Sx Go
theorem _root_.Go.Sx.Ext.lo{h h' h'':T ab}{nx nx' avN:Key}(x:Ext h nx h' nx')(l:Lo nx h' h'')(hn:nx'.toNat≤avN.toNat):Ext h nx h'' avN:=
 ⟨Nat.le_trans x.n hn,fun q hq=>by rw[l q hq];exact x.g q hq⟩
theorem _root_.Go.Sx.Gw.avO{c:AV}{len:Nat}{h:T ab}{nx n0:Key}(g:Gw W0 15 c len h nx n0)(n:Nat):(∃ rs,Tk (ax (n+1) c h).1 rs∧rs.length≤len∧dy W0 15 rs)∧Lo n0 h (ax (n+1) c h).2:=by
 obtain⟨rs,hl,b,d⟩:=g.is
 obtain⟨h1,h2⟩:=d.OS b.bY n
 refine⟨⟨rs,?_,by omega,b⟩,h2⟩
 rcases h1 with⟨e,e2,e3⟩|e
 ·rw[e]
  refine .inl ⟨rfl,?_⟩
  exact List.length_eq_zero_iff.1 (by omega)
 ·rw[e];exact .inr rfl
def Zh(n:Nat)(h:T ab)(nx:Key)(o:Out)(h':T ab)(nx':Key):Prop:=
 (∃ (c:AV) (a e:Int) (rs:List (List AV)),o=.ret (.tuple [c,I a,I e])∧Tk c rs∧rs.length≤n∧dy W0 15 rs∧dg W0 .int (I a)∧(e=0∨e=2∨e=4))∧Ext h nx h' nx'
theorem arC{c a b:Nat}(hab:a≤b)(hb:b≤10000):∃ cc,amD c a b=.str (b-a) cc∧dg W0 .str (.str (b-a) cc):=by
 refine⟨_,rfl,.str _ _ ?_ (by omega)⟩
 have:Nat.mod (Nat.shiftRight c (8*a)) (Nat.pow 2 (8*(b-a)))<2^(8*(b-a)):=Nat.mod_lt _ (Nat.two_pow_pos _)
 rwa [Nat.pow_mul] at this
variable{C:cU}(S:dd C)
include S
def Zi(n c:Nat)(h:T ab)(nx:Key)(k:Nat)(tm':T AV)(h':T ab)(nx':Key):Prop:=
 ∃ (j len:Nat) (r:AV),k=n-j∧j≤n∧len≤j∧aa (K 0) tm'=some (.str n c)∧aa (K 5) tm'=some r∧aa (K 6) tm'=some (I j)∧Gw W0 15 r len h' nx' nx∧Ext h nx h' nx'
omit S in
structure Tq(n c j e en cc:Nat)(k:Int)(r:AV)(b:Key)(h2:T ab)(aH:Key)(kd v:Int)(tm:T AV)(h:T ab)(nx:Key):Prop where
 f0:aa (K 0) tm=some (.str n c)
 f5:aa (K 5) tm=some r
 f6:aa (K 6) tm=some (I j)
 f7:aa (K 7) tm=some (I e)
 f8:aa (K 8) tm=some (.ptr b 0)
 f9:aa (K 9) tm=some (I k)
 x:Ext h2 aH h nx
 lo:aH.toNat≤b.toNat
 hb:b.toNat<nx.toNat
 g:aa b h=some (.cells [I kd,I j,I v,.str en cc] .fix)
 o1:dg W0 .int (I kd)
 o2:dg W0 .int (I v)
theorem adY{n c:Nat}(hn:n≤10000)(h:T ab)(nx:Key):aO C rI [.str n c] h nx (Zh n h nx):=by
 have q1:=S.acv
 have q2:=S.adZ
 have q3:=S.pT
 have q4:=S.aav
 refine S.Zj.call ?_
 simp[DP]
 simp[MR]
 by_cases h81:8192<n
 ·have arD:(8192:Int)<n:=by omega
  simp[B7,arD]
  simp[MS]
  exact⟨⟨_,0,4,[],rfl,.inl ⟨rfl,rfl⟩,by simp,.nil _,mM,by omega⟩,Ext.refl _ _⟩
 have arD:¬ (8192:Int)<n:=by omega
 simp[B7,arD]
 simp[MT]
 simp[MU,q1]
 refine(aku S (a:=0) hn (by omega) _ _).mono ?_
 rintro o h1 aY ⟨⟨j0,rfl,hj0,aBh⟩,x1⟩
 simp
 refine W.bV (n:=n-j0) (Zi n c h nx) ?_ ?_
 ·exact⟨j0,0,.nils,rfl,aBh,by omega,by simp,by simp,by simp,Gw.nil 15 _ _ _,x1⟩
 rintro k xD h2 aH ⟨j,len,r,rfl,hj,hlen,f0,f5,f6,gw,x2⟩
 refine W.of ?_
 have n2:=x2.n
 simp[MY]
 by_cases aM:j<n
 ·have aX:(j:Int)<n:=by omega
  simp[B8,f0,f6,aX]
  simp[MV,f0,f6,q2]
  refine(avP S hn aM _ _).mono ?_
  rintro o h3 dw ⟨⟨e,rfl,UM,hen⟩,x3⟩
  by_cases heq:e=j
  ·subst heq
   simp
   simp[B9,f6]
   simp[MW,f6]
   exact⟨⟨_,e,2,[],rfl,.inl ⟨rfl,rfl⟩,by simp,.nil _,ok_int (by omega) (by omega),by omega⟩,x2.trans x3⟩
  have aMa:¬ (e:Int)=j:=by omega
  have aBi:((e:Int)==(j:Int))=false:=by simp;omega
  obtain⟨cc,hcc,occ⟩:=arC (c:=c) UM (by omega)
  have s3:=kTSu dw
  have n3:=x3.n
  simp
  simp[B9,f6,aBi]
  simp[MX,f0,f6,UM,hen,hcc]
  generalize e-j=en at hcc occ
  have x4:Ext h2 aH (aK dw (some (.cells [I 3,I j,I 0,.str en cc] .fix)) h3) dw.succ:=x3.trans (E0 _ _ _)
  simp[Jl,f0,f6,aM,q3]
  refine(DY S _ _ _).mono ?_
  rintro o h5 iW ⟨⟨k,rfl,hk1,hk2⟩,x5⟩
  have x5':=x4.trans x5
  have n5:=x5.n
  have g5:aa dw h5=some (.cells [I 3,I j,I 0,.str en cc] .fix):=by rw[x5.g dw (by omega),gTSm]
  have oj:dg W0 .int (I j):=ok_int (by omega) (by omega)
  have t17:∀ (tm':T AV) (hx:T ab) (aF:Key) (kd v:Int),Tq n c j e en cc k r dw h2 aH kd v tm' hx aF→bt C ((U.ops jx).seq (U.ops jy)) (ai 1 (ak (fun tm KT ns=>∃ m,m<n-j∧Zi n c h nx m tm KT ns) (ai 0 (ak (bt C ((U.ops gY).seq U.ret) (aN [RV.tmp (K 2),RV.tmp (K 3),RV.tmp (K 4)] (Zh n h nx))) (aN [RV.tmp (K 2),RV.tmp (K 3),RV.tmp (K 4)] (Zh n h nx)))))) tm' hx aF:=by
   intro tm' hx aF kd v q
   have f0:=q.f0
   have f5:=q.f5
   have f7:=q.f7
   have f8:=q.f8
   have g:=q.g
   have row:cJ W0 (W0 15) [I kd,I j,I v,.str en cc]:=.c q.o1 (.c oj (.c q.o2 (.c occ .nil)))
   have xx:=q.x.trans (E0 hx aF (.cells [I kd,I j,I v,.str en cc] .fix))
   have nn:=xx.n
   obtain⟨c4,h4,jq,a1,g4,n4,l4,_⟩:=(gw.ext xx).add (by omega) row (by omega)
   have a1:appendTo 4 r [I kd,I j,I v,.str en cc] 1 _ _=_:=a1
   simp
   simp[-appendTo,jx,f5,f8,g,a1]
   simp[jy,f0,f7,q1]
   refine(aku S hn hen _ _).mono ?_
   rintro o h6 IC ⟨⟨j6,rfl,hj6,aBl⟩,x6⟩
   simp
   refine⟨n-j6,by omega,?_⟩
   unfold Zi
   exact⟨j6,len+1,c4,rfl,aBl,by omega,by simp[f0],by simp,by simp,g4.ext x6,(((x2.trans xx).lo l4 n4).trans x6)⟩
  have t15:∀ (tm':T AV) (hx:T ab) (aF:Key) (kd v:Int),Tq n c j e en cc k r dw h2 aH kd v tm' hx aF→bt C (((U.ops dR).seq (U.cond (PX.t (K 63)) ((U.ops ng).seq U.ret) U.skip)).seq ((U.ops jx).seq (U.ops jy))) (ai 1 (ak (fun tm KT ns=>∃ m,m<n-j∧Zi n c h nx m tm KT ns) (ai 0 (ak (bt C ((U.ops gY).seq U.ret) (aN [RV.tmp (K 2),RV.tmp (K 3),RV.tmp (K 4)] (Zh n h nx))) (aN [RV.tmp (K 2),RV.tmp (K 3),RV.tmp (K 4)] (Zh n h nx)))))) tm' hx aF:=by
   intro tm' hx aF kd v q
   have f6:=q.f6
   have f8:=q.f8
   have f9:=q.f9
   have g:=q.g
   have bad:∀ oW,aa (K 6) oW=some (I j)→bt C ((U.ops ng).seq U.ret) (ak (bt C ((U.ops jx).seq (U.ops jy)) (ai 1 (ak (fun tm KT ns=>∃ m,m<n-j∧Zi n c h nx m tm KT ns) (ai 0 (ak (bt C ((U.ops gY).seq U.ret) (aN [RV.tmp (K 2),RV.tmp (K 3),RV.tmp (K 4)] (Zh n h nx))) (aN [RV.tmp (K 2),RV.tmp (K 3),RV.tmp (K 4)] (Zh n h nx))))))) (ai 1 (ak (fun tm KT ns=>∃ m,m<n-j∧Zi n c h nx m tm KT ns) (ai 0 (ak (bt C ((U.ops gY).seq U.ret) (aN [RV.tmp (K 2),RV.tmp (K 3),RV.tmp (K 4)] (Zh n h nx))) (aN [RV.tmp (K 2),RV.tmp (K 3),RV.tmp (K 4)] (Zh n h nx))))))) oW hx aF:=by
    intro oW e6
    simp
    simp[ng,e6]
    exact⟨⟨_,j,4,[],rfl,.inl ⟨rfl,rfl⟩,by simp,.nil _,oj,by omega⟩,x2.trans q.x⟩
   have Gg:=fun oW f0 f5 f6 f7 f8 f9=>t17 oW hx aF kd v ⟨f0,f5,f6,f7,f8,f9,q.x,q.lo,q.hb,q.g,q.o1,q.o2⟩
   simp at bad Gg
   simp
   by_cases hv:1099511627776<v
   ·by_cases hk:2<k
    ·simp[dR,f8,f9,g,hk,hv]
     exact bad _ (by simp[f6])
    ·by_cases hl:16<en
     ·have SO:(16:Int)<en:=by omega
      simp[dR,f8,f9,g,hk,SO]
      exact bad _ (by simp[f6])
     ·have SO:¬ (16:Int)<en:=by omega
      simp[dR,f8,f9,g,hk,hv,SO]
      exact bad _ (by simp[f6])
   ·by_cases hk:2<k
    ·simp[dR,f8,f9,g,hk,hv]
     exact Gg _ (by simp[q.f0]) (by simp[q.f5]) (by simp[q.f6]) (by simp[q.f7]) (by simp[q.f8]) (by simp[q.f9])
    ·by_cases hl:16<en
     ·have SO:(16:Int)<en:=by omega
      simp[dR,f8,f9,g,hk,SO]
      exact bad _ (by simp[f6])
     ·have SO:¬ (16:Int)<en:=by omega
      simp[dR,f8,f9,g,hk,hv,SO]
      exact Gg _ (by simp[q.f0]) (by simp[q.f5]) (by simp[q.f6]) (by simp[q.f7]) (by simp[q.f8]) (by simp[q.f9])
  have t13:∀ (tm':T AV) (hx:T ab) (aF:Key) (kd:Int),Tq n c j e en cc k r dw h2 aH kd 0 tm' hx aF→bt C (((U.ops sH).seq (U.cond (PX.t (K 46)) (U.ops yV) U.skip)).seq (((U.ops dR).seq (U.cond (PX.t (K 63)) ((U.ops ng).seq U.ret) U.skip)).seq ((U.ops jx).seq (U.ops jy)))) (ai 1 (ak (fun tm KT ns=>∃ m,m<n-j∧Zi n c h nx m tm KT ns) (ai 0 (ak (bt C ((U.ops gY).seq U.ret) (aN [RV.tmp (K 2),RV.tmp (K 3),RV.tmp (K 4)] (Zh n h nx))) (aN [RV.tmp (K 2),RV.tmp (K 3),RV.tmp (K 4)] (Zh n h nx)))))) tm' hx aF:=by
   intro tm' hx aF kd q
   have f8:=q.f8
   have f9:=q.f9
   have g:=q.g
   simp
   by_cases hk3:k=3
   ·have cB:(k==3)=true:=by simp[hk3]
    simp[sH,f9,hk3]
    simp[yV,f8,g,q4]
    have oen:en≤10000:=by cases occ;assumption
    refine(amX S oen _ _).mono ?_
    rintro o h7 tZ ⟨⟨v,rfl,ov⟩,x7⟩
    have g7:aa dw h7=some (.cells [I kd,I j,I 0,.str en cc] .fix):=by rw[x7.g dw q.hb];exact g
    simp[f8,g7]
    have Gg:=fun oW f0 f5 f6 f7 f8 f9=>t15 oW (aK dw (some (.cells [I kd,I j,I v,.str en cc] .fix)) h7) tZ kd v ⟨f0,f5,f6,f7,f8,f9,(q.x.trans x7).put q.lo,q.lo,by have:=q.hb;have:=x7.n;omega,by rw[gTSm],q.o1,ov⟩
    simp at Gg
    exact Gg _ (by simp[q.f0]) (by simp[q.f5]) (by simp[q.f6]) (by simp[q.f7]) (by simp[q.f8]) (by simp[q.f9])
   ·have cB:(k==3)=false:=by simp[hk3]
    simp[sH,f9,cB]
    have Gg:=fun oW f0 f5 f6 f7 f8 f9=>t15 oW hx aF kd 0 ⟨f0,f5,f6,f7,f8,f9,q.x,q.lo,q.hb,q.g,q.o1,q.o2⟩
    simp at Gg
    exact Gg _ (by simp[q.f0]) (by simp[q.f5]) (by simp[q.f6]) (by simp[q.f7]) (by simp[q.f8]) (by simp[q.f9])
  simp
  have hwk:aW .i64 (k-1)=k-1:=br (by omega) (by omega)
  by_cases hk3:3<k
  ·have aBm:¬ k<1:=by omega
   simp[sG,hk3,aBm]
   have Gg:=fun oW f0 f5 f6 f7 f8 f9=>t13 oW h5 iW 3 ⟨f0,f5,f6,f7,f8,f9,x5',by omega,by omega,g5,ok_int (by omega) (by omega),mM⟩
   simp at Gg
   exact Gg _ (by simp[f0]) (by simp[f5]) (by simp[f6]) (by simp) (by simp) (by simp)
  ·by_cases hk1:k<1
   ·simp[sG,hk1]
    have Gg:=fun oW f0 f5 f6 f7 f8 f9=>t13 oW h5 iW 3 ⟨f0,f5,f6,f7,f8,f9,x5',by omega,by omega,g5,ok_int (by omega) (by omega),mM⟩
    simp at Gg
    exact Gg _ (by simp[f0]) (by simp[f5]) (by simp[f6]) (by simp) (by simp) (by simp)
   ·simp[sG,hk3,hk1]
    simp[Jm,g5,hwk]
    have Gg:=fun oW f0 f5 f6 f7 f8 f9=>t13 oW (aK dw (some (.cells [I (k-1),I j,I 0,.str en cc] .fix)) h5) iW (k-1) ⟨f0,f5,f6,f7,f8,f9,x5'.put (by omega),by omega,by omega,by rw[gTSm],ok_int (by omega) (by omega),mM⟩
    simp at Gg
    exact Gg _ (by simp[f0]) (by simp[f5]) (by simp[f6]) (by simp) (by simp) (by simp)
 ·have aX:¬ (j:Int)<n:=by omega
  simp[B8,f0,f6,aX]
  simp[gY,f5]
  obtain⟨⟨rs,t1,t2,t3⟩,t4⟩:=gw.avO 9998
  exact⟨⟨_,0,0,rs,rfl,t1,by omega,t3,mM,by omega⟩,x2.lo t4 (bS _)⟩
end Tb
/-
 SQ: the reference's faults: small steps. No condition.
-/
namespace Tb
open Go.Sx Go
structure Fb(f:Key)(h:T ab)(nx:Key):Prop where
 g:∃ a b c d:Bool,aa f h=some (.cells [.bool a,.bool b,.bool c,.bool d] .fix)
 hi:f.toNat<nx.toNat
def yD(f:Key)(h:T ab)(nx:Key)(o:Out)(h':T ab)(nx':Key):Prop:=o=.ret (.tuple [])∧Fb f h' nx'∧Ks f h nx h' nx'
theorem Fb.ext{f:Key}{h h':T ab}{nx nx':Key}(F:Fb f h nx)(x:Ext h nx h' nx'):Fb f h' nx':=by
 obtain⟨a,b,c,d,g⟩:=F.g
 exact⟨⟨a,b,c,d,by rw[x.g f F.hi];exact g⟩,by have:=F.hi;have:=x.n;omega⟩
theorem Fb.put{f:Key}{h:T ab}{nx:Key}(F:Fb f h nx)(a b c d:Bool):Fb f (aK f (some (.cells [.bool a,.bool b,.bool c,.bool d] .fix)) h) nx:=⟨⟨a,b,c,d,by rw[gTSm]⟩,F.hi⟩
theorem yD.mk{f:Key}{h:T ab}{nx:Key}(F:Fb f h nx)(a b c d:Bool):yD f h nx (.ret (.tuple [])) (aK f (some (.cells [.bool a,.bool b,.bool c,.bool d] .fix)) h) nx:=⟨rfl,F.put a b c d,tw _ _ _ _⟩
variable{C:cU}(S:dd C)
include S
theorem aC{f:Key}{h:T ab}{nx:Key}(F:Fb f h nx)(t:Bool):aO C au [.ptr f 0,.bool t] h nx (yD f h nx):=by
 obtain⟨a,b,c,d,g⟩:=F.g
 refine S.TP.call ?_
 simp[tg]
 cases b with
 |true=>
  simp[tM,g]
  exact yD.mk F _ _ _ _
 |false=>
  simp[tM,g]
  exact yD.mk F _ _ _ _
theorem gV{f:Key}{h:T ab}{nx:Key}(F:Fb f h nx)(n:Int):aO C aP [.ptr f 0,I n] h nx (yD f h nx):=by
 obtain⟨a,b,c,d,g⟩:=F.g
 refine S.RK.call ?_
 simp[qP]
 cases a with
 |true=>
  simp[rQ,g]
  exact yD.mk F _ _ _ _
 |false=>
  simp[rQ,g]
  exact yD.mk F _ _ _ _
theorem QP{f:Key}{h:T ab}{nx:Key}(F:Fb f h nx)(n m:Int):aO C cE [.ptr f 0,I n,I m] h nx (yD f h nx):=by
 obtain⟨a,b,c,d,g⟩:=F.g
 refine S.Od.call ?_
 simp[mJ]
 cases d with
 |true=>
  simp[jo,g]
  exact yD.mk F _ _ _ _
 |false=>
  by_cases hl:n<m
  ·simp[jo,g,hl]
   exact yD.mk F _ _ _ _
  ·simp[jo,g,hl]
   exact yD.mk F _ _ _ _
theorem iS{f:Key}{h:T ab}{nx:Key}(F:Fb f h nx){n c:Nat}(hn:n≤10000)(k:Int):aO C aJ [.ptr f 0,.str n c,I k] h nx (yD f h nx):=by
 have q1:=S.QQ
 have q2:=S.KQ
 have q3:=S.TN
 refine S.QR.call ?_
 simp[nT]
 simp[ye,q1]
 refine(adY S hn _ _).mono ?_
 rintro o h1 aY ⟨⟨tk,at',e,rs,rfl,htk,kQ,jG,_,he⟩,x1⟩
 have F1:=F.ext x1
 obtain⟨a,b,d,r,g⟩:=F1.g
 have fin:∀ (t:Bool),yD f h nx (.ret (.tuple [])) (aK f (some (.cells [.bool a,.bool b,.bool t,.bool r] .fix)) h1) aY:=fun t=>⟨rfl,F1.put a b t r,(x1.ks f).trans (tw _ _ _ _)⟩
 simp
 cases d with
 |true=>
  simp[cF,g]
  exact fin true
 |false=>
  by_cases he0:e=0
  ·subst he0
   rcases htk with⟨rfl,rfl⟩|rfl
   ·simp[cF,g]
    exact fin true
   ·by_cases hl1:rs.length=1
    ·have aBg:(rs.length:Int)=1:=by omega
     obtain⟨k',a',n',tn,tc,e1,e2,_⟩:=UL jG (i:=0) (by omega)
     rw[Nat.zero_mul,Nat.sub_zero] at e2
     rw[Nat.zero_mul,List.drop_zero] at e1
     generalize rs.flatten=L at e1 e2
     by_cases hk:k'=k
     ·subst hk
      obtain⟨t,ht⟩:∃ t,opS .neq tn tc n c=some (.bool t):=⟨_,rfl⟩
      cases t with
      |true=>
       simp[cF,g,hl1,e1,e2,ht]
       exact fin true
      |false=>
       simp[cF,g,hl1,e1,e2,ht,q2]
       refine(Zb S _ _).mono ?_
       rintro o h2 aH ⟨⟨L2,rfl,WJ,hs2⟩,x2⟩
       simp[q3]
       refine(ary S WJ (by omega) hs2 n c _ _).mono ?_
       rintro o h3 dw ⟨⟨t,rfl⟩,x3⟩
       have x':=(x1.trans x2).trans x3
       have F3:=F.ext x'
       have g3:aa f h3=some (.cells [.bool a,.bool b,.bool false,.bool r] .fix):=by rw[x3.g f (F1.ext x2).hi,x2.g f F1.hi];exact g
       simp[g3]
       exact⟨rfl,F3.put a b t r,(x'.ks f).trans (tw _ _ _ _)⟩
     ·have cB:(k'==k)=false:=by simp[hk]
      simp[cF,g,hl1,e1,e2,cB]
      exact fin true
    ·have aBg:¬ (rs.length:Int)=1:=by omega
     have hlb:((rs.length:Int)==1)=false:=by simp;omega
     generalize rs.flatten=L
     simp[cF,g,hlb]
     exact fin true
  ·have heb:(e==0)=false:=by simp[he0]
   simp[cF,g,heb]
   exact fin true
end Tb
/-
 SQ: the reference's faults: types. No condition.
-/
namespace Tb
open Go.Sx Go
theorem asV(a b:List AV):sizeOf (a++b)+1=sizeOf a+sizeOf b:=by
 induction a with
 |nil=>simp;omega
 |cons x a ih=>simp;omega
theorem agb:∀ {rs:List (List AV)} {r:List AV},r∈rs→sizeOf r≤sizeOf rs.flatten
 | [],r,h=>by simp at h
 |q ::rs,r,h=>by
  have e:=asV q rs.flatten
  rw[Xh]
  rcases xH.1 h with rfl|h
  ·have:1≤sizeOf rs.flatten:=by cases rs.flatten<;>simp<;>omega
   omega
  ·have:=agb h
   have:1≤sizeOf q:=by cases q<;>simp<;>omega
   omega
theorem asW{rs:List (List AV)}{n z:Nat}{f:SF}{l:List AV}(hc:AV.sl rs.flatten n z f∈l){i:Nat}(hi:i<rs.length):sizeOf rs[i]<sizeOf l:=by
 have h1:=agb (XV hi)
 have h2:=List.sizeOf_lt_of_mem hc
 have h3:SizeOf.sizeOf (AV.sl rs.flatten n z f)=1+SizeOf.sizeOf rs.flatten+SizeOf.sizeOf n+SizeOf.sizeOf z+SizeOf.sizeOf f:=by simp
 omega
theorem du(a b:Int):(a=b∧(a==b)=true)∨(¬ a=b∧(a==b)=false):=by
 by_cases h:a=b
 ·exact .inl ⟨h,by simp[h]⟩
 ·exact .inr ⟨h,by simp[h]⟩
theorem dU{k:Nat}{c:AV}(h:dg W0 (.sl k) c):c=.nils∨∃ rs:List (List AV),c=.sl rs.flatten rs.length (W0 k).length .any∧rs.length≤100000∧dy W0 k rs:=by
 cases h with
 |nil=>exact .inl rfl
 |sl _ rs a b=>exact .inr ⟨rs,rfl,a,b⟩
variable{C:cU}(S:dd C)
include S
def UN(b:Key)(h:T ab)(nx:Key)(n:Nat)(k:Nat)(tm':T AV)(h':T ab)(nx':Key):Prop:=
 ∃ (i:Nat) (v:Int),k=n-i∧i≤n∧aa (K 1) tm'=some (.ptr b 0)∧aa (K 3) tm'=some (I v)∧aa (K 4) tm'=some (I i)∧dg W0 .int (I v)∧Ext h nx h' nx'
theorem aeq:∀ (m:Nat) {l:List AV},sizeOf l=m→cJ W0 YG l→∀ (h:T ab) (nx:Key),aO C lu [.agg l] h nx (afO h nx):=by
 intro m
 induction m using Nat.strongRecOn with
 |ind m ih=>
 intro l hm ol h nx
 have q1:=S.HS
 obtain⟨a,b,d,rfl,oa,ob,od⟩:=ty3 ol
 have s0:=kTSu nx
 have x0:=E0 h nx (.cells [a,b,d] .fix)
 refine S.U1.call ?_
 simp[ve]
 simp[FX]
 simp[FY]
 simp[FZ]
 obtain⟨n,hn⟩:∃ n,n=(match d with|.sl _ n _ _=>n|_=>0):=⟨_,rfl⟩
 have g0:aa nx (aK nx (some (.cells [a,b,d] .fix)) h)=some (.cells [a,b,d] .fix):=by rw[gTSm]
 generalize aK nx (some (.cells [a,b,d] .fix)) h=Hb at x0 g0 ⊢
 refine W.bV (n:=n) (UN nx Hb nx.succ n) ?_ ?_
 ·exact⟨0,0,by omega,by omega,by simp,by simp,by simp,mM,Ext.refl _ _⟩
 rintro k jk h1 aY ⟨i,v,rfl,hi,f1,f3,f4,ov,x1⟩
 refine W.of ?_
 have g:aa nx h1=some (.cells [a,b,d] .fix):=by rw[x1.g nx (by omega)];exact g0
 simp[F9]
 rcases dU od with rfl|⟨rs,rfl,kQ,jG⟩
 ·simp at hn
  subst hn
  have BC:i=0:=by omega
  subst BC
  simp[nZ,f1,f4,g]
  simp[vq,f3]
  exact⟨⟨_,rfl,DW _⟩,x0.trans x1⟩
 ·simp at hn
  subst hn
  by_cases aM:i<rs.length
  ·have aX:(i:Int)<rs.length:=by omega
   have hw:aW .i64 ((i:Int)+1)=((i+1:Nat):Int):=by rw[show(i:Int)+1=((i+1:Nat):Int) by omega];exact br (by omega) (by omega)
   obtain⟨er,lX⟩:=jG.at_ aM
   have tF:=asW (rs:=rs) (n:=rs.length) (z:=3) (f:=.any) (l:=[a,b,.sl rs.flatten rs.length 3 .any]) (by simp) aM
   have ez:(W0 3).length=3:=rfl
   rw[ez] at er
   have se:rs[i].length=3:=lX.len
   have RJ:=jG.len
   rw[ez] at RJ
   have hz:∀ n H,az (ax n) rs[i] H=(rs[i],H):=fun n H=>av lX.bY
   have ua:=ih _ (by rw[← hm];exact tF) rfl lX
   have h3:3≤rs.flatten.length-i*3:=by omega
   generalize rs[i]=r at er lX se hz ua
   simp only[ez] at g
   generalize rs.flatten=L at g er h3
   simp[nZ,f1,f4,g,aX]
   simp[F8,f1,f3,f4,g,aM,h3,er,se,sh se,hz,q1]
   refine(ua _ _).mono ?_
   rintro o h2 aH ⟨⟨w,rfl,ow⟩,x2⟩
   by_cases hvw:v<w
   ·simp[hvw]
    simp[vp,f4]
    refine⟨rs.length-(i+1),by omega,?_⟩
    unfold UN
    exact⟨i+1,w,rfl,by omega,by simp[f1],by simp,by simp[hw],ow,x1.trans x2⟩
   ·simp[hvw]
    simp[vp,f4]
    refine⟨rs.length-(i+1),by omega,?_⟩
    unfold UN
    exact⟨i+1,v,rfl,by omega,by simp[f1],by simp,by simp[hw],ov,x1.trans x2⟩
  ·have aX:¬ (i:Int)<rs.length:=by omega
   generalize rs.flatten=L at g
   simp[nZ,f1,f4,g,aX]
   simp[vq,f3]
   exact⟨⟨_,rfl,DW _⟩,x0.trans x1⟩
end Tb
/-
 SG: generators of the reference: names, types. No condition.
-/
namespace Tg
open Go.Sx Go Tb
section
variable{C:cU}{A B:U}{Q:bp}{P:T AV→T ab→Key→Prop}{tm:T AV}{h:T ab}{nx:Key}{id:Nat}{l:List J}
theorem wsq(x:bt C A (ak (bt C B Q) Q) tm h nx):bt C (.seq A B) Q tm h nx:=x
theorem wop(x:eu C Q l tm h nx):bt C (.ops l) Q tm h nx:=x
theorem wbk(x:bt C A (ai id Q) tm h nx):bt C (.block id A) Q tm h nx:=x
theorem wrt(x:Q .ret tm h nx):bt C .ret Q tm h nx:=x
theorem wsk(x:Q .norm tm h nx):bt C .skip Q tm h nx:=x
theorem snm(x:P tm h nx):ak P Q .norm tm h nx:=x
theorem srt(x:Q .ret tm h nx):ak P Q .ret tm h nx:=x
theorem sex{j:Nat}(x:Q (.exit j) tm h nx):ak P Q (.exit j) tm h nx:=x
theorem bnm(x:Q .norm tm h nx):ai id Q .norm tm h nx:=x
theorem brt(x:Q .ret tm h nx):ai id Q .ret tm h nx:=x
theorem bex(x:Q .norm tm h nx):ai id Q (.exit id) tm h nx:=by
 show(if id=id then Q .norm tm h nx else _)
 rw[if_pos rfl];exact x
end
theorem wp_if{C:cU}{A B:U}{Q:bp}{tm:T AV}{h:T ab}{nx k:Key}{t:Bool}(hx:aa k tm=some (.bool t))(hA:t=true→bt C A Q tm h nx)(hB:t=false→bt C B Q tm h nx):bt C (.cond (.t k) A B) Q tm h nx:=by
 unfold bt
 rw[at_t,hx]
 exact⟨hA,hB⟩
end Tg
/-
 SG: generators of the reference: texts of truth values; both. No condition.
-/
namespace Tg
open Go.Sx Go Tb
theorem aAz{C:cU}{p:Key}{h:T ab}{nx:Key}{tm:T AV}{Q:bp}{j d:Int}{x y:AV}(e0:aa (K 0) tm=some x)(e1:aa (K 1) tm=some y)(e2:aa (K 2) tm=some (I j))(hmx:max 0 (aW .i64 (j-1))=d)(cont:∀ tm',aa (K 0) tm'=some x→aa (K 1) tm'=some y→aa (K 8) tm'=some (I d)→Q .norm tm' h nx):eu C Q oU tm h nx:=by
 by_cases aM:0<aW .i64 (j-1)
 ·have hd:aW .i64 (j-1)=d:=by omega
  simp[oU,e2,aM]
  exact cont _ (by simp[e0]) (by simp[e1]) (by simp[hd])
 ·have hd:d=0:=by omega
  simp[oU,e2,aM]
  exact cont _ (by simp[e0]) (by simp[e1]) (by simp[hd])
abbrev bO:U:=(U.ops uv).seq (.cond (.t (K 16)) .skip ((U.ops uw).seq (.cond (.t (K 16)) .skip (.ops ux))))
theorem aAA{C:cU}{h:T ab}{nx:Key}{tm:T AV}{Q:bp}{j:Int}{x y:AV}{k:Int}(h0:0≤k)(e0:aa (K 0) tm=some x)(e1:aa (K 1) tm=some y)(e2:aa (K 2) tm=some (I j))(e15:aa (K 15) tm=some (I k))
  (cont:∀ (tm':T AV) (t:Bool),(t=true↔k≤2)→aa (K 0) tm'=some x→aa (K 1) tm'=some y→aa (K 2) tm'=some (I j)→aa (K 15) tm'=some (I k)→aa (K 16) tm'=some (.bool t)→Q .norm tm' h nx):bt C bO Q tm h nx:=by
 simp
 rcases du k 0 with⟨hk,cB⟩|⟨hk,cB⟩
 ·simp[uv,e15,hk]
  refine cont _ true (by simp;omega) ?_ ?_ ?_ ?_ ?_<;>simp[e0,e1,e2,e15,hk]
 ·simp[uv,e15,cB]
  rcases du k 1 with⟨hk1,auS⟩|⟨hk1,auS⟩
  ·simp[uw,e15,hk1]
   refine cont _ true (by simp;omega) ?_ ?_ ?_ ?_ ?_<;>simp[e0,e1,e2,e15,hk1]
  ·simp[uw,e15,auS]
   rcases du k 2 with⟨hk2,auT⟩|⟨hk2,auT⟩
   ·simp[ux,e15,hk2]
    refine cont _ true (by simp;omega) ?_ ?_ ?_ ?_ ?_<;>simp[e0,e1,e2,e15,hk2]
   ·simp[ux,e15,auT]
    refine cont _ false (by simp;omega) ?_ ?_ ?_ ?_ ?_<;>simp[e0,e1,e2,e15]
theorem auU{C:cU}{A B:U}{h:T ab}{nx:Key}{tm:T AV}{Q:bp}{j:Int}{x y:AV}{k:Int}(e0:aa (K 0) tm=some x)(e1:aa (K 1) tm=some y)(e2:aa (K 2) tm=some (I j))(e15:aa (K 15) tm=some (I k))
  (hA:∀ (tm':T AV),k=3→aa (K 0) tm'=some x→aa (K 1) tm'=some y→aa (K 2) tm'=some (I j)→bt C A Q tm' h nx)
  (hB:∀ (tm':T AV),¬ k=3→aa (K 0) tm'=some x→aa (K 1) tm'=some y→aa (K 2) tm'=some (I j)→aa (K 15) tm'=some (I k)→bt C B Q tm' h nx):bt C ((U.ops mP).seq (.cond (.t (K 38)) A B)) Q tm h nx:=by
 rcases du k 3 with⟨hk,cB⟩|⟨hk,cB⟩
 ·simp[mP,e15,hk]
  refine hA _ hk ?_ ?_ ?_<;>simp[e0,e1,e2]
 ·simp[mP,e15,cB]
  refine hB _ hk ?_ ?_ ?_ ?_<;>simp[e0,e1,e2,e15]
theorem auV{C:cU}{A B:U}{h:T ab}{nx:Key}{tm:T AV}{Q:bp}{j:Int}{x y:AV}{k:Int}(e0:aa (K 0) tm=some x)(e1:aa (K 1) tm=some y)(e2:aa (K 2) tm=some (I j))(e15:aa (K 15) tm=some (I k))
  (hA:∀ (tm':T AV),k=4→aa (K 0) tm'=some x→aa (K 1) tm'=some y→aa (K 2) tm'=some (I j)→bt C A Q tm' h nx)
  (hB:∀ (tm':T AV),¬ k=4→aa (K 0) tm'=some x→aa (K 1) tm'=some y→aa (K 2) tm'=some (I j)→bt C B Q tm' h nx):bt C ((U.ops mQ).seq (.cond (.t (K 54)) A B)) Q tm h nx:=by
 rcases du k 4 with⟨hk,cB⟩|⟨hk,cB⟩
 ·simp[mQ,e15,hk]
  refine hA _ hk ?_ ?_ ?_<;>simp[e0,e1,e2]
 ·simp[mQ,e15,cB]
  refine hB _ hk ?_ ?_ ?_<;>simp[e0,e1,e2]
theorem aAB{C:cU}{h:T ab}{nx:Key}{tm:T AV}{Q:bp}{j:Int}{x y:AV}{k:Int}(k0:0≤k)(e0:aa (K 0) tm=some x)(e1:aa (K 1) tm=some y)(e2:aa (K 2) tm=some (I j))(e7:aa (K 7) tm=some (I k))
  (cont:∀ (tm':T AV) (q:Int),0≤q→(j=0→q≤2)→(¬ j=0→q=k)→aa (K 0) tm'=some x→aa (K 1) tm'=some y→aa (K 2) tm'=some (I j)→aa (K 7) tm'=some (I q)→Q .norm tm' h nx):bt C ((U.ops oV).seq (.cond (.t (K 12)) (.ops uy) .skip)) Q tm h nx:=by
 simp
 rcases du j 0 with⟨hk,cB⟩|⟨hk,cB⟩
 ·have IU:=Int.tmod_lt_of_pos k (b:=3) (by omega)
  have hj':=Int.tmod_nonneg 3 k0
  simp[oV,e2,hk]
  simp[uy,e7]
  refine cont _ (k.tmod 3) hj' (fun _=>by omega) (fun h=>absurd hk h) ?_ ?_ ?_ ?_<;>simp[e0,e1,e2,hk]
 ·simp[oV,e2,cB]
  refine cont _ k k0 (fun h=>absurd h hk) (fun _=>rfl) ?_ ?_ ?_ ?_<;>simp[e0,e1,e2,e7]
theorem aAC{C:cU}{h:T ab}{nx:Key}{tm:T AV}{Q:bp}{j:Int}{x y:AV}{k:Int}(e0:aa (K 0) tm=some x)(e1:aa (K 1) tm=some y)(e2:aa (K 2) tm=some (I j))(e7:aa (K 7) tm=some (I k))
  (cont:∀ (tm':T AV),aa (K 0) tm'=some x→aa (K 1) tm'=some y→aa (K 2) tm'=some (I j)→aa (K 15) tm'=some (I k)→Q .norm tm' h nx):eu C Q uz tm h nx:=by
 simp[uz,e7]
 refine cont _ ?_ ?_ ?_ ?_<;>simp[e0,e1,e2]
abbrev bR:U:=(U.ops oV).seq (.cond (.t (K 12)) (.ops uy) .skip)
abbrev bI:U:=.seq bO (.cond (.t (K 16)) ((U.ops oU).seq ((U.ops uA).seq .ret)) ((U.ops mP).seq (.cond (.t (K 38)) ((U.ops so).seq .ret) ((U.ops mQ).seq (.cond (.t (K 54)) ((U.ops sq).seq .ret) .skip)))))
abbrev bB:U:=.seq bR (.seq ((U.ops uz).seq (.block 0 bI)) ((U.ops su).seq .ret))
variable{C:cU}(S:dd C)
include S
variable{L:List AV}{n V A B A':Nat}
theorem agM(hL:qU V L)(h0:0<L.length)(hn:L.length=n)(hV:V≤1000){j d:Int}(hA:A≤10000)(hB:B≤10000)(hI:vB C L n d A)(hBo:j=0∨(¬ j=0∧aW .i64 (j-1)=d∧tH C L n d B))(hmx:max 0 (aW .i64 (j-1))=d):tH C L n j (2*B+2*A+20):=by
 intro p h nx P
 have q1:=S.cX
 have main:∀ (k:Int),0≤k→k<6→∀ (tm:T AV) (h1:T ab) (aY:Key),PP p h1 aY→Ks p h nx h1 aY→aa (K 0) tm=some (.ptr p 0)→aa (K 1) tm=some (.sl L n 1 .any)→aa (K 2) tm=some (I j)→aa (K 7) tm=some (I k)→bt C bB (aN [RV.tmp (K 6)] (OO (2*B+2*A+20) p h nx)) tm h1 aY:=by
  intro k i1 i2 tm h1 aY P1 k1 e0 e1 e2 e7
  generalize hR:OO (2*B+2*A+20) p h nx=R
  have fin:∀ (M:Nat),M≤2*B+2*A+20→∀ (tm':T AV) (h':T ab) (nx':Key) (n' c':Nat),aa (K 6) tm'=some (.str n' c')→n'≤M→PP p h' nx'→Ks p h1 aY h' nx'→aN [RV.tmp (K 6)] R .ret tm' h' nx':=by
   intro M hM tm' h' nx' n' c' e6 VE P' k'
   simp[e6]
   rw[← hR]
   exact⟨⟨n',c',rfl,by omega,P'⟩,k1.trans k'⟩
  generalize aN [RV.tmp (K 6)] R=BP at fin ⊢
  refine wsq (aAB i1 e0 e1 e2 e7 fun jk q q0 q1 q2 f0 f1 f2 f7=>snm (wsq (wsq (wop (aAC f0 f1 f2 f7 fun xD g0 g1 g2 g15=>snm (wbk (wsq (aAA q0 g0 g1 g2 g15 fun Vp t ht a0 a1 a2 a15 a16=>snm (wp_if a16 (fun h2=>?_) (fun h2=>?_))))))))))
  ·exact wsq (wop (aAz (p:=p) a0 a1 a2 hmx fun tm' b0 b1 b8=>snm (wsq (wop (aAD S P1 hL h0 hn hI hA hV b0 b1 b8 fun tm' h' nx' n' c' x1 x2 x3 x4=>snm (wrt (brt (srt (fin _ (by omega) tm' h' nx' n' c' x1 x2 x3 x4)))))))))
  ·have hq:¬ q≤2:=fun h3=>by rw[ht.2 h3] at h2;cases h2
   have hj:¬ j=0:=fun h3=>hq (q1 h3)
   have hqk:=q2 hj
   obtain⟨hw,hBo⟩:aW .i64 (j-1)=d∧tH C L n d B:=by
    rcases hBo with h3|⟨_,h3,h4⟩
    ·exact absurd h3 hj
    ·exact⟨h3,h4⟩
   refine auU a0 a1 a2 a15 (fun oW _ b0 b1 b2=>?_) (fun oW hk3 b0 b1 b2 b15=>?_)
   ·exact wsq (wop (auW S P1 hL h0 hn hI hBo hA hB hV b0 b1 b2 hw fun tm' h' nx' n' c' x1 x2 x3 x4=>snm (wrt (brt (srt (fin _ (by omega) tm' h' nx' n' c' x1 x2 x3 x4))))))
   ·refine auV b0 b1 b2 b15 (fun Wt _ b0 b1 b2=>?_) (fun Wt hk4 b0 b1 b2=>?_)
    ·exact wsq (wop (auX S P1 hL h0 hn hI hBo hA hB hV b0 b1 b2 hw fun tm' h' nx' n' c' x1 x2 x3 x4=>snm (wrt (brt (srt (fin _ (by omega) tm' h' nx' n' c' x1 x2 x3 x4))))))
    ·exact wsk (bnm (snm (wsq (wop (auY S P1 hL h0 hn hI hBo hA hB hV b0 b1 b2 hw fun tm' h' nx' n' c' x1 x2 x3 x4=>snm (wrt (fin _ (by omega) tm' h' nx' n' c' x1 x2 x3 x4)))))))
 refine S.YB.call ?_
 refine wsq (wop ?_)
 generalize hB2:aN [RV.tmp (K 6)] (OO (2*B+2*A+20) p h nx)=BB at main
 have go:∀ tm,aa (K 0) tm=some (.ptr p 0)→aa (K 1) tm=some (.sl L n 1 .any)→aa (K 2) tm=some (I j)→bt C ((U.ops By).seq bB) BB tm h nx:=by
  intro tm e0 e1 e2
  generalize bB=bb at main
  simp
  simp[By,e0,q1]
  refine(Bz S P (m:=6) (by omega)).mono ?_
  rintro o h1 aY ⟨⟨k,rfl,hi,hj,P1⟩,k1⟩
  simp
  refine main k hi hj _ _ _ P1 k1 ?_ ?_ ?_ ?_<;>simp[e0,e1,e2]
 rw[← hB2] at go
 have r0:∀ {Q:bp} {tm:T AV},(∀ tm',aa (K 0) tm'=aa (K 0) tm→aa (K 1) tm'=aa (K 1) tm→aa (K 2) tm'=aa (K 2) tm→Q .norm tm' h nx)→eu C Q BA tm h nx:=by
  intro Q tm cont
  simp[BA]
  refine cont _ ?_ ?_ ?_<;>simp
 exact r0 fun tm' e0 e1 e2=>snm (go tm' (e0.trans (by simp)) (e1.trans (by simp)) (e2.trans (by simp)))
theorem afb(hL:qU V L)(h0:0<L.length)(hn:L.length=n)(hV:V≤1000):∀ d:Nat,d≤1000→(Cs V d).1≤10000→(Cs V d).2≤10000→V≤(Cs V d).1∧vB C L n d (Cs V d).1∧tH C L n d (Cs V d).2
 |0,_,hA,hB=>by
  have hI:vB C L n (0:Int) (V+1):=aqq S hL h0 hn
  refine⟨by simp[Cs],hI,?_⟩
  have hb:tH C L n 0 (2*0+2*(V+1)+20):=agM (B:=0) (A:=V+1) (j:=0) (d:=0) S hL h0 hn hV (by omega) (by omega) hI (.inl rfl) (by rw[show aW .i64 ((0:Int)-1)=-1 from br (by omega) (by omega)];rfl)
  intro p h nx P
  refine(hb P).mono ?_
  rintro o h1 aY ⟨⟨n,c,e,hn,P1⟩,k⟩
  exact⟨⟨n,c,e,by simp[Cs];omega,P1⟩,k⟩
 |d+1,hd,hA,hB=>by
  have e1:(Cs V (d+1)).1=(Cs V d).2+2*(Cs V d).1+20:=rfl
  have e2:(Cs V (d+1)).2=2*(Cs V d).2+2*(Cs V d).1+20:=rfl
  obtain⟨hVA,hI,hBo⟩:=afb hL h0 hn hV d (by omega) (by omega) (by omega)
  have hw:aW .i64 (((d+1:Nat):Int)-1)=d:=by rw[show((d+1:Nat):Int)-1=d by omega];exact br (by omega) (by omega)
  refine⟨by omega,?_,?_⟩
  ·rw[e1];exact aqr S hL h0 hn hV (by omega) (by omega) (by omega) hVA hI hBo
  ·rw[e2];exact agM S hL h0 hn hV (by omega) (by omega) hI (.inr ⟨by omega,hw,hBo⟩) (by rw[hw];omega)
end Tg
/-
 SG: generators of the reference: the rows of the text of a program. No condition.
-/
namespace Tg
open Go.Sx Go Tb
variable{C:cU}(S:dd C)
include S
theorem asB{L:List AV}{n:Nat}(hL:qU 8 L)(h0:0<L.length)(hn:L.length=n){p:Key}{h:T ab}{nx:Key}(P:PP p h nx):aO C bT [.ptr p 0,.sl L n 1 .any,I 2] h nx (OO 286 p h nx):=
 (afb S hL h0 hn (by omega) 2 (by omega) (by decide) (by decide)).2.1 P
theorem ahr{L:List AV}{n:Nat}(hL:qU 8 L)(h0:0<L.length)(hn:L.length=n){p:Key}{h:T ab}{nx:Key}(P:PP p h nx):aO C cY [.ptr p 0,.sl L n 1 .any,I 2] h nx (OO 400 p h nx):=
 (afb S hL h0 hn (by omega) 2 (by omega) (by decide) (by decide)).2.2 P
variable{p:Key}{h:T ab}{nx:Key}{tm:T AV}{Q:bp}
theorem awR(P:PP p h nx)(e3:aa (K 3) tm=some (.ptr p 0))(cont:∀ tm' h' nx' n' c',aa (K 3) tm'=aa (K 3) tm→aa (K 5) tm'=aa (K 5) tm→aa (K 4) tm'=some (.str n' c')→n'≤80→PP p h' nx'→Ks p h nx h' nx'→Q .norm tm' h' nx'):eu C Q yN tm h nx:=by
 simp[yN]
 exact cont _ _ _ 80 182339015806115267981690504437825014252752519173632756923371775538818044982487912086796230433300401641348655463546686888789589061055709237731263134259661917017269511739968816006670869899278708 (by simp) (by simp) (by simp) (by omega) (P) (Ks.refl _ _ _)
theorem awS(P:PP p h nx)(e3:aa (K 3) tm=some (.ptr p 0)){s0 t0 A:Nat}(e4:aa (K 4) tm=some (.str s0 t0))(b0:s0≤A)(hA:A≤20000)(cont:∀ tm' h' nx' n' c',aa (K 3) tm'=aa (K 3) tm→aa (K 5) tm'=aa (K 5) tm→aa (K 4) tm'=some (.str n' c')→n'≤(A+95)→PP p h' nx'→Ks p h nx h' nx'→Q .norm tm' h' nx'):eu C Q yO tm h nx:=by
 obtain⟨s1,t1,a1,b1⟩:=aT (n:=s0) (c:=t0) (m:=95) (d:=242400390570448371950885050869961033292075858437333278135881313453219708828538149335400385361452885923842266288315248606436642298395278166741637990853543129384526369068055586511025348837751508184765413544444919360018170862531942) b0 (bS 95) (by omega)
 simp[yO,e4,a1]
 exact cont _ _ _ s1 t1 (by simp) (by simp) (by simp) (by omega) (P) (Ks.refl _ _ _)
theorem awT(P:PP p h nx)(e3:aa (K 3) tm=some (.ptr p 0)){s0 t0 A:Nat}(e4:aa (K 4) tm=some (.str s0 t0))(b0:s0≤A)(hA:A≤20000)(cont:∀ tm' h' nx' n' c',aa (K 3) tm'=aa (K 3) tm→aa (K 5) tm'=aa (K 5) tm→aa (K 4) tm'=some (.str n' c')→n'≤(((A+42)+1)+42)→PP p h' nx'→Ks p h nx h' nx'→Q .norm tm' h' nx'):eu C Q yP tm h nx:=by
 obtain⟨s1,t1,a1,b1⟩:=aT (n:=s0) (c:=t0) (m:=42) (d:=17630813516959311166135672515674225907770606714843221737536091935437821151332877851403155760149853542) b0 (bS 42) (by omega)
 simp[yP,e3,e4,a1,S.bQ]
 refine(lU S P (m:=1) (by omega) (by omega)).mono ?_
 rintro o h2 aH ⟨⟨s2,t2,rfl,b2,_,P2⟩,k2⟩
 obtain⟨s3,t3,a3,b3⟩:=aT (n:=s1) (c:=t1) (m:=s2) (d:=t2) b1 b2 (by omega)
 obtain⟨s4,t4,a4,b4⟩:=aT (n:=s3) (c:=t3) (m:=42) (d:=5595194057727887549840100743545936310362401078313415420158815384512292580375820390832630670184292411) b3 (bS 42) (by omega)
 simp[a3,a4]
 exact cont _ _ _ s4 t4 (by simp) (by simp) (by simp) (by omega) (P2) k2
theorem awU(P:PP p h nx)(e3:aa (K 3) tm=some (.ptr p 0)){s0 t0 A:Nat}(e4:aa (K 4) tm=some (.str s0 t0))(b0:s0≤A)(hA:A≤20000)(cont:∀ tm' h' nx' n' c',aa (K 3) tm'=aa (K 3) tm→aa (K 5) tm'=aa (K 5) tm→aa (K 4) tm'=some (.str n' c')→n'≤(((((((A+52)+1)+9)+1)+11)+1)+4)→PP p h' nx'→Ks p h nx h' nx'→Q .norm tm' h' nx'):eu C Q yQ tm h nx:=by
 obtain⟨s1,t1,a1,b1⟩:=aT (n:=s0) (c:=t0) (m:=52) (d:=21265154866463767524674751458980856205058260195024700282338554234257724492122787811205817234845934336365379455627005237556582) b0 (bS 52) (by omega)
 simp[yQ,e3,e4,a1,S.bQ]
 refine(lU S P (m:=2) (by omega) (by omega)).mono ?_
 rintro o h2 aH ⟨⟨s2,t2,rfl,b2,_,P2⟩,k2⟩
 obtain⟨s3,t3,a3,b3⟩:=aT (n:=s1) (c:=t1) (m:=s2) (d:=t2) b1 b2 (by omega)
 obtain⟨s4,t4,a4,b4⟩:=aT (n:=s3) (c:=t3) (m:=9) (d:=594776083178577862715) b3 (bS 9) (by omega)
 simp[e3,a3,a4,S.bQ]
 refine(lU S P2 (m:=3) (by omega) (by omega)).mono ?_
 rintro o h5 iW ⟨⟨s5,t5,rfl,b5,_,P5⟩,k5⟩
 obtain⟨s6,t6,a6,b6⟩:=aT (n:=s4) (c:=t4) (m:=s5) (d:=t5) b4 b5 (by omega)
 obtain⟨s7,t7,a7,b7⟩:=aT (n:=s6) (c:=t6) (m:=11) (d:=38979245390006111558901819) b6 (bS 11) (by omega)
 simp[e3,a6,a7,S.bQ]
 refine(lU S P5 (m:=3) (by omega) (by omega)).mono ?_
 rintro o h8 Bs ⟨⟨s8,t8,rfl,b8,_,P8⟩,k8⟩
 obtain⟨s9,t9,a9,b9⟩:=aT (n:=s7) (c:=t7) (m:=s8) (d:=t8) b7 b8 (by omega)
 obtain⟨s10,t10,a10,b10⟩:=aT (n:=s9) (c:=t9) (m:=4) (d:=171670816) b9 (bS 4) (by omega)
 simp[a9,a10]
 exact cont _ _ _ s10 t10 (by simp) (by simp) (by simp) (by omega) (P8) ((k2.trans k5).trans k8)
theorem awV(P:PP p h nx)(e3:aa (K 3) tm=some (.ptr p 0)){s0 t0 A:Nat}(e4:aa (K 4) tm=some (.str s0 t0))(b0:s0≤A)(hA:A≤20000)(cont:∀ tm' h' nx' n' c',aa (K 3) tm'=aa (K 3) tm→aa (K 5) tm'=aa (K 5) tm→aa (K 4) tm'=some (.str n' c')→n'≤(((A+29)+286)+2)→PP p h' nx'→Ks p h nx h' nx'→Q .norm tm' h' nx'):eu C Q yR tm h nx:=by
 obtain⟨s1,t1,a1,b1⟩:=aT (n:=s0) (c:=t0) (m:=29) (d:=869155694274933035662360577565048560167803707320894833373937105007974) b0 (bS 29) (by omega)
 obtain⟨L2,WJ⟩:∃ L:List AV,L=[.str 1 120,.str 1 121]:=⟨_,rfl⟩
 have u2:qU 1 L2:=by rw[WJ];exact D0 rfl
 have l2:L2.length=2:=by rw[WJ];rfl
 have z2:=Ea (h:=h) (nx:=nx) u2 l2
 rw[WJ] at z2
 obtain⟨P2,k2⟩:=LU (L:=L2) P
 simp[yR,e3,e4,a1,z2,S.cN]
 rw[← WJ]
 refine(asB S (u2.up (by omega)) (by omega) l2 P2).mono ?_
 rintro o h3 dw ⟨⟨s3,t3,rfl,b3,P3⟩,k3⟩
 obtain⟨s4,t4,a4,b4⟩:=aT (n:=s1) (c:=t1) (m:=s3) (d:=t3) b1 b3 (by omega)
 obtain⟨s5,t5,a5,b5⟩:=aT (n:=s4) (c:=t4) (m:=2) (d:=2619) b4 (bS 2) (by omega)
 simp[a4,a5]
 exact cont _ _ _ s5 t5 (by simp) (by simp) (by simp) (by omega) (P3) (k2.trans k3)
theorem awW(P:PP p h nx)(e3:aa (K 3) tm=some (.ptr p 0)){s0 t0 A:Nat}(e4:aa (K 4) tm=some (.str s0 t0))(b0:s0≤A)(hA:A≤20000)(cont:∀ tm' h' nx' n' c',aa (K 3) tm'=aa (K 3) tm→aa (K 5) tm'=aa (K 5) tm→aa (K 4) tm'=some (.str n' c')→n'≤(((A+23)+400)+2)→PP p h' nx'→Ks p h nx h' nx'→Q .norm tm' h' nx'):eu C Q yS tm h nx:=by
 obtain⟨s1,t1,a1,b1⟩:=aT (n:=s0) (c:=t0) (m:=23) (d:=3087861278408820505839986626143530752162758300078601574) b0 (bS 23) (by omega)
 obtain⟨L2,WJ⟩:∃ L:List AV,L=[.str 1 120]:=⟨_,rfl⟩
 have u2:qU 1 L2:=by rw[WJ];exact D0 rfl
 have l2:L2.length=1:=by rw[WJ];rfl
 have z2:=Ea (h:=h) (nx:=nx) u2 l2
 rw[WJ] at z2
 obtain⟨P2,k2⟩:=LU (L:=L2) P
 simp[yS,e3,e4,a1,z2,S.iM]
 rw[← WJ]
 refine(ahr S (u2.up (by omega)) (by omega) l2 P2).mono ?_
 rintro o h3 dw ⟨⟨s3,t3,rfl,b3,P3⟩,k3⟩
 obtain⟨s4,t4,a4,b4⟩:=aT (n:=s1) (c:=t1) (m:=s3) (d:=t3) b1 b3 (by omega)
 obtain⟨s5,t5,a5,b5⟩:=aT (n:=s4) (c:=t4) (m:=2) (d:=2619) b4 (bS 2) (by omega)
 simp[a4,a5]
 exact cont _ _ _ s5 t5 (by simp) (by simp) (by simp) (by omega) (P3) (k2.trans k3)
theorem awX(P:PP p h nx)(e3:aa (K 3) tm=some (.ptr p 0)){s0 t0 A:Nat}(e4:aa (K 4) tm=some (.str s0 t0))(b0:s0≤A)(hA:A≤20000)(cont:∀ tm' h' nx' n' c',aa (K 3) tm'=aa (K 3) tm→aa (K 5) tm'=aa (K 5) tm→aa (K 4) tm'=some (.str n' c')→n'≤(((((A+29)+1)+23)+1)+43)→PP p h' nx'→Ks p h nx h' nx'→Q .norm tm' h' nx'):eu C Q yT tm h nx:=by
 obtain⟨s1,t1,a1,b1⟩:=aT (n:=s0) (c:=t0) (m:=29) (d:=875685032254460038033980230216562044410538666910606018415254702024039) b0 (bS 29) (by omega)
 simp[yT,e3,e4,a1,S.cX]
 refine(Bz S P (m:=3) (by omega)).mono ?_
 rintro o h2 aH ⟨⟨n2,rfl,x2,y2,P2⟩,k2⟩
 have w3:aW .i64 (1+n2)=1+n2:=br (by omega) (by omega)
 simp[w3,S.fG]
 refine(HR S (n:=(1+n2)) (by omega) (by omega) _ _).mono ?_
 rintro o h4 jq ⟨⟨t4,rfl,_⟩,j4⟩
 have P4:=P2.ext j4
 obtain⟨s5,t5,a5,b5⟩:=aT (n:=s1) (c:=t1) (m:=1) (d:=t4) b1 (bS 1) (by omega)
 obtain⟨s6,t6,a6,b6⟩:=aT (n:=s5) (c:=t5) (m:=23) (d:=3106314249573315471151143905529882238060635434232324154) b5 (bS 23) (by omega)
 simp[e3,a5,a6,S.bQ]
 refine(lU S P4 (m:=3) (by omega) (by omega)).mono ?_
 rintro o h7 tZ ⟨⟨s7,t7,rfl,b7,_,P7⟩,k7⟩
 obtain⟨s8,t8,a8,b8⟩:=aT (n:=s6) (c:=t6) (m:=s7) (d:=t7) b6 b7 (by omega)
 obtain⟨s9,t9,a9,b9⟩:=aT (n:=s8) (c:=t8) (m:=43) (d:=1432369678998094818601127721094043856737242469959618388723258747539157544125060190721856216924085624891) b8 (bS 43) (by omega)
 simp[a8,a9]
 exact cont _ _ _ s9 t9 (by simp) (by simp) (by simp) (by omega) (P7) ((k2.trans (j4.ks p)).trans k7)
theorem awY(P:PP p h nx)(e3:aa (K 3) tm=some (.ptr p 0)){s0 t0 A:Nat}(e4:aa (K 4) tm=some (.str s0 t0))(b0:s0≤A)(hA:A≤20000)(cont:∀ tm' h' nx' n' c',aa (K 3) tm'=aa (K 3) tm→aa (K 5) tm'=aa (K 5) tm→aa (K 4) tm'=some (.str n' c')→n'≤(((((A+42)+1)+33)+1)+6)→PP p h' nx'→Ks p h nx h' nx'→Q .norm tm' h' nx'):eu C Q yU tm h nx:=by
 obtain⟨s1,t1,a1,b1⟩:=aT (n:=s0) (c:=t0) (m:=42) (d:=17624372441542039695824857495164279970484248069983699971379196365385930382965256472598223176757831015) b0 (bS 42) (by omega)
 simp[yU,e3,e4,a1,S.cX]
 refine(Bz S P (m:=2) (by omega)).mono ?_
 rintro o h2 aH ⟨⟨n2,rfl,x2,y2,P2⟩,k2⟩
 have w3:aW .i64 (1+n2)=1+n2:=br (by omega) (by omega)
 simp[w3,S.fG]
 refine(HR S (n:=(1+n2)) (by omega) (by omega) _ _).mono ?_
 rintro o h4 jq ⟨⟨t4,rfl,_⟩,j4⟩
 have P4:=P2.ext j4
 obtain⟨s5,t5,a5,b5⟩:=aT (n:=s1) (c:=t1) (m:=1) (d:=t4) b1 (bS 1) (by omega)
 obtain⟨s6,t6,a6,b6⟩:=aT (n:=s5) (c:=t5) (m:=33) (d:=4681193151375983784321352956636219088701278493641259501819078695557996835840058) b5 (bS 33) (by omega)
 simp[e3,a5,a6,S.bQ]
 refine(lU S P4 (m:=2) (by omega) (by omega)).mono ?_
 rintro o h7 tZ ⟨⟨s7,t7,rfl,b7,_,P7⟩,k7⟩
 obtain⟨s8,t8,a8,b8⟩:=aT (n:=s6) (c:=t6) (m:=s7) (d:=t7) b6 b7 (by omega)
 obtain⟨s9,t9,a9,b9⟩:=aT (n:=s8) (c:=t8) (m:=6) (d:=11250618607913) b8 (bS 6) (by omega)
 simp[a8,a9]
 exact cont _ _ _ s9 t9 (by simp) (by simp) (by simp) (by omega) (P7) ((k2.trans (j4.ks p)).trans k7)
theorem asC(P:PP p h nx)(e3:aa (K 3) tm=some (.ptr p 0)){s0 t0 A:Nat}(e4:aa (K 4) tm=some (.str s0 t0))(b0:s0≤A)(hA:A≤20000)(cont:∀ tm' h' nx' n' c',aa (K 3) tm'=aa (K 3) tm→aa (K 5) tm'=aa (K 5) tm→aa (K 4) tm'=some (.str n' c')→n'≤(((A+29)+1)+70)→PP p h' nx'→Ks p h nx h' nx'→Q .norm tm' h' nx'):eu C Q wm tm h nx:=by
 obtain⟨s1,t1,a1,b1⟩:=aT (n:=s0) (c:=t0) (m:=29) (d:=873718671928016063895433924784385487656431549614784726834569632703847) b0 (bS 29) (by omega)
 simp[wm,e3,e4,a1,S.cX]
 refine(Bz S P (m:=3) (by omega)).mono ?_
 rintro o h2 aH ⟨⟨n2,rfl,x2,y2,P2⟩,k2⟩
 have w3:aW .i64 (1+n2)=1+n2:=br (by omega) (by omega)
 simp[w3,S.fG]
 refine(HR S (n:=(1+n2)) (by omega) (by omega) _ _).mono ?_
 rintro o h4 jq ⟨⟨t4,rfl,_⟩,j4⟩
 have P4:=P2.ext j4
 obtain⟨s5,t5,a5,b5⟩:=aT (n:=s1) (c:=t1) (m:=1) (d:=t4) b1 (bS 1) (by omega)
 obtain⟨s6,t6,a6,b6⟩:=aT (n:=s5) (c:=t5) (m:=70) (d:=150846133387941433442388388326400802338128297114433201514913475158795177782681047903587049301048862873744097579727592445982142049192112809031631493268747340326667042080) b5 (bS 70) (by omega)
 simp[a5,a6]
 exact cont _ _ _ s6 t6 (by simp) (by simp) (by simp) (by omega) (P4) (k2.trans (j4.ks p))
theorem asD(P:PP p h nx)(e3:aa (K 3) tm=some (.ptr p 0)){s0 t0 A:Nat}(e4:aa (K 4) tm=some (.str s0 t0))(b0:s0≤A)(hA:A≤20000)(cont:∀ tm' h' nx' n' c',aa (K 3) tm'=aa (K 3) tm→aa (K 5) tm'=aa (K 5) tm→aa (K 4) tm'=some (.str n' c')→n'≤(((((A+25)+1)+11)+1)+3)→PP p h' nx'→Ks p h nx h' nx'→Q .norm tm' h' nx'):eu C Q wo tm h nx:=by
 obtain⟨s1,t1,a1,b1⟩:=aT (n:=s0) (c:=t0) (m:=25) (d:=203722621511111086895953407635140705508232400588638977418599) b0 (bS 25) (by omega)
 simp[wo,e3,e4,a1,S.bQ]
 refine(lU S P (m:=1) (by omega) (by omega)).mono ?_
 rintro o h2 aH ⟨⟨s2,t2,rfl,b2,_,P2⟩,k2⟩
 obtain⟨s3,t3,a3,b3⟩:=aT (n:=s1) (c:=t1) (m:=s2) (d:=t2) b1 b2 (by omega)
 obtain⟨s4,t4,a4,b4⟩:=aT (n:=s3) (c:=t3) (m:=11) (d:=48873936935729753228455470) b3 (bS 11) (by omega)
 simp[e3,a3,a4,S.bQ]
 refine(lU S P2 (m:=2) (by omega) (by omega)).mono ?_
 rintro o h5 iW ⟨⟨s5,t5,rfl,b5,_,P5⟩,k5⟩
 obtain⟨s6,t6,a6,b6⟩:=aT (n:=s4) (c:=t4) (m:=s5) (d:=t5) b4 b5 (by omega)
 obtain⟨s7,t7,a7,b7⟩:=aT (n:=s6) (c:=t6) (m:=3) (d:=670505) b6 (bS 3) (by omega)
 simp[a6,a7]
 exact cont _ _ _ s7 t7 (by simp) (by simp) (by simp) (by omega) (P5) (k2.trans k5)
theorem asE(P:PP p h nx)(e3:aa (K 3) tm=some (.ptr p 0)){s0 t0 A:Nat}(e4:aa (K 4) tm=some (.str s0 t0))(b0:s0≤A)(hA:A≤20000)(cont:∀ tm' h' nx' n' c',aa (K 3) tm'=aa (K 3) tm→aa (K 5) tm'=aa (K 5) tm→aa (K 4) tm'=some (.str n' c')→n'≤(((A+59)+1)+19)→PP p h' nx'→Ks p h nx h' nx'→Q .norm tm' h' nx'):eu C Q wq tm h nx:=by
 obtain⟨s1,t1,a1,b1⟩:=aT (n:=s0) (c:=t0) (m:=59) (d:=2199798569449508809620815511719387556690466736766896460201503956924426167877279878805878642855344705385308823251918083637774492301809557595495) b0 (bS 59) (by omega)
 simp[wq,e3,e4,a1,S.cX]
 refine(Bz S P (m:=2) (by omega)).mono ?_
 rintro o h2 aH ⟨⟨n2,rfl,x2,y2,P2⟩,k2⟩
 have w3:aW .i64 (2+n2)=2+n2:=br (by omega) (by omega)
 simp[w3,S.fG]
 refine(HR S (n:=(2+n2)) (by omega) (by omega) _ _).mono ?_
 rintro o h4 jq ⟨⟨t4,rfl,_⟩,j4⟩
 have P4:=P2.ext j4
 obtain⟨s5,t5,a5,b5⟩:=aT (n:=s1) (c:=t1) (m:=1) (d:=t4) b1 (bS 1) (by omega)
 obtain⟨s6,t6,a6,b6⟩:=aT (n:=s5) (c:=t5) (m:=19) (d:=228178853546800958996147764136602831386732832) b5 (bS 19) (by omega)
 simp[a5,a6]
 exact cont _ _ _ s6 t6 (by simp) (by simp) (by simp) (by omega) (P4) (k2.trans (j4.ks p))
theorem asF(P:PP p h nx)(e3:aa (K 3) tm=some (.ptr p 0)){s0 t0 A:Nat}(e4:aa (K 4) tm=some (.str s0 t0))(b0:s0≤A)(hA:A≤20000)(cont:∀ tm' h' nx' n' c',aa (K 3) tm'=aa (K 3) tm→aa (K 5) tm'=aa (K 5) tm→aa (K 4) tm'=some (.str n' c')→n'≤(((((A+78)+1)+25)+1)+66)→PP p h' nx'→Ks p h nx h' nx'→Q .norm tm' h' nx'):eu C Q wu tm h nx:=by
 obtain⟨s1,t1,a1,b1⟩:=aT (n:=s0) (c:=t0) (m:=78) (d:=8747977311226605203542139338950774854349271139885704743113821981039083314086945270975935573263648089577198722233672435644332691246963632707476606577983434286640195259817076780794729427568) b0 (bS 78) (by omega)
 simp[wu,e3,e4,a1,S.bQ]
 refine(lU S P (m:=2) (by omega) (by omega)).mono ?_
 rintro o h2 aH ⟨⟨s2,t2,rfl,b2,_,P2⟩,k2⟩
 obtain⟨s3,t3,a3,b3⟩:=aT (n:=s1) (c:=t1) (m:=s2) (d:=t2) b1 b2 (by omega)
 obtain⟨s4,t4,a4,b4⟩:=aT (n:=s3) (c:=t3) (m:=25) (d:=202368730071743263691474316272767757127737348815128510013499) b3 (bS 25) (by omega)
 simp[e3,a3,a4,S.bQ]
 refine(lU S P2 (m:=4) (by omega) (by omega)).mono ?_
 rintro o h5 iW ⟨⟨s5,t5,rfl,b5,_,P5⟩,k5⟩
 obtain⟨s6,t6,a6,b6⟩:=aT (n:=s4) (c:=t4) (m:=s5) (d:=t5) b4 b5 (by omega)
 obtain⟨s7,t7,a7,b7⟩:=aT (n:=s6) (c:=t6) (m:=66) (d:=36001652380219020605076551505560526717286560982196999667637188056831645501986471993804814901609755647146717588056015389605856231341526436049335192156903776315) b6 (bS 66) (by omega)
 simp[a6,a7]
 exact cont _ _ _ s7 t7 (by simp) (by simp) (by simp) (by omega) (P5) (k2.trans k5)
theorem asG(P:PP p h nx)(e3:aa (K 3) tm=some (.ptr p 0)){s0 t0 A:Nat}(e4:aa (K 4) tm=some (.str s0 t0))(b0:s0≤A)(hA:A≤20000)(cont:∀ tm' h' nx' n' c',aa (K 3) tm'=aa (K 3) tm→aa (K 5) tm'=aa (K 5) tm→aa (K 4) tm'=some (.str n' c')→n'≤(((((A+56)+1)+27)+1)+48)→PP p h' nx'→Ks p h nx h' nx'→Q .norm tm' h' nx'):eu C Q wx tm h nx:=by
 obtain⟨s1,t1,a1,b1⟩:=aT (n:=s0) (c:=t0) (m:=56) (d:=91521674614939283628763356038963437721081525656813862749381874794550709584837648993350139074366327199710574075193165707022358713168496) b0 (bS 56) (by omega)
 simp[wx,e3,e4,a1,S.cX]
 refine(Bz S P (m:=2) (by omega)).mono ?_
 rintro o h2 aH ⟨⟨n2,rfl,x2,y2,P2⟩,k2⟩
 have w3:aW .i64 (2+n2)=2+n2:=br (by omega) (by omega)
 simp[w3,S.fG]
 refine(HR S (n:=(2+n2)) (by omega) (by omega) _ _).mono ?_
 rintro o h4 jq ⟨⟨t4,rfl,_⟩,j4⟩
 have P4:=P2.ext j4
 obtain⟨s5,t5,a5,b5⟩:=aT (n:=s1) (c:=t1) (m:=1) (d:=t4) b1 (bS 1) (by omega)
 obtain⟨s6,t6,a6,b6⟩:=aT (n:=s5) (c:=t5) (m:=27) (d:=13260654617769022839912575098037706591065773117750630856340434720) b5 (bS 27) (by omega)
 simp[e3,a5,a6,S.bQ]
 refine(lU S P4 (m:=9) (by omega) (by omega)).mono ?_
 rintro o h7 tZ ⟨⟨s7,t7,rfl,b7,_,P7⟩,k7⟩
 obtain⟨s8,t8,a8,b8⟩:=aT (n:=s6) (c:=t6) (m:=s7) (d:=t7) b6 b7 (by omega)
 obtain⟨s9,t9,a9,b9⟩:=aT (n:=s8) (c:=t8) (m:=48) (d:=1614369926229653798575554273203959196997034785634391259371191593103948285679822505488379300596185971438430391050299) b8 (bS 48) (by omega)
 simp[a8,a9]
 exact cont _ _ _ s9 t9 (by simp) (by simp) (by simp) (by omega) (P7) ((k2.trans (j4.ks p)).trans k7)
theorem asH(P:PP p h nx)(e3:aa (K 3) tm=some (.ptr p 0)){s0 t0 A:Nat}(e4:aa (K 4) tm=some (.str s0 t0))(b0:s0≤A)(hA:A≤20000)(cont:∀ tm' h' nx' n' c',aa (K 3) tm'=aa (K 3) tm→aa (K 5) tm'=aa (K 5) tm→aa (K 4) tm'=some (.str n' c')→n'≤(((A+69)+400)+25)→PP p h' nx'→Ks p h nx h' nx'→Q .norm tm' h' nx'):eu C Q wy tm h nx:=by
 obtain⟨s1,t1,a1,b1⟩:=aT (n:=s0) (c:=t0) (m:=69) (d:=1855904265024601878720904010977692236782456785180999217574220966002001945086923028430744191976544518575091647367766556608642907650441713747070090187999526282299667056) b0 (bS 69) (by omega)
 obtain⟨L2,WJ⟩:∃ L:List AV,L=[.str 1 120,.str 8 2982271794426110835]:=⟨_,rfl⟩
 have u2:qU 8 L2:=by rw[WJ];exact D0 rfl
 have l2:L2.length=2:=by rw[WJ];rfl
 have z2:=Ea (h:=h) (nx:=nx) u2 l2
 rw[WJ] at z2
 obtain⟨P2,k2⟩:=LU (L:=L2) P
 simp[wy,e3,e4,a1,z2,S.iM]
 rw[← WJ]
 refine(ahr S (u2.up (by omega)) (by omega) l2 P2).mono ?_
 rintro o h3 dw ⟨⟨s3,t3,rfl,b3,P3⟩,k3⟩
 obtain⟨s4,t4,a4,b4⟩:=aT (n:=s1) (c:=t1) (m:=s3) (d:=t3) b1 b3 (by omega)
 obtain⟨s5,t5,a5,b5⟩:=aT (n:=s4) (c:=t4) (m:=25) (d:=65839095647929650649230385922560348635700846742140755320891) b4 (bS 25) (by omega)
 simp[a4,a5]
 exact cont _ _ _ s5 t5 (by simp) (by simp) (by simp) (by omega) (P3) (k2.trans k3)
theorem asI(P:PP p h nx)(e3:aa (K 3) tm=some (.ptr p 0)){s0 t0 A:Nat}(e4:aa (K 4) tm=some (.str s0 t0))(b0:s0≤A)(hA:A≤20000)(cont:∀ tm' h' nx' n' c',aa (K 3) tm'=aa (K 3) tm→aa (K 5) tm'=aa (K 5) tm→aa (K 4) tm'=some (.str n' c')→n'≤(((A+105)+1)+31)→PP p h' nx'→Ks p h nx h' nx'→Q .norm tm' h' nx'):eu C Q wz tm h nx:=by
 obtain⟨s1,t1,a1,b1⟩:=aT (n:=s0) (c:=t0) (m:=105) (d:=923171345444115715279914311251186393619839798422410652080359215873654028080590446989935895403718291996696574674079448782170389644903561253974845609040687299003976399489425950508493317378970122250953989588633529022490442911092997004209890557724290151024) b0 (bS 105) (by omega)
 simp[wz,e3,e4,a1,S.cX]
 refine(Bz S P (m:=4) (by omega)).mono ?_
 rintro o h2 aH ⟨⟨n2,rfl,x2,y2,P2⟩,k2⟩
 have w3:aW .i64 (1+n2)=1+n2:=br (by omega) (by omega)
 simp[w3,S.fG]
 refine(HR S (n:=(1+n2)) (by omega) (by omega) _ _).mono ?_
 rintro o h4 jq ⟨⟨t4,rfl,_⟩,j4⟩
 have P4:=P2.ext j4
 obtain⟨s5,t5,a5,b5⟩:=aT (n:=s1) (c:=t1) (m:=1) (d:=t4) b1 (bS 1) (by omega)
 obtain⟨s6,t6,a6,b6⟩:=aT (n:=s5) (c:=t5) (m:=31) (d:=18532057919388531198352030202864075793868107785192778264657546338925486139) b5 (bS 31) (by omega)
 simp[a5,a6]
 exact cont _ _ _ s6 t6 (by simp) (by simp) (by simp) (by omega) (P4) (k2.trans (j4.ks p))
theorem asJ(P:PP p h nx)(e3:aa (K 3) tm=some (.ptr p 0)){s0 t0 A:Nat}(e4:aa (K 4) tm=some (.str s0 t0))(b0:s0≤A)(hA:A≤20000)(cont:∀ tm' h' nx' n' c',aa (K 3) tm'=aa (K 3) tm→aa (K 5) tm'=aa (K 5) tm→aa (K 4) tm'=some (.str n' c')→n'≤(((A+60)+1)+10)→PP p h' nx'→Ks p h nx h' nx'→Q .norm tm' h' nx'):eu C Q wA tm h nx:=by
 obtain⟨s1,t1,a1,b1⟩:=aT (n:=s0) (c:=t0) (m:=60) (d:=493127846695493671584309871880359282962020147318037448972193036874855457168846014099968608888209460937627525680641628313314108772204907024314992) b0 (bS 60) (by omega)
 simp[wA,e3,e4,a1,S.cX]
 refine(Bz S P (m:=3) (by omega)).mono ?_
 rintro o h2 aH ⟨⟨n2,rfl,x2,y2,P2⟩,k2⟩
 have w3:aW .i64 (1+n2)=1+n2:=br (by omega) (by omega)
 simp[w3,S.fG]
 refine(HR S (n:=(1+n2)) (by omega) (by omega) _ _).mono ?_
 rintro o h4 jq ⟨⟨t4,rfl,_⟩,j4⟩
 have P4:=P2.ext j4
 obtain⟨s5,t5,a5,b5⟩:=aT (n:=s1) (c:=t1) (m:=1) (d:=t4) b1 (bS 1) (by omega)
 obtain⟨s6,t6,a6,b6⟩:=aT (n:=s5) (c:=t5) (m:=10) (d:=49531830340858010214441) b5 (bS 10) (by omega)
 simp[a5,a6]
 exact cont _ _ _ s6 t6 (by simp) (by simp) (by simp) (by omega) (P4) (k2.trans (j4.ks p))
theorem asK(P:PP p h nx)(e3:aa (K 3) tm=some (.ptr p 0)){s0 t0 A:Nat}(e4:aa (K 4) tm=some (.str s0 t0))(b0:s0≤A)(hA:A≤20000)(cont:∀ tm' h' nx' n' c',aa (K 3) tm'=aa (K 3) tm→aa (K 5) tm'=aa (K 5) tm→aa (K 4) tm'=some (.str n' c')→n'≤(A+175)→PP p h' nx'→Ks p h nx h' nx'→Q .norm tm' h' nx'):eu C Q wB tm h nx:=by
 obtain⟨s1,t1,a1,b1⟩:=aT (n:=s0) (c:=t0) (m:=175) (d:=1133649114350938762955637564981500481033756643441594020735210057587345628190314741660211533182019203353007512747638331247375086667490465551541405128821534119814685819986279168465657392150115261252520054140347557515484772694946321511084441989374802569318596290300538787022329901748974831916596474792808326074930605934278629868963325788125688445864321140540717831852218107411853302167963160554282404535726285004904222453613) b0 (bS 175) (by omega)
 simp[wB,e4,a1]
 exact cont _ _ _ s1 t1 (by simp) (by simp) (by simp) (by omega) (P) (Ks.refl _ _ _)
theorem asL(P:PP p h nx)(e3:aa (K 3) tm=some (.ptr p 0)){s0 t0 A:Nat}(e4:aa (K 4) tm=some (.str s0 t0))(b0:s0≤A)(hA:A≤20000)(cont:∀ tm' h' nx' n' c',aa (K 3) tm'=aa (K 3) tm→aa (K 4) tm'=aa (K 4) tm→aa (K 5) tm'=some (.str n' c')→n'≤46→PP p h' nx'→Ks p h nx h' nx'→Q .norm tm' h' nx'):eu C Q wC tm h nx:=by
 obtain⟨L1,Zo⟩:∃ L:List AV,L=[.str 26 95067885820628404988880426502098583885435520868756988075799667,.str 46 138941906620721152011414356816098914323633161783372939296814538757119633060478175089730971849415338281373365363,.str 37 29552123331201107846288453554526192735537746863860156791328984907258631740988473886471283,.str 26 95067885820628404988880426502098583885435520868756988075799667]:=⟨_,rfl⟩
 have u1:qU 46 L1:=by rw[Zo];exact D0 rfl
 have l1:L1.length=4:=by rw[Zo];rfl
 have z1:=Ea (h:=h) (nx:=nx) u1 l1
 rw[Zo] at z1
 obtain⟨P1,k1⟩:=LU (L:=L1) P
 simp[wC,e3,z1,S.dS]
 rw[← Zo]
 refine(tx S P1 (L:=L1) u1 (by omega) l1).mono ?_
 rintro o h2 aH ⟨⟨s2,t2,rfl,b2,P2⟩,k2⟩
 simp
 exact cont _ _ _ s2 t2 (by simp) (by simp) (by simp) (by omega) (P2) (k1.trans k2)
theorem asM(P:PP p h nx)(e3:aa (K 3) tm=some (.ptr p 0)){s0 t0 A:Nat}(e4:aa (K 4) tm=some (.str s0 t0))(b0:s0≤A)(hA:A≤20000){s05 t05:Nat}(e5:aa (K 5) tm=some (.str s05 t05))(b05:s05≤100)(cont:∀ tm' h' nx' n' c',aa (K 3) tm'=aa (K 3) tm→aa (K 5) tm'=aa (K 5) tm→aa (K 4) tm'=some (.str n' c')→n'≤(((((A+57)+57)+14)+100)+5)→PP p h' nx'→Ks p h nx h' nx'→Q .norm tm' h' nx'):eu C Q wD tm h nx:=by
 obtain⟨s1,t1,a1,b1⟩:=aT (n:=s0) (c:=t0) (m:=57) (d:=23608419168439401298305421729180569487127571935976064171038977312927607667486445447057503992971070975184618063429655657636111722824825203) b0 (bS 57) (by omega)
 obtain⟨L2,WJ⟩:∃ L:List AV,L=[.str 19 1319936304175125151166898873531993380459213939,.str 19 1319936304175125151166898873531993380459213939,.str 57 43022965504886363945246762546480281017649169408355286030470596569879069509566987535847904213615349577492151128546307203829055027144914035]:=⟨_,rfl⟩
 have u2:qU 57 L2:=by rw[WJ];exact D0 rfl
 have l2:L2.length=3:=by rw[WJ];rfl
 have z2:=Ea (h:=h) (nx:=nx) u2 l2
 rw[WJ] at z2
 obtain⟨P2,k2⟩:=LU (L:=L2) P
 simp[wD,e3,e4,a1,z2,S.dS]
 rw[← WJ]
 refine(tx S P2 (L:=L2) u2 (by omega) l2).mono ?_
 rintro o h3 dw ⟨⟨s3,t3,rfl,b3,P3⟩,k3⟩
 obtain⟨s4,t4,a4,b4⟩:=aT (n:=s1) (c:=t1) (m:=s3) (d:=t3) b1 b3 (by omega)
 obtain⟨s5,t5,a5,b5⟩:=aT (n:=s4) (c:=t4) (m:=14) (d:=658792124583422642804237124271392) b4 (bS 14) (by omega)
 obtain⟨s6,t6,a6,b6⟩:=aT (n:=s5) (c:=t5) (m:=s05) (d:=t05) b5 b05 (by omega)
 obtain⟨s7,t7,a7,b7⟩:=aT (n:=s6) (c:=t6) (m:=5) (d:=45048954144) b6 (bS 5) (by omega)
 simp[e5,a4,a5,a6,a7]
 exact cont _ _ _ s7 t7 (by simp) (by simp) (by simp) (by omega) (P3) (k2.trans k3)
theorem asN(P:PP p h nx)(e3:aa (K 3) tm=some (.ptr p 0)){s0 t0 A:Nat}(e4:aa (K 4) tm=some (.str s0 t0))(b0:s0≤A)(hA:A≤20000)(cont:∀ tm' h' nx' n' c',aa (K 3) tm'=aa (K 3) tm→aa (K 5) tm'=aa (K 5) tm→aa (K 4) tm'=some (.str n' c')→n'≤(A+223)→PP p h' nx'→Ks p h nx h' nx'→Q .norm tm' h' nx'):eu C Q wE tm h nx:=by
 obtain⟨s1,t1,a1,b1⟩:=aT (n:=s0) (c:=t0) (m:=223) (d:=44668049508446143504032148005410368015232833302116540406590816940612002862210624388055166208729146218194150131021090283340236276024666670726104380813560504481026882059219472472985340395160766221502207119792380865066182019147420306929188783492488544981900775165854799647850755669427666933959350726654888367937553089912716941631614072379962510036988683150587516066156051593734096364077949526066028781810037138661192508385889341811001312519978485296244351463729134975672542309127521630706002964015912827019066585734317416455564103487090541) b0 (bS 223) (by omega)
 simp[wE,e4,a1]
 exact cont _ _ _ s1 t1 (by simp) (by simp) (by simp) (by omega) (P) (Ks.refl _ _ _)
theorem asO(P:PP p h nx)(e3:aa (K 3) tm=some (.ptr p 0)){s0 t0 A:Nat}(e4:aa (K 4) tm=some (.str s0 t0))(b0:s0≤A)(hA:A≤20000)(cont:∀ tm' h' nx' n' c',aa (K 3) tm'=aa (K 3) tm→aa (K 4) tm'=aa (K 4) tm→aa (K 5) tm'=aa (K 5) tm→aa (K 6) tm'=some (.str n' c')→n'≤45→PP p h' nx'→Ks p h nx h' nx'→Q .norm tm' h' nx'):eu C Q wG tm h nx:=by
 obtain⟨L1,Zo⟩:∃ L:List AV,L=[.str 18 5156341465175768874117069934607604679799923,.str 29 1595810388991960012170694406301795069956373556826004271332397727183987,.str 29 1595810388992131651671271385856313181391860960698813192366104668107891,.str 45 545391338663372117477376464250902119640064407395424165658102675558809813285909297859450371620181422933111923]:=⟨_,rfl⟩
 have u1:qU 45 L1:=by rw[Zo];exact D0 rfl
 have l1:L1.length=4:=by rw[Zo];rfl
 have z1:=Ea (h:=h) (nx:=nx) u1 l1
 rw[Zo] at z1
 obtain⟨P1,k1⟩:=LU (L:=L1) P
 simp[wG,e3,z1,S.dS]
 rw[← Zo]
 refine(tx S P1 (L:=L1) u1 (by omega) l1).mono ?_
 rintro o h2 aH ⟨⟨s2,t2,rfl,b2,P2⟩,k2⟩
 simp
 exact cont _ _ _ s2 t2 (by simp) (by simp) (by simp) (by simp) (by omega) (P2) (k1.trans k2)
theorem asP(P:PP p h nx)(e3:aa (K 3) tm=some (.ptr p 0)){s0 t0 A:Nat}(e4:aa (K 4) tm=some (.str s0 t0))(b0:s0≤A)(hA:A≤20000){s06 t06:Nat}(e6:aa (K 6) tm=some (.str s06 t06))(b06:s06≤100)(cont:∀ tm' h' nx' n' c',aa (K 3) tm'=aa (K 3) tm→aa (K 5) tm'=aa (K 5) tm→aa (K 4) tm'=some (.str n' c')→n'≤(((((A+32)+1)+14)+100)+84)→PP p h' nx'→Ks p h nx h' nx'→Q .norm tm' h' nx'):eu C Q wH tm h nx:=by
 obtain⟨s1,t1,a1,b1⟩:=aT (n:=s0) (c:=t0) (m:=32) (d:=14676131989434546442361094030128172871822772540656785016414043200476060809587) b0 (bS 32) (by omega)
 obtain⟨L2,WJ⟩:∃ L:List AV,L=[.str 1 48,.str 1 115]:=⟨_,rfl⟩
 have u2:qU 1 L2:=by rw[WJ];exact D0 rfl
 have l2:L2.length=2:=by rw[WJ];rfl
 have z2:=Ea (h:=h) (nx:=nx) u2 l2
 rw[WJ] at z2
 obtain⟨P2,k2⟩:=LU (L:=L2) P
 simp[wH,e3,e4,a1,z2,S.dS]
 rw[← WJ]
 refine(tx S P2 (L:=L2) u2 (by omega) l2).mono ?_
 rintro o h3 dw ⟨⟨s3,t3,rfl,b3,P3⟩,k3⟩
 obtain⟨s4,t4,a4,b4⟩:=aT (n:=s1) (c:=t1) (m:=s3) (d:=t3) b1 b3 (by omega)
 obtain⟨s5,t5,a5,b5⟩:=aT (n:=s4) (c:=t4) (m:=14) (d:=658792124583109697236280356666144) b4 (bS 14) (by omega)
 obtain⟨s6,t6,a6,b6⟩:=aT (n:=s5) (c:=t5) (m:=s06) (d:=t06) b5 b06 (by omega)
 obtain⟨s7,t7,a7,b7⟩:=aT (n:=s6) (c:=t6) (m:=84) (d:=802863977222833253000662597483595899684846964927411216718103966782225886752434225789372691247510272503557491541401717654235551548713805152173594189708427824347382147878298350856355739544245536095763744) b6 (bS 84) (by omega)
 simp[e6,a4,a5,a6,a7]
 exact cont _ _ _ s7 t7 (by simp) (by simp) (by simp) (by omega) (P3) (k2.trans k3)
theorem asQ(P:PP p h nx)(e3:aa (K 3) tm=some (.ptr p 0)){s0 t0 A:Nat}(e4:aa (K 4) tm=some (.str s0 t0))(b0:s0≤A)(hA:A≤20000)(cont:∀ tm' h' nx' n' c',aa (K 3) tm'=aa (K 3) tm→aa (K 4) tm'=aa (K 4) tm→aa (K 5) tm'=aa (K 5) tm→aa (K 2) tm'=some (.str n' c')→n'≤A→PP p h' nx'→Ks p h nx h' nx'→Q .norm tm' h' nx'):eu C Q wI tm h nx:=by
 simp[wI,e4]
 exact cont _ _ _ s0 t0 (by simp) (by simp) (by simp) (by simp) (by omega) (P) (Ks.refl _ _ _)
end Tg
/-
 SG: generators of the reference: the first integers of a list. No condition.
-/
namespace Tg
open Go.Sx Go Tb
variable{C:cU}(S:dd C)
include S
def IlR(h:T ab)(nx:Key)(o:Out)(h':T ab)(nx':Key):Prop:=(∃ c:AV,o=.ret c∧IL c)∧Ext h nx h' nx'
theorem ats{c:AV}(hc:IL c){m:Nat}(h0:0<m)(hm:m≤1000)(h:T ab)(nx:Key):aO C DJ [c,I m] h nx (IlR h nx):=by
 refine S.ac6.call ?_
 simp[LC]
 simp[Sl]
 simp[Sm]
 rcases hc with rfl|⟨l,rfl,hl⟩
 ·have hm0:¬ (m:Int)<0:=by omega
  simp[ug,hm0]
  exact⟨⟨_,rfl,.inl rfl⟩,Ext.refl _ _⟩
 ·have st:∀ k:Nat,∀ y∈List.take k (l.map fun n=>I n),XP y:=fun k y hy=>by
   obtain⟨n,_,rfl⟩:=Vn.1 (List.mem_of_mem_take hy)
   exact Lt _ _
  have fin:∀ k:Nat,k≤l.length→IlR h nx (.ret (.sl (List.take k (l.map fun n=>I n)) k 1 .any)) (aK nx none h) nx.succ:=by
   intro k hk
   refine⟨⟨_,rfl,.inr ⟨l.take k,?_,fun n hn=>hl n (List.mem_of_mem_take hn)⟩⟩,by rw[kTSu];omega,fun b hb=>by rw[bA (by omega)]⟩
   rw[List.map_take,zqy,Nat.min_eq_left hk]
  have fz:∀ k:Nat,k≤l.length→ax 9999 (.slice nx 0 k 1) (aK nx (some (.cells (List.take k (l.map fun n=>I n)) .part)) h)=(.sl (List.take k (l.map fun n=>I n)) k 1 .any,aK nx none (aK nx (some (.cells (List.take k (l.map fun n=>I n)) .part)) h)):=fun k hk=>
   Zu (n:=9998) (by rw[gTSm]) (by simp[zqy,Nat.min_eq_left hk]) (st k)
  by_cases aM:(m:Int)<l.length
  ·have hle:m≤l.length:=by omega
   have Cr:m≤1048576:=by omega
   have hm0:¬ m=0:=by omega
   simp[ug,aM,hle,hm0,Cr,fz m hle]
   exact fin m hle
  ·by_cases hl0:l=[]
   ·subst hl0
    simp[ug]
    exact⟨⟨_,rfl,.inl rfl⟩,Ext.refl _ _⟩
   ·have Cr:l.length≤1048576:=by omega
    simp[ug,aM,hl0,Cr,fz l.length (bS _)]
    exact fin _ (bS _)
def aHx(h:T ab)(nx:Key)(tm:T AV)(k:Nat)(h':T ab)(nx':Key):Prop:=∃ q:Key,aa (K k) tm=some (.ptr q 0)∧PP q h' nx'∧nx.toNat≤q.toNat∧∀ b:Key,b.toNat<nx.toNat→aa b h'=aa b h
omit S in
theorem PP.fresh{c:AV}(hc:IL c)(h:T ab)(nx:Key):PP nx (aK nx (some (.cells [c,I 0] .fix)) h) nx.succ:=
 ⟨by rw[kTSu];omega,c,0,by rw[gTSm],hc,by omega,by omega⟩
theorem ayi{c:AV}(hc:IL c){h:T ab}{nx:Key}{tm:T AV}{Q:bp}(e0:aa (K 0) tm=some c)(cont:∀ tm' h' nx',aHx h nx tm' 3 h' nx'→Q .norm tm' h' nx'):eu C Q yM tm h nx:=by
 have q1:=S.ac7
 have hz:∀ n H,ax n c H=(c,H):=hc.jh
 simp[yM,e0,q1,hz]
 refine(ats S hc (m:=60) (by omega) (by omega) _ _).mono ?_
 rintro o h1 aY ⟨⟨c1,rfl,hc1⟩,x1⟩
 have n1:=x1.n
 simp[hc1.cells]
 exact cont _ _ _ ⟨aY,by simp,PP.fresh hc1 _ _,n1,fun b hb=>by rw[bA (by omega)];exact x1.g b hb⟩
omit S in
theorem ayj{Q:bp}{tm:T AV}{h:T ab}{nx:Key}{c:AV}(e0:aa (K 0) tm=some c)(cont:∀ tm',aa (K 0) tm'=some c→Q .norm tm' h nx):eu C Q yL tm h nx:=by
 simp[yL]
 exact cont _ (by simp[e0])
def ahQ(h:T ab)(nx:Key)(o:Out)(h':T ab)(nx':Key):Prop:=(∃ n c:Nat,o=.ret (.str n c)∧n≤7000)∧Ext h nx h' nx'
theorem aiM{c:AV}(hc:IL c)(h:T ab)(nx:Key):aO C uQ [c] h nx (ahQ h nx):=by
 refine S.XI.call ?_
 refine wsq (wop (ayj (c:=c) (by simp) fun tm0 e0=>snm (wsq (wop (ayi S hc e0 fun jk h1 aY ⟨q,e3,P1,hq,as8⟩=>snm ?_)))))
 have done:∀ (tm:T AV) (h':T ab) (nx':Key) (n c':Nat),aa (K 2) tm=some (.str n c')→n≤7000→PP q h' nx'→Ks q h1 aY h' nx'→aN uf.res (ahQ h nx) .ret tm h' nx':=by
  intro tm h' nx' n c' e2 hn P' k'
  show aN [RV.tmp (K 2)] (ahQ h nx) .ret tm h' nx'
  simp[e2]
  have hq':=P1.hi
  exact⟨⟨n,c',rfl,hn⟩,by have:=k'.n;omega,fun b hb=>by rw[k'.g b (by omega) (aG (by omega))];exact as8 b hb⟩
 generalize aN uf.res (ahQ h nx)=BP at done ⊢
 refine wsq (wop (awR S P1 e3 fun xD h2 aH n2 c2 aHy aOh o2 b2 P2 k2=>snm ?_))
 have ayk:=(aHy.trans e3)
 have K2:=k2
 refine wsq (wop (awS S P2 ayk o2 b2 (by omega) fun Vp h3 dw n3 c3 aHz aOi o3 b3 P3 k3=>snm ?_))
 have ayl:=(aHz.trans ayk)
 have K3:=K2.trans k3
 refine wsq (wop (awT S P3 ayl o3 b3 (by omega) fun oW h4 jq n4 c4 aHA aOj o4 b4 P4 k4=>snm ?_))
 have aym:=(aHA.trans ayl)
 have K4:=K3.trans k4
 refine wsq (wop (awU S P4 aym o4 b4 (by omega) fun Wt h5 iW n5 c5 aHB aOk o5 b5 P5 k5=>snm ?_))
 have ayn:=(aHB.trans aym)
 have K5:=K4.trans k5
 refine wsq (wop (awV S P5 ayn o5 b5 (by omega) fun tm6 h6 IC n6 c6 aHC aOl o6 b6 P6 k6=>snm ?_))
 have ayo:=(aHC.trans ayn)
 have K6:=K5.trans k6
 refine wsq (wop (awW S P6 ayo o6 b6 (by omega) fun tm7 h7 tZ n7 c7 aHD aOm o7 b7 P7 k7=>snm ?_))
 have ayp:=(aHD.trans ayo)
 have K7:=K6.trans k7
 refine wsq (wop (awX S P7 ayp o7 b7 (by omega) fun tm8 h8 Bs n8 c8 aHE aOn o8 b8 P8 k8=>snm ?_))
 have ayq:=(aHE.trans ayp)
 have K8:=K7.trans k8
 refine wsq (wop (awY S P8 ayq o8 b8 (by omega) fun tm9 h9 Iy n9 c9 aHF aOo o9 b9 P9 k9=>snm ?_))
 have ayr:=(aHF.trans ayq)
 have K9:=K8.trans k9
 refine wsq (wop (asC S P9 ayr o9 b9 (by omega) fun aOq h10 aOr n10 c10 ays aLj o10 b10 P10 bM=>snm ?_))
 have apP:=(ays.trans ayr)
 have K10:=K9.trans bM
 refine wsq (wop (asD S P10 apP o10 b10 (by omega) fun aOv h11 aOw n11 c11 ayt aLk o11 b11 P11 bW=>snm ?_))
 have apQ:=(ayt.trans apP)
 have K11:=K10.trans bW
 refine wsq (wop (asE S P11 apQ o11 b11 (by omega) fun aOB h12 aOC n12 c12 ayu aLl o12 b12 P12 cr=>snm ?_))
 have apR:=(ayu.trans apQ)
 have K12:=K11.trans cr
 refine wsq (wop (asF S P12 apR o12 b12 (by omega) fun aOH h13 aOI n13 c13 ayv aLm o13 b13 P13 cu=>snm ?_))
 have apS:=(ayv.trans apR)
 have K13:=K12.trans cu
 refine wsq (wop (asG S P13 apS o13 b13 (by omega) fun aON h14 aOO n14 c14 ayw aLn o14 b14 P14 bZ=>snm ?_))
 have apT:=(ayw.trans apS)
 have K14:=K13.trans bZ
 refine wsq (wop (asH S P14 apT o14 b14 (by omega) fun aOT h15 aOU n15 c15 ayx aLo o15 b15 P15 cv=>snm ?_))
 have apU:=(ayx.trans apT)
 have K15:=K14.trans cv
 refine wsq (wop (asI S P15 apU o15 b15 (by omega) fun aOX h16 aOY n16 c16 ayy aLp o16 b16 P16 cK=>snm ?_))
 have apV:=(ayy.trans apU)
 have K16:=K15.trans cK
 refine wsq (wop (asJ S P16 apV o16 b16 (by omega) fun aO3 h17 aO4 n17 c17 ayz aLq o17 b17 P17 cO=>snm ?_))
 have apW:=(ayz.trans apV)
 have K17:=K16.trans cO
 refine wsq (wop (asK S P17 apW o17 b17 (by omega) fun aO9 h18 aPa n18 c18 ayA aLr o18 b18 P18 dv=>snm ?_))
 have apX:=(ayA.trans apW)
 have K18:=K17.trans dv
 refine wsq (wop (asL S P18 apX o18 b18 (by omega) fun aPd h19 aPe n19 c19 ayB ayC o19 b19 P19 dx=>snm ?_))
 have apY:=(ayB.trans apX)
 have ayD:=ayC.trans o18
 have ayE:n19≤100:=by omega
 have K19:=K18.trans dx
 refine wsq (wop (asM S P19 apY ayD b18 (by omega) o19 ayE fun aPh h20 aPi n20 c20 ayF ayG o20 b20 P20 db=>snm ?_))
 have apZ:=(ayF.trans apY)
 have ayH:=ayG.trans o19
 have K20:=K19.trans db
 refine wsq (wop (asN S P20 apZ o20 b20 (by omega) fun aPn h21 aPo n21 c21 ayI ayJ o21 b21 P21 dB=>snm ?_))
 have ap0:=(ayI.trans apZ)
 have ayK:=ayJ.trans ayH
 have K21:=K20.trans dB
 refine wsq (wop (asO S P21 ap0 o21 b21 (by omega) fun aPr h22 aPs n22 c22 ayL ayM ayN o22 b22 P22 cV=>snm ?_))
 have ap1:=(ayL.trans ap0)
 have ayO:=ayM.trans o21
 have ayP:=ayN.trans ayK
 have ayQ:n22≤100:=by omega
 have K22:=K21.trans cV
 refine wsq (wop (asP S P22 ap1 ayO b21 (by omega) o22 ayQ fun aPv h23 aPw n23 c23 ayR ayS o23 b23 P23 eH=>snm ?_))
 have ap2:=(ayR.trans ap1)
 have ayT:=ayS.trans ayP
 have K23:=K22.trans eH
 refine wsq (wop (asQ S P23 ap2 o23 b23 (by omega) fun aPA h24 aPB n24 c24 ayU ayV ayW o24 b24 P24 fh=>snm (wrt ?_)))
 have aLx:=(ayU.trans ap2)
 have aLy:=ayV.trans o23
 have aLz:=ayW.trans ayT
 have K24:=K23.trans fh
 exact done _ _ _ _ _ o24 (by omega) P24 K24
end Tg
/-
 SQ: the reference's faults: depths of expressions and generators. No condition.
-/
namespace Tb
open Go.Sx Go
theorem ex7{l:List AV}(h:cJ W0 sj l):∃ a b c d e f g,l=[a,b,c,d,e,f,g]∧dg W0 .int a∧dg W0 .str b∧dg W0 .int c∧dg W0 (.sl 0) d∧dg W0 (.sl 2) e∧dg W0 (.sl 4) f∧dg W0 .int g:=by
 cases h with
 |cons _ _ c1 _ h1 h=>
  cases h with
  |cons _ _ c2 _ h2 h=>
   cases h with
   |cons _ _ c3 _ h3 h=>
    cases h with
    |cons _ _ c4 _ h4 h=>
     cases h with
     |cons _ _ c5 _ h5 h=>
      cases h with
      |cons _ _ c6 _ h6 h=>
       cases h with
       |cons _ _ c7 _ h7 h=>cases h;exact⟨_,_,_,_,_,_,_,rfl,h1,h2,h3,h4,h5,h6,h7⟩
theorem kR{k z:Nat}{rs:List (List AV)}(hz:(W0 k).length=z)(jG:dy W0 k rs){i:Nat}(hi:i<rs.length):∃ r,r∈rs∧List.take z (List.drop (i*z) rs.flatten)=r∧z≤rs.flatten.length-i*z∧cJ W0 (W0 k) r∧r.length=z∧∀ n H,az (ax n) r H=(r,H):=by
 subst hz
 obtain⟨er,lX⟩:=jG.at_ hi
 have RJ:=jG.len
 have h2:(i+1)*(W0 k).length≤rs.length*(W0 k).length:=Nat.mul_le_mul_right _ hi
 rw[Nat.add_mul] at h2
 exact⟨rs[i],XV hi,er,by omega,lX,lX.len,fun n H=>av lX.bY⟩
theorem UO{rs:List (List AV)}{n z:Nat}{f:SF}{l r:List AV}(hc:AV.sl rs.flatten n z f∈l)(hr:r∈rs):SizeOf.sizeOf r<SizeOf.sizeOf l:=by
 have h1:=agb hr
 have h2:=List.sizeOf_lt_of_mem hc
 have h3:SizeOf.sizeOf (AV.sl rs.flatten n z f)=1+SizeOf.sizeOf rs.flatten+SizeOf.sizeOf n+SizeOf.sizeOf z+SizeOf.sizeOf f:=by simp
 omega
theorem jH{i n:Nat}(h:i<n)(hn:n≤100000):aW .i64 ((i:Int)+1)=((i+1:Nat):Int):=by
 rw[show(i:Int)+1=((i+1:Nat):Int) by omega];exact br (by omega) (by omega)
def bP:AV→Nat
 |.sl _ n _ _=>n
 |_=>0
variable{C:cU}(S:dd C)
include S
theorem WK:∀ (m:Nat) {l:List AV},sizeOf l=m→cJ W0 sj l→∀ (h:T ab) (nx:Key),aO C iT [.agg l] h nx (afO h nx):=by
 intro m
 induction m using Nat.strongRecOn with
 |ind m ih=>
 intro l hm ol h nx
 have q1:=S.xw
 obtain⟨a,b,c,d,e,f,g,rfl,oa,ob,oc,od,oe,of,og⟩:=ex7 ol
 have s0:=kTSu nx
 have x0:=E0 h nx (.cells [a,b,c,d,e,f,g] .fix)
 refine S.Vc.call ?_
 simp[vf]
 simp[Ga]
 simp[Gb]
 simp[Gc]
 have g0:aa nx (aK nx (some (.cells [a,b,c,d,e,f,g] .fix)) h)=some (.cells [a,b,c,d,e,f,g] .fix):=by rw[gTSm]
 generalize aK nx (some (.cells [a,b,c,d,e,f,g] .fix)) h=Hb at x0 g0 ⊢
 refine W.bV (n:=bP f) (UN nx Hb nx.succ (bP f)) ?_ ?_
 ·exact⟨0,0,by omega,by omega,by simp,by simp,by simp,mM,Ext.refl _ _⟩
 rintro k jk h1 aY ⟨i,v,rfl,hi,f1,f3,f4,ov,x1⟩
 refine W.of ?_
 have gb:aa nx h1=some (.cells [a,b,c,d,e,f,g] .fix):=by rw[x1.g nx (by omega)];exact g0
 simp[Ge]
 rcases dU of with rfl|⟨rs,rfl,kQ,jG⟩
 ·have BC:i=0:=by simp[bP] at hi;omega
  subst BC
  simp[oh,f1,f4,gb]
  simp[vt,f3]
  exact⟨⟨_,rfl,DW _⟩,x0.trans x1⟩
 ·simp[bP] at hi ⊢
  by_cases aM:i<rs.length
  ·have aX:(i:Int)<rs.length:=by omega
   have hw:=jH aM kQ
   obtain⟨r,hr,er,h3,lX,se,hz⟩:=kR (z:=7) rfl jG aM
   have tF:=UO (rs:=rs) (n:=rs.length) (z:=(W0 4).length) (f:=.any) (l:=[a,b,c,d,e,.sl rs.flatten rs.length (W0 4).length .any,g]) (by simp) hr
   have ua:=ih _ (by rw[← hm];exact tF) rfl lX
   have ez:(W0 4).length=7:=rfl
   simp only[ez] at gb
   generalize rs.flatten=L at gb er h3
   simp[oh,f1,f4,gb,aX]
   simp[Gd,f1,f3,f4,gb,aM,h3,er,se,sh se,hz,q1]
   refine(ua _ _).mono ?_
   rintro o h2 aH ⟨⟨w,rfl,ow⟩,x2⟩
   by_cases hvw:v<w
   ·simp[hvw]
    simp[vr,f4]
    refine⟨rs.length-(i+1),by omega,?_⟩
    unfold UN
    exact⟨i+1,w,rfl,by omega,by simp[f1],by simp,by simp[hw],ow,x1.trans x2⟩
   ·simp[hvw]
    simp[vr,f4]
    refine⟨rs.length-(i+1),by omega,?_⟩
    unfold UN
    exact⟨i+1,v,rfl,by omega,by simp[f1],by simp,by simp[hw],ov,x1.trans x2⟩
  ·have aX:¬ (i:Int)<rs.length:=by omega
   generalize rs.flatten=L at gb
   simp[oh,f1,f4,gb,aX]
   simp[vt,f3]
   exact⟨⟨_,rfl,DW _⟩,x0.trans x1⟩
end Tb
/-
 SQ: the reference's faults: depths of generators. No condition.
-/
namespace Tb
open Go.Sx Go
variable{C:cU}(S:dd C)
include S
def akw(b:Key)(h:T ab)(nx:Key)(n:Nat)(k:Nat)(tm':T AV)(h':T ab)(nx':Key):Prop:=
 ∃ (i:Nat) (v:Int),k=n-i∧i≤n∧aa (K 1) tm'=some (.ptr b 0)∧aa (K 3) tm'=some (I v)∧aa (K 5) tm'=some (I i)∧dg W0 .int (I v)∧Ext h nx h' nx'
theorem afQ:∀ (m:Nat) {l:List AV},sizeOf l=m→cJ W0 RZ l→∀ (h:T ab) (nx:Key),aO C mZ [.agg l] h nx (afO h nx):=by
 intro m
 induction m using Nat.strongRecOn with
 |ind m ih=>
 intro l hm ol h nx
 have q1:=S.KU
 have q2:=S.xw
 obtain⟨a,b,c,d,e,f,rfl,oa,ob,oc,od,oe,of⟩:=gn6 ol
 have s0:=kTSu nx
 have x0:=E0 h nx (.cells [a,b,c,d,e,f] .fix)
 refine S.VY.call ?_
 simp[xr]
 simp[HI]
 simp[HJ]
 simp[HK]
 have g0:aa nx (aK nx (some (.cells [a,b,c,d,e,f] .fix)) h)=some (.cells [a,b,c,d,e,f] .fix):=by rw[gTSm]
 generalize aK nx (some (.cells [a,b,c,d,e,f] .fix)) h=Hb at x0 g0 ⊢
 -- the second loop
 have second:∀ (tm':T AV) (hx:T ab) (aF:Key) (v:Int),aa (K 1) tm'=some (.ptr nx 0)→aa (K 3) tm'=some (I v)→dg W0 .int (I v)→Ext Hb nx.succ hx aF→
   bt C (((U.ops xm).seq (U.block 2 (U.loop xq))).seq ((U.ops oi).seq U.ret)) (aN [RV.tmp (K 2)] (afO h nx)) tm' hx aF:=by
  intro tm' hx aF v e1 e3 ov xx
  simp
  simp[xm]
  refine W.bV (n:=bP d) (akw nx Hb nx.succ (bP d)) ?_ ?_
  ·exact⟨0,v,by omega,by omega,by simp[e1],by simp[e3],by simp,ov,xx⟩
  clear e1 e3
  rintro k jk h1 aY ⟨i,v,rfl,hi,f1,f3,f5,ov,x1⟩
  refine W.of ?_
  have gb:aa nx h1=some (.cells [a,b,c,d,e,f] .fix):=by rw[x1.g nx (by omega)];exact g0
  simp[xq]
  rcases dU od with rfl|⟨rs,rfl,kQ,jG⟩
  ·have BC:i=0:=by simp[bP] at hi;omega
   subst BC
   simp[qT,f1,f5,gb]
   simp[oi,f3]
   exact⟨⟨_,rfl,DW _⟩,x0.trans x1⟩
  ·simp[bP] at hi ⊢
   by_cases aM:i<rs.length
   ·have aX:(i:Int)<rs.length:=by omega
    have hw:=jH aM kQ
    obtain⟨r,hr,er,h3,lX,se,hz⟩:=kR (z:=7) rfl jG aM
    have ez:(W0 4).length=7:=rfl
    simp only[ez] at gb
    generalize rs.flatten=L at gb er h3
    simp[qT,f1,f5,gb,aX]
    simp[HN,f1,f3,f5,gb,aM,h3,er,se,sh se,hz,q2]
    refine(WK S _ rfl lX _ _).mono ?_
    rintro o h2 aH ⟨⟨w,rfl,ow⟩,x2⟩
    by_cases hvw:v<w
    ·simp[hvw]
     simp[xo,f5]
     refine⟨rs.length-(i+1),by omega,?_⟩
     unfold akw
     exact⟨i+1,w,rfl,by omega,by simp[f1],by simp,by simp[hw],ow,x1.trans x2⟩
    ·simp[hvw]
     simp[xo,f5]
     refine⟨rs.length-(i+1),by omega,?_⟩
     unfold akw
     exact⟨i+1,v,rfl,by omega,by simp[f1],by simp,by simp[hw],ov,x1.trans x2⟩
   ·have aX:¬ (i:Int)<rs.length:=by omega
    generalize rs.flatten=L at gb
    simp[qT,f1,f5,gb,aX]
    simp[oi,f3]
    exact⟨⟨_,rfl,DW _⟩,x0.trans x1⟩
 simp at second
 refine W.bV (n:=bP e) (UN nx Hb nx.succ (bP e)) ?_ ?_
 ·exact⟨0,0,by omega,by omega,by simp,by simp,by simp,mM,Ext.refl _ _⟩
 rintro k jk h1 aY ⟨i,v,rfl,hi,f1,f3,f4,ov,x1⟩
 refine W.of ?_
 have gb:aa nx h1=some (.cells [a,b,c,d,e,f] .fix):=by rw[x1.g nx (by omega)];exact g0
 simp[HM]
 rcases dU oe with rfl|⟨rs,rfl,kQ,jG⟩
 ·have BC:i=0:=by simp[bP] at hi;omega
  subst BC
  simp[qS,f1,f4,gb]
  exact second _ _ _ v (by simp[f1]) (by simp[f3]) ov x1
 ·simp[bP] at hi ⊢
  by_cases aM:i<rs.length
  ·have aX:(i:Int)<rs.length:=by omega
   have hw:=jH aM kQ
   obtain⟨r,hr,er,h3,lX,se,hz⟩:=kR (z:=6) rfl jG aM
   have tF:=UO (rs:=rs) (n:=rs.length) (z:=(W0 5).length) (f:=.any) (l:=[a,b,c,d,.sl rs.flatten rs.length (W0 5).length .any,f]) (by simp) hr
   have ua:=ih _ (by rw[← hm];exact tF) rfl lX
   have ez:(W0 5).length=6:=rfl
   simp only[ez] at gb
   clear second
   generalize rs.flatten=L at gb er h3
   simp[qS,f1,f4,gb,aX]
   simp[HL,f1,f3,f4,gb,aM,h3,er,se,sh se,hz,q1]
   refine(ua _ _).mono ?_
   rintro o h2 aH ⟨⟨w,rfl,ow⟩,x2⟩
   by_cases hvw:v<w
   ·simp[hvw]
    simp[xl,f4]
    refine⟨rs.length-(i+1),by omega,?_⟩
    unfold UN
    exact⟨i+1,w,rfl,by omega,by simp[f1],by simp,by simp[hw],ow,x1.trans x2⟩
   ·simp[hvw]
    simp[xl,f4]
    refine⟨rs.length-(i+1),by omega,?_⟩
    unfold UN
    exact⟨i+1,v,rfl,by omega,by simp[f1],by simp,by simp[hw],ov,x1.trans x2⟩
  ·have aX:¬ (i:Int)<rs.length:=by omega
   have ez:(W0 5).length=6:=rfl
   simp only[ez] at gb
   simp[qS,f1,f4,gb,aX]
   exact second _ _ _ v (by simp[f1]) (by simp[f3]) ov x1
end Tb
/-
 SQ: the reference's faults: types. No condition.
-/
namespace Tb
open Go.Sx Go
theorem tK{c:AV}(h:dg W0 .str c):∃ n k:Nat,c=.str n k∧n≤10000:=by
 cases h;exact⟨_,_,rfl,by assumption⟩
theorem sy{c:AV}(h:dg W0 .int c):∃ n:Int,c=I n∧-9223372036854775808≤n∧n<9223372036854775808:=by
 cases h;exact⟨_,rfl,by assumption,by assumption⟩
variable{C:cU}(S:dd C)
include S
def apF(f b:Key)(h:T ab)(nx:Key)(n:Nat)(k:Nat)(tm':T AV)(h':T ab)(nx':Key):Prop:=
 ∃ (i:Nat),k=n-i∧i≤n∧aa (K 0) tm'=some (.ptr f 0)∧aa (K 3) tm'=some (.ptr b 0)∧aa (K 4) tm'=some (I i)∧Fb f h' nx'∧Ks f h nx h' nx'
theorem asZ:∀ (m:Nat) {l:List AV},sizeOf l=m→cJ W0 YG l→∀ {f:Key} {h:T ab} {nx:Key},Fb f h nx→aO C ja [.ptr f 0,.agg l] h nx (yD f h nx):=by
 intro m
 induction m using Nat.strongRecOn with
 |ind m ih=>
 intro l hm ol f h nx F
 have q1:=S.ay
 have q2:=S.ar
 have q3:=S.Dg
 obtain⟨a,b,d,rfl,oa,ob,od⟩:=ty3 ol
 have s0:=kTSu nx
 have F0:=F.ext (E0 h nx (.cells [a,b,d] .fix))
 have K0:=(E0 h nx (.cells [a,b,d] .fix)).ks f
 have Ui:nx≠f:=aG (by have:=F.hi;omega)
 refine S.RT.call ?_
 simp[qR]
 simp[Bf]
 have g0:aa nx (aK nx (some (.cells [a,b,d] .fix)) h)=some (.cells [a,b,d] .fix):=by rw[gTSm]
 generalize aK nx (some (.cells [a,b,d] .fix)) h=Hb at F0 K0 g0 ⊢
 obtain⟨kd,rfl,_,_⟩:=sy oa
 obtain⟨sn,sc,rfl,sf⟩:=tK ob
 -- the loop
 have loop:∀ (tm':T AV) (hx:T ab) (aF:Key),aa (K 0) tm'=some (.ptr f 0)→aa (K 3) tm'=some (.ptr nx 0)→Fb f hx aF→Ks f Hb nx.succ hx aF→
   bt C ((U.ops lP).seq (U.block 0 (U.loop lT))) (aN [] (yD f h nx)) tm' hx aF:=by
  intro tm' hx aF e0 e3 Fx kx
  simp
  simp[lP]
  refine W.bV (n:=bP d) (apF f nx Hb nx.succ (bP d)) ?_ ?_
  ·exact⟨0,by omega,by omega,by simp[e0],by simp[e3],by simp,Fx,kx⟩
  clear e0 e3
  rintro k jk h1 aY ⟨i,rfl,hi,f0,f3,f4,F1,k1⟩
  refine W.of ?_
  have gb:aa nx h1=some (.cells [I kd,.str sn sc,d] .fix):=bH k1 (by omega) Ui g0
  simp[lT]
  rcases dU od with rfl|⟨rs,rfl,kQ,jG⟩
  ·have BC:i=0:=by simp[bP] at hi;omega
   subst BC
   simp[lQ,f3,f4,gb]
   exact⟨rfl,F1,K0.trans k1⟩
  ·simp[bP] at hi ⊢
   by_cases aM:i<rs.length
   ·have aX:(i:Int)<rs.length:=by omega
    have hw:=jH aM kQ
    obtain⟨r,hr,er,h3,lX,se,hz⟩:=kR (z:=3) rfl jG aM
    have tF:=UO (rs:=rs) (n:=rs.length) (z:=(W0 3).length) (f:=.any) (l:=[I kd,.str sn sc,.sl rs.flatten rs.length (W0 3).length .any]) (by simp) hr
    have ua:=ih _ (by rw[← hm];exact tF) rfl lX F1
    have ez:(W0 3).length=3:=rfl
    simp only[ez] at gb
    generalize rs.flatten=L at gb er h3
    simp[lQ,f3,f4,gb,aX]
    simp[Bg,f0,f3,f4,gb,aM,h3,er,se,sh se,hz,q3]
    refine ua.mono ?_
    rintro o h2 aH ⟨rfl,F2,k2⟩
    simp
    simp[Bh,f4]
    refine⟨rs.length-(i+1),by omega,?_⟩
    unfold apF
    exact⟨i+1,rfl,by omega,by simp[f0],by simp[f3],by simp[hw],F2,k1.trans k2⟩
   ·have aX:¬ (i:Int)<rs.length:=by omega
    generalize rs.flatten=L at gb
    simp[lQ,f3,f4,gb,aX]
    exact⟨rfl,F1,K0.trans k1⟩
 simp at loop
 -- after the first call
 have rest:∀ (tm':T AV) (hx:T ab) (aF:Key),aa (K 0) tm'=some (.ptr f 0)→aa (K 3) tm'=some (.ptr nx 0)→Fb f hx aF→Ks f Hb nx.succ hx aF→
   bt C (((U.ops lO).seq (U.cond (PX.t (K 43)) (U.ops rT) U.skip)).seq ((U.ops lP).seq (U.block 0 (U.loop lT)))) (aN [] (yD f h nx)) tm' hx aF:=by
  intro tm' hx aF e0 e3 Fx kx
  have gb:aa nx hx=some (.cells [I kd,.str sn sc,d] .fix):=bH kx (by omega) Ui g0
  simp
  rcases du kd 3 with⟨hk,cB⟩|⟨hk,cB⟩
  ·simp[lO,e3,gb,hk]
   simp[rT,e0,e3,gb,q2]
   refine(iS S Fx sf 1).mono ?_
   rintro o h2 aH ⟨rfl,F2,k2⟩
   simp
   exact loop _ _ _ (by simp[e0]) (by simp[e3]) F2 (kx.trans k2)
  ·simp[lO,e3,gb,cB]
   exact loop _ _ _ (by simp[e0]) (by simp[e3]) Fx kx
 simp at rest
 have aNR:∀ (t:Bool) (tm':T AV) (Q:Out→T ab→Key→Prop),(∀ h2 aH,Fb f h2 aH→Ks f Hb nx.succ h2 aH→Q (.ret (.tuple [])) h2 aH)→aO C au [.ptr f 0,.bool t] Hb nx.succ Q:=by
  intro t tm' Q hQ
  refine(aC S F0 t).mono ?_
  rintro o h2 aH ⟨rfl,F2,k2⟩
  exact hQ _ _ F2 k2
 obtain⟨te,uC⟩:∃ te,opS .eql sn sc 0 0=some (.bool te):=⟨_,rfl⟩
 have hkd:kd<0∨3<kd∨kd=0∨kd=1∨kd=2∨kd=3:=by omega
 have hln:(d=.nils)∨∃ L n,d=.sl L n 3 .any∧(n=0∨n=1∨1<n):=by
  rcases dU od with rfl|⟨rs,rfl,_,_⟩
  ·exact .inl rfl
  ·exact .inr ⟨_,_,rfl,by omega⟩
 clear loop ih hm ol od
 cases te with
 |true=>
  rcases hkd with hk|hk|rfl|rfl|rfl|rfl
  ·have hk2:¬ 3<kd:=by omega
   simp[aj,g0,q1,hk]
   refine(aC S F0 _).mono ?_
   rintro o h2 aH ⟨rfl,F2,k2⟩
   simp
   exact rest _ _ _ (by simp) (by simp) F2 k2
  ·have hk2:¬ kd<0:=by omega
   simp[aj,g0,q1,hk,hk2]
   refine(aC S F0 _).mono ?_
   rintro o h2 aH ⟨rfl,F2,k2⟩
   simp
   exact rest _ _ _ (by simp) (by simp) F2 k2
  ·rcases hln with rfl|⟨L,n,rfl,rfl|rfl|hn⟩
   ·simp[aj,g0,uC,q1]
    refine(aC S F0 _).mono ?_
    rintro o h2 aH ⟨rfl,F2,k2⟩
    simp
    exact rest _ _ _ (by simp) (by simp) F2 k2
   ·simp[aj,g0,uC,q1]
    refine(aC S F0 _).mono ?_
    rintro o h2 aH ⟨rfl,F2,k2⟩
    simp
    exact rest _ _ _ (by simp) (by simp) F2 k2
   ·simp[aj,g0,q1]
    refine(aC S F0 _).mono ?_
    rintro o h2 aH ⟨rfl,F2,k2⟩
    simp
    exact rest _ _ _ (by simp) (by simp) F2 k2
   ·have hn0:¬ n=1:=by omega
    have VJ:((n:Int)==1)=false:=by simp;omega
    have Ro:¬ (n:Int)=1:=by omega
    have hn3:(1:Int)<n:=by omega
    simp[aj,g0,q1,VJ,hn3]
    refine(aC S F0 _).mono ?_
    rintro o h2 aH ⟨rfl,F2,k2⟩
    simp
    exact rest _ _ _ (by simp) (by simp) F2 k2
  ·rcases hln with rfl|⟨L,n,rfl,rfl|rfl|hn⟩
   ·simp[aj,g0,uC,q1]
    refine(aC S F0 _).mono ?_
    rintro o h2 aH ⟨rfl,F2,k2⟩
    simp
    exact rest _ _ _ (by simp) (by simp) F2 k2
   ·simp[aj,g0,uC,q1]
    refine(aC S F0 _).mono ?_
    rintro o h2 aH ⟨rfl,F2,k2⟩
    simp
    exact rest _ _ _ (by simp) (by simp) F2 k2
   ·simp[aj,g0,q1]
    refine(aC S F0 _).mono ?_
    rintro o h2 aH ⟨rfl,F2,k2⟩
    simp
    exact rest _ _ _ (by simp) (by simp) F2 k2
   ·have hn0:¬ n=1:=by omega
    have VJ:((n:Int)==1)=false:=by simp;omega
    have Ro:¬ (n:Int)=1:=by omega
    have hn3:(1:Int)<n:=by omega
    simp[aj,g0,q1,VJ,hn3]
    refine(aC S F0 _).mono ?_
    rintro o h2 aH ⟨rfl,F2,k2⟩
    simp
    exact rest _ _ _ (by simp) (by simp) F2 k2
  ·rcases hln with rfl|⟨L,n,rfl,rfl|rfl|hn⟩
   ·simp[aj,g0,q1]
    refine(aC S F0 _).mono ?_
    rintro o h2 aH ⟨rfl,F2,k2⟩
    simp
    exact rest _ _ _ (by simp) (by simp) F2 k2
   ·simp[aj,g0,q1]
    refine(aC S F0 _).mono ?_
    rintro o h2 aH ⟨rfl,F2,k2⟩
    simp
    exact rest _ _ _ (by simp) (by simp) F2 k2
   ·simp[aj,g0,uC,q1]
    refine(aC S F0 _).mono ?_
    rintro o h2 aH ⟨rfl,F2,k2⟩
    simp
    exact rest _ _ _ (by simp) (by simp) F2 k2
   ·have hn0:¬ n=1:=by omega
    have VJ:((n:Int)==1)=false:=by simp;omega
    have Ro:¬ (n:Int)=1:=by omega
    have hn3:(1:Int)<n:=by omega
    simp[aj,g0,q1,VJ]
    refine(aC S F0 _).mono ?_
    rintro o h2 aH ⟨rfl,F2,k2⟩
    simp
    exact rest _ _ _ (by simp) (by simp) F2 k2
  ·rcases hln with rfl|⟨L,n,rfl,rfl|rfl|hn⟩
   ·simp[aj,g0,q1]
    refine(aC S F0 _).mono ?_
    rintro o h2 aH ⟨rfl,F2,k2⟩
    simp
    exact rest _ _ _ (by simp) (by simp) F2 k2
   ·simp[aj,g0,q1]
    refine(aC S F0 _).mono ?_
    rintro o h2 aH ⟨rfl,F2,k2⟩
    simp
    exact rest _ _ _ (by simp) (by simp) F2 k2
   ·simp[aj,g0,q1]
    refine(aC S F0 _).mono ?_
    rintro o h2 aH ⟨rfl,F2,k2⟩
    simp
    exact rest _ _ _ (by simp) (by simp) F2 k2
   ·have hn0:¬ n=1:=by omega
    have VJ:((n:Int)==1)=false:=by simp;omega
    have Ro:¬ (n:Int)=1:=by omega
    have hn3:(1:Int)<n:=by omega
    simp[aj,g0,q1,VJ,hn3]
    refine(aC S F0 _).mono ?_
    rintro o h2 aH ⟨rfl,F2,k2⟩
    simp
    exact rest _ _ _ (by simp) (by simp) F2 k2
 |false=>
  rcases hkd with hk|hk|rfl|rfl|rfl|rfl
  ·have hk2:¬ 3<kd:=by omega
   simp[aj,g0,q1,hk]
   refine(aC S F0 _).mono ?_
   rintro o h2 aH ⟨rfl,F2,k2⟩
   simp
   exact rest _ _ _ (by simp) (by simp) F2 k2
  ·have hk2:¬ kd<0:=by omega
   simp[aj,g0,q1,hk,hk2]
   refine(aC S F0 _).mono ?_
   rintro o h2 aH ⟨rfl,F2,k2⟩
   simp
   exact rest _ _ _ (by simp) (by simp) F2 k2
  ·rcases hln with rfl|⟨L,n,rfl,rfl|rfl|hn⟩
   ·simp[aj,g0,uC,q1]
    refine(aC S F0 _).mono ?_
    rintro o h2 aH ⟨rfl,F2,k2⟩
    simp
    exact rest _ _ _ (by simp) (by simp) F2 k2
   ·simp[aj,g0,uC,q1]
    refine(aC S F0 _).mono ?_
    rintro o h2 aH ⟨rfl,F2,k2⟩
    simp
    exact rest _ _ _ (by simp) (by simp) F2 k2
   ·simp[aj,g0,q1]
    refine(aC S F0 _).mono ?_
    rintro o h2 aH ⟨rfl,F2,k2⟩
    simp
    exact rest _ _ _ (by simp) (by simp) F2 k2
   ·have hn0:¬ n=1:=by omega
    have VJ:((n:Int)==1)=false:=by simp;omega
    have Ro:¬ (n:Int)=1:=by omega
    have hn3:(1:Int)<n:=by omega
    simp[aj,g0,q1,VJ,hn3]
    refine(aC S F0 _).mono ?_
    rintro o h2 aH ⟨rfl,F2,k2⟩
    simp
    exact rest _ _ _ (by simp) (by simp) F2 k2
  ·rcases hln with rfl|⟨L,n,rfl,rfl|rfl|hn⟩
   ·simp[aj,g0,uC,q1]
    refine(aC S F0 _).mono ?_
    rintro o h2 aH ⟨rfl,F2,k2⟩
    simp
    exact rest _ _ _ (by simp) (by simp) F2 k2
   ·simp[aj,g0,uC,q1]
    refine(aC S F0 _).mono ?_
    rintro o h2 aH ⟨rfl,F2,k2⟩
    simp
    exact rest _ _ _ (by simp) (by simp) F2 k2
   ·simp[aj,g0,q1]
    refine(aC S F0 _).mono ?_
    rintro o h2 aH ⟨rfl,F2,k2⟩
    simp
    exact rest _ _ _ (by simp) (by simp) F2 k2
   ·have hn0:¬ n=1:=by omega
    have VJ:((n:Int)==1)=false:=by simp;omega
    have Ro:¬ (n:Int)=1:=by omega
    have hn3:(1:Int)<n:=by omega
    simp[aj,g0,q1,VJ,hn3]
    refine(aC S F0 _).mono ?_
    rintro o h2 aH ⟨rfl,F2,k2⟩
    simp
    exact rest _ _ _ (by simp) (by simp) F2 k2
  ·rcases hln with rfl|⟨L,n,rfl,rfl|rfl|hn⟩
   ·simp[aj,g0,q1]
    refine(aC S F0 _).mono ?_
    rintro o h2 aH ⟨rfl,F2,k2⟩
    simp
    exact rest _ _ _ (by simp) (by simp) F2 k2
   ·simp[aj,g0,q1]
    refine(aC S F0 _).mono ?_
    rintro o h2 aH ⟨rfl,F2,k2⟩
    simp
    exact rest _ _ _ (by simp) (by simp) F2 k2
   ·simp[aj,g0,uC,q1]
    refine(aC S F0 _).mono ?_
    rintro o h2 aH ⟨rfl,F2,k2⟩
    simp
    exact rest _ _ _ (by simp) (by simp) F2 k2
   ·have hn0:¬ n=1:=by omega
    have VJ:((n:Int)==1)=false:=by simp;omega
    have Ro:¬ (n:Int)=1:=by omega
    have hn3:(1:Int)<n:=by omega
    simp[aj,g0,q1,VJ]
    refine(aC S F0 _).mono ?_
    rintro o h2 aH ⟨rfl,F2,k2⟩
    simp
    exact rest _ _ _ (by simp) (by simp) F2 k2
  ·rcases hln with rfl|⟨L,n,rfl,rfl|rfl|hn⟩
   ·simp[aj,g0,q1]
    refine(aC S F0 _).mono ?_
    rintro o h2 aH ⟨rfl,F2,k2⟩
    simp
    exact rest _ _ _ (by simp) (by simp) F2 k2
   ·simp[aj,g0,q1]
    refine(aC S F0 _).mono ?_
    rintro o h2 aH ⟨rfl,F2,k2⟩
    simp
    exact rest _ _ _ (by simp) (by simp) F2 k2
   ·simp[aj,g0,q1]
    refine(aC S F0 _).mono ?_
    rintro o h2 aH ⟨rfl,F2,k2⟩
    simp
    exact rest _ _ _ (by simp) (by simp) F2 k2
   ·have hn0:¬ n=1:=by omega
    have VJ:((n:Int)==1)=false:=by simp;omega
    have Ro:¬ (n:Int)=1:=by omega
    have hn3:(1:Int)<n:=by omega
    simp[aj,g0,q1,VJ,hn3]
    refine(aC S F0 _).mono ?_
    rintro o h2 aH ⟨rfl,F2,k2⟩
    simp
    exact rest _ _ _ (by simp) (by simp) F2 k2
end Tb
/-
 SQ: the reference's faults: whole types; zero values. No condition.
-/
namespace Tb
open Go.Sx Go
variable{C:cU}(S:dd C)
include S
theorem Zl{l:List AV}(ol:cJ W0 YG l){f:Key}{h:T ab}{nx:Key}(F:Fb f h nx):aO C cA [.ptr f 0,.agg l] h nx (yD f h nx):=by
 have q1:=S.HS
 have q2:=S.Dg
 have hl:l.length=3:=ol.len
 have hc:l.all AV.aD=true:=mi.2 ol.aU
 have hz:∀ n H,az (ax n) l H=(l,H):=fun n H=>av ol.bY
 have s0:=kTSu nx
 have Ui:nx≠f:=aG (by have:=F.hi;omega)
 have F0:=F.ext (E0 h nx (.cells l .fix))
 have K0:=(E0 h nx (.cells l .fix)).ks f
 refine S.TZ.call ?_
 simp[th]
 simp[CW]
 have g0:aa nx (aK nx (some (.cells l .fix)) h)=some (.cells l .fix):=by rw[gTSm]
 generalize aK nx (some (.cells l .fix)) h=Hb at F0 K0 g0 ⊢
 have rest:∀ (tm':T AV) (hx:T ab) (aF:Key),aa (K 0) tm'=some (.ptr f 0)→aa (K 3) tm'=some (.ptr nx 0)→Fb f hx aF→Ks f Hb nx.succ hx aF→
   eu C (aN [] (yD f h nx)) tO tm' hx aF:=by
  intro tm' hx aF e0 e3 Fx kx
  have gb:aa nx hx=some (.cells l .fix):=bH kx (by omega) Ui g0
  simp[tO,e0,e3,gb,hl,sh hl,hz,q2]
  refine(asZ S _ rfl ol Fx).mono ?_
  rintro o h2 aH ⟨rfl,F2,k2⟩
  simp
  exact⟨rfl,F2,K0.trans (kx.trans k2)⟩
 obtain⟨b0,b1,b2,b3,gf⟩:=F0.g
 cases b0 with
 |true=>
  simp[tN,gf]
  exact rest _ _ _ (by simp) (by simp) (F0.put _ _ _ _) (tw _ _ _ _)
 |false=>
  simp[tN,gf,g0,hl,sh hl,hz,q1]
  refine(aeq S _ rfl ol _ _).mono ?_
  rintro o h2 aH ⟨⟨w,rfl,ow⟩,x2⟩
  have F2:=F0.ext x2
  have gf2:aa f h2=some (.cells [.bool false,.bool b1,.bool b2,.bool b3] .fix):=by rw[x2.g f F0.hi];exact gf
  simp[gf2]
  exact rest _ _ _ (by simp) (by simp) (F2.put _ _ _ _) ((x2.ks f).trans (tw _ _ _ _))
def Uq(h:T ab)(nx:Key)(o:Out)(h':T ab)(nx':Key):Prop:=(∃ t:Bool,o=.ret (.bool t))∧Ext h nx h' nx'
theorem Tx{l:List AV}(ol:cJ W0 YG l)(h:T ab)(nx:Key):aO C mY [.agg l] h nx (Uq h nx):=by
 obtain⟨a,b,d,rfl,oa,ob,od⟩:=ty3 ol
 obtain⟨kd,rfl,_,_⟩:=sy oa
 obtain⟨sn,sc,rfl,sf⟩:=tK ob
 have x0:=E0 h nx (.cells [I kd,.str sn sc,d] .fix)
 refine S.Wg.call ?_
 simp[xj]
 simp[HG]
 obtain⟨te,uC⟩:∃ te,opS .eql sn sc 0 0=some (.bool te):=⟨_,rfl⟩
 have fin:∀ t:Bool,Uq h nx (.ret (.bool t)) (aK nx (some (.cells [I kd,.str sn sc,d] .fix)) h) nx.succ:=fun t=>⟨⟨t,rfl⟩,x0⟩
 rcases du kd 0 with⟨hk,cB⟩|⟨hk,cB⟩
 ·subst hk
  cases te with
  |false=>
   simp[lM,uC]
   exact fin _
  |true=>
   rcases dU od with rfl|⟨rs,rfl,_,_⟩
   ·simp[lM,uC]
    exact fin _
   ·generalize rs.flatten=L at fin
    simp[lM,uC]
    exact fin _
 ·simp[lM,cB]
  exact fin _
end Tb
/-
 SQ: the reference's faults: plain expressions, ranks. No condition.
-/
namespace Tb
open Go.Sx Go
theorem Ty{k z:Nat}{c:AV}(hz:(W0 k).length=z)(h:dg W0 (.sl k) c):c=.nils∨∃ L n,c=.sl L n z .any∧((n:Int)=0∧((n:Int)==0)=true∨¬ (n:Int)=0∧((n:Int)==0)=false):=by
 subst hz
 rcases dU h with rfl|⟨rs,rfl,_,_⟩
 ·exact .inl rfl
 ·refine .inr ⟨_,_,rfl,?_⟩
  rcases du rs.length 0 with h|h
  ·exact .inl h
  ·exact .inr h
variable{C:cU}(S:dd C)
include S
theorem vV{l:List AV}(ol:cJ W0 sj l)(n1 n2 n3:Bool)(h:T ab)(nx:Key):aO C cL [.agg l,.bool n1,.bool n2,.bool n3] h nx (Uq h nx):=by
 obtain⟨a,b,c,d,e,f,g,rfl,oa,ob,oc,od,oe,of,og⟩:=ex7 ol
 obtain⟨sn,sc,rfl,sf⟩:=tK ob
 obtain⟨kn,rfl,_,_⟩:=sy oc
 have x0:=E0 h nx (.cells [a,.str sn sc,I kn,d,e,f,g] .fix)
 have g0:aa nx (aK nx (some (.cells [a,.str sn sc,I kn,d,e,f,g] .fix)) h)=some (.cells [a,.str sn sc,I kn,d,e,f,g] .fix):=by rw[gTSm]
 refine S.aao.call ?_
 simp[GP]
 simp[OV]
 obtain⟨te,uC⟩:∃ te,opS .eql sn sc 0 0=some (.bool te):=⟨_,rfl⟩
 have Ur:=du kn 0
 have hd:=Ty (z:=1) rfl od
 have he:=Ty (z:=1) rfl oe
 clear od oe ol
 generalize aK nx (some (.cells [a,.str sn sc,I kn,d,e,f,g] .fix)) h=Hb at x0 g0 ⊢
 have fin:∀ t:Bool,Uq h nx (.ret (.bool t)) Hb nx.succ:=fun t=>⟨⟨t,rfl⟩,x0⟩
 -- name
 by_cases VJ:(n1||te)=true
 ·by_cases Ro:(n2||(kn==0))=true
  ·cases n3 with
   |true=>
    cases n1<;>cases te<;>cases n2<;>rcases Ur with⟨hk,cB⟩|⟨hk,cB⟩<;>simp[cB] at VJ Ro<;>(simp[jJ,g0,uC,hk];exact fin _)
   |false=>
    rcases hd with rfl|⟨L,n,rfl,⟨hl,hlb⟩|⟨hl,hlb⟩⟩
    ·rcases he with rfl|⟨L2,n',rfl,⟨Sa,aqx⟩|⟨Sa,aqx⟩⟩<;>
     cases n1<;>cases te<;>cases n2<;>rcases Ur with⟨hk,cB⟩|⟨hk,cB⟩<;>simp[cB] at VJ Ro<;>(simp_all [jJ]<;>exact⟨⟨_,rfl⟩,x0⟩)
    ·rcases he with rfl|⟨L2,n',rfl,⟨Sa,aqx⟩|⟨Sa,aqx⟩⟩<;>
     cases n1<;>cases te<;>cases n2<;>rcases Ur with⟨hk,cB⟩|⟨hk,cB⟩<;>simp[cB] at VJ Ro<;>(simp_all [jJ]<;>exact⟨⟨_,rfl⟩,x0⟩)
    ·cases n1<;>cases te<;>cases n2<;>rcases Ur with⟨hk,cB⟩|⟨hk,cB⟩<;>simp[cB] at VJ Ro<;>(simp[jJ,g0,uC,hk,hlb];exact fin _)
  ·have e1:n2=false:=by cases n2<;>simp at Ro ⊢
   subst e1
   rcases Ur with⟨hk,cB⟩|⟨hk,cB⟩
   ·simp[cB] at Ro
   ·cases n1<;>cases te<;>simp at VJ<;>(simp[jJ,g0,uC,cB];exact fin _)
 ·have e1:n1=false:=by cases n1<;>simp at VJ ⊢
  subst e1
  have e2:te=false:=by cases te<;>simp at VJ ⊢
  subst e2
  simp[jJ,g0,uC]
  exact fin _
end Tb
/-
 SQ: the reference's faults: ranks; zero expressions and generators. No condition.
-/
namespace Tb
open Go.Sx Go
variable{C:cU}(S:dd C)
include S
theorem avQ(a b:Nat)(h:T ab)(nx:Key):aO C vl [.nils,.str a b] h nx (Uq h nx):=by
 refine S.Za.call ?_
 simp[QI]
 simp[QE]
 simp[QF]
 refine W.bV (n:=0) (fun k tm' h' nx'=>aa (K 0) tm'=some .nils∧aa (K 5) tm'=some (I 0)∧h'=h∧nx'=nx) ?_ ?_
 ·exact⟨by simp,by simp,rfl,rfl⟩
 rintro k jk h1 aY ⟨f0,f5,rfl,rfl⟩
 refine W.of ?_
 simp[QG]
 simp[HE,f0,f5]
 simp[QH]
 exact⟨⟨_,rfl⟩,Ext.refl _ _⟩
def aky(n c:Nat)(h:T ab)(nx:Key)(k:Nat)(tm':T AV)(h':T ab)(nx':Key):Prop:=
 ∃ (i:Nat),k=7-i∧1≤i∧i≤7∧aa (K 0) tm'=some (.str n c)∧aa (K 3) tm'=some (I i)∧Ext h nx h' nx'
theorem arE(n c:Nat)(h:T ab)(nx:Key):aO C DM [.str n c] h nx (afO h nx):=by
 have q1:=S.GL
 have q2:=S.TN
 refine S.acw.call ?_
 simp[LP]
 simp[SE]
 simp[SG]
 refine W.bV (n:=6) (aky n c h nx) ?_ ?_
 ·exact⟨1,by omega,by omega,by omega,by simp,by simp,Ext.refl _ _⟩
 rintro k jk h1 aY ⟨i,rfl,hi1,hi,f0,f3,x1⟩
 refine W.of ?_
 simp[SJ]
 by_cases aM:i<7
 ·have aX:(i:Int)<7:=by omega
  have hw:=jH aM (by omega)
  simp[Iq,f3,aX]
  simp[SH,f3,q1]
  refine(Wu S _ _ _).mono ?_
  rintro o h2 aH ⟨⟨cc,rfl,L,hc,hL,_⟩,x2⟩
  rcases hc with⟨rfl,rfl⟩|rfl
  ·simp[f0,q2]
   refine(avQ S _ _ _ _).mono ?_
   rintro o h3 dw ⟨⟨t,rfl⟩,x3⟩
   have xx:=(x1.trans x2).trans x3
   cases t with
   |true=>
    simp
    simp[Ir,f3]
    exact⟨⟨_,rfl,ok_int (by omega) (by omega)⟩,xx⟩
   |false=>
    simp
    simp[Is,f3]
    refine⟨7-(i+1),by omega,?_⟩
    unfold aky
    exact⟨i+1,rfl,by omega,by omega,by simp[f0],by simp[hw],xx⟩
  ·have iZ:∀ x∈L.map (fun x=>AV.str x.1 x.2),∃ a b,x=.str a b:=by
    intro x hx;obtain⟨y,_,rfl⟩:=Vn.1 hx;exact⟨_,_,rfl⟩
   have hlen:(L.map (fun x=>AV.str x.1 x.2)).length=L.length:=by simp
   generalize L.map (fun x=>AV.str x.1 x.2)=L2 at iZ hlen
   simp[f0,q2]
   refine(ary S hlen (by omega) iZ n c _ _).mono ?_
   rintro o h3 dw ⟨⟨t,rfl⟩,x3⟩
   have xx:=(x1.trans x2).trans x3
   cases t with
   |true=>
    simp
    simp[Ir,f3]
    exact⟨⟨_,rfl,ok_int (by omega) (by omega)⟩,xx⟩
   |false=>
    simp
    simp[Is,f3]
    refine⟨7-(i+1),by omega,?_⟩
    unfold aky
    exact⟨i+1,rfl,by omega,by omega,by simp[f0],by simp[hw],xx⟩
 ·have aX:¬ (i:Int)<7:=by omega
  obtain⟨te,uC⟩:∃ te,opS .eql n c 3 7630702=some (.bool te):=⟨_,rfl⟩
  simp[Iq,f3,aX]
  cases te with
  |true=>
   simp[It,f0,uC]
   simp[SK]
   exact⟨⟨_,rfl,ok_int (by omega) (by omega)⟩,x1⟩
  |false=>
   simp[It,f0,uC]
   simp[SM]
   exact⟨⟨_,rfl,ok_int (by omega) (by omega)⟩,x1⟩
end Tb
/-
 SQ: the reference's faults: zero expressions and generators; parameters. No condition.
-/
namespace Tb
open Go.Sx Go
variable{C:cU}(S:dd C)
include S
theorem Lu{l:List AV}(ol:cJ W0 sj l)(h:T ab)(nx:Key):aO C jw [.agg l] h nx (Uq h nx):=by
 have q1:=S.dL
 have ol2:=ol
 have hl:l.length=7:=ol.len
 have hc:l.all AV.aD=true:=mi.2 ol.aU
 have hz:∀ n H,az (ax n) l H=(l,H):=fun n H=>av ol.bY
 obtain⟨a,b,c,d,e,f,g,rfl,oa,ob,oc,od,oe,of,og⟩:=ex7 ol
 obtain⟨kd,rfl,_,_⟩:=sy oa
 have x0:=E0 h nx (.cells [I kd,b,c,d,e,f,g] .fix)
 have g0:aa nx (aK nx (some (.cells [I kd,b,c,d,e,f,g] .fix)) h)=some (.cells [I kd,b,c,d,e,f,g] .fix):=by rw[gTSm]
 refine S.Wf.call ?_
 simp[xk]
 simp[HH]
 generalize aK nx (some (.cells [I kd,b,c,d,e,f,g] .fix)) h=Hb at x0 g0 ⊢
 have hz1:∀ n H,ax n b H=(b,H):=ob.jh
 have hz2:∀ n H,ax n c H=(c,H):=oc.jh
 have WT:∀ n H,ax n d H=(d,H):=od.jh
 have Vu:∀ n H,ax n e H=(e,H):=oe.jh
 have hz5:∀ n H,ax n f H=(f,H):=of.jh
 have ZD:∀ n H,ax n g H=(g,H):=og.jh
 have fin:∀ t:Bool,Uq h nx (.ret (.bool t)) Hb nx.succ:=fun t=>⟨⟨t,rfl⟩,x0⟩
 have vL:=vV S ol2 false false false Hb nx.succ
 rcases du kd 0 with⟨hk,cB⟩|⟨hk,cB⟩
 ·subst hk
  rcases Ty (z:=7) rfl of with rfl|⟨L,n,rfl,⟨hl,hlb⟩|⟨hl,hlb⟩⟩
  ·simp[lN,g0,q1,hz1,hz2,WT,Vu,ZD]
   refine vL.mono ?_
   rintro o h2 aH ⟨⟨t,rfl⟩,x2⟩
   simp
   exact⟨⟨t,rfl⟩,x0.trans x2⟩
  ·have hn:n=0:=by omega
   subst hn
   simp[lN,g0,q1,hz1,hz2,WT,Vu,hz5,ZD]
   refine vL.mono ?_
   rintro o h2 aH ⟨⟨t,rfl⟩,x2⟩
   simp
   exact⟨⟨t,rfl⟩,x0.trans x2⟩
  ·simp[lN,g0,hlb]
   exact fin _
 ·simp[lN,g0,cB]
  exact fin _
theorem abg{l:List AV}(ol:cJ W0 RZ l)(h:T ab)(nx:Key):aO C py [.agg l] h nx (Uq h nx):=by
 obtain⟨a,b,c,d,e,f,rfl,oa,ob,oc,od,oe,of⟩:=gn6 ol
 obtain⟨kd,rfl,_,_⟩:=sy oa
 obtain⟨sn,sc,rfl,sf⟩:=tK ob
 have x0:=E0 h nx (.cells [I kd,.str sn sc,c,d,e,f] .fix)
 have g0:aa nx (aK nx (some (.cells [I kd,.str sn sc,c,d,e,f] .fix)) h)=some (.cells [I kd,.str sn sc,c,d,e,f] .fix):=by rw[gTSm]
 refine S.Xv.call ?_
 simp[AJ]
 simp[KL]
 generalize aK nx (some (.cells [I kd,.str sn sc,c,d,e,f] .fix)) h=Hb at x0 g0 ⊢
 obtain⟨te,uC⟩:∃ te,opS .eql sn sc 0 0=some (.bool te):=⟨_,rfl⟩
 have fin:∀ t:Bool,Uq h nx (.ret (.bool t)) Hb nx.succ:=fun t=>⟨⟨t,rfl⟩,x0⟩
 have hc:=Ty (z:=1) rfl oc
 have hd:=Ty (z:=7) rfl od
 have he:=Ty (z:=6) rfl oe
 clear oc od oe ol
 rcases du kd 0 with⟨hk,cB⟩|⟨hk,cB⟩
 ·subst hk
  cases te with
  |false=>
   simp[bu,g0,uC]
   exact fin _
  |true=>
   rcases hc with rfl|⟨L,n,rfl,⟨h1,SQ⟩|⟨h1,SQ⟩⟩
   ·rcases hd with rfl|⟨L2,n2,rfl,⟨h2,Vt⟩|⟨h2,Vt⟩⟩
    ·rcases he with rfl|⟨L3,n3,rfl,⟨h3,h3b⟩|⟨h3,h3b⟩⟩
     ·simp[bu,g0,uC];exact fin _
     ·simp[bu,g0,uC,h3];exact fin _
     ·simp[bu,g0,uC,h3b];exact fin _
    ·rcases he with rfl|⟨L3,n3,rfl,⟨h3,h3b⟩|⟨h3,h3b⟩⟩
     ·simp[bu,g0,uC,h2];exact fin _
     ·simp[bu,g0,uC,h2,h3];exact fin _
     ·simp[bu,g0,uC,h2,h3b];exact fin _
    ·simp[bu,g0,uC,Vt];exact fin _
   ·rcases hd with rfl|⟨L2,n2,rfl,⟨h2,Vt⟩|⟨h2,Vt⟩⟩
    ·rcases he with rfl|⟨L3,n3,rfl,⟨h3,h3b⟩|⟨h3,h3b⟩⟩
     ·simp[bu,g0,uC,h1];exact fin _
     ·simp[bu,g0,uC,h1,h3];exact fin _
     ·simp[bu,g0,uC,h1,h3b];exact fin _
    ·rcases he with rfl|⟨L3,n3,rfl,⟨h3,h3b⟩|⟨h3,h3b⟩⟩
     ·simp[bu,g0,uC,h1,h2];exact fin _
     ·simp[bu,g0,uC,h1,h2,h3];exact fin _
     ·simp[bu,g0,uC,h1,h2,h3b];exact fin _
    ·simp[bu,g0,uC,h1,Vt];exact fin _
   ·simp[bu,g0,uC,SQ];exact fin _
 ·simp[bu,g0,cB]
  exact fin _
end Tb
/-
 SQ: the reference's faults: parameters. No condition.
-/
namespace Tb
open Go.Sx Go
theorem pm4{l:List AV}(h:cJ W0 (.str ::YG) l):∃ sn sc t,l=.str sn sc ::t∧sn≤10000∧cJ W0 YG t∧t.length=3:=by
 cases h with
 |cons _ _ c1 _ h1 h=>
  obtain⟨sn,sc,rfl,hn⟩:=tK h1
  exact⟨sn,sc,_,rfl,hn,h,h.len⟩
variable{C:cU}(S:dd C)
include S
def agP(f:Key)(c:AV)(h:T ab)(nx:Key)(n:Nat)(k:Nat)(tm':T AV)(h':T ab)(nx':Key):Prop:=
 ∃ (i:Nat),k=n-i∧i≤n∧aa (K 0) tm'=some (.ptr f 0)∧aa (K 1) tm'=some c∧aa (K 4) tm'=some (I i)∧Fb f h' nx'∧Ks f h nx h' nx'
theorem Zk{c:AV}(oc:dg W0 (.sl 6) c){f:Key}{h:T ab}{nx:Key}(F:Fb f h nx):aO C et [.ptr f 0,c] h nx (yD f h nx):=by
 have q1:=S.aq
 have q2:=S.ar
 have q3:=S.eL
 have loop:∀ (tm':T AV) (hx:T ab) (aF:Key),aa (K 0) tm'=some (.ptr f 0)→aa (K 1) tm'=some c→Fb f hx aF→Ks f h nx hx aF→
   bt C ((U.ops nV).seq (U.block 0 (U.loop nW))) (aN [] (yD f h nx)) tm' hx aF:=by
  intro tm' hx aF e0 e1 Fx kx
  simp
  simp[nV]
  refine W.bV (n:=bP c) (agP f c h nx (bP c)) ?_ ?_
  ·exact⟨0,by omega,by omega,by simp[e0],by simp[e1],by simp,Fx,kx⟩
  clear e0 e1
  rintro k jk h1 aY ⟨i,rfl,hi,f0,f1,f4,F1,k1⟩
  refine W.of ?_
  simp[nW]
  rcases dU oc with rfl|⟨rs,rfl,kQ,jG⟩
  ·have BC:i=0:=by simp[bP] at hi;omega
   subst BC
   simp[jn,f1,f4]
   exact⟨rfl,F1,k1⟩
  ·simp[bP] at hi ⊢
   by_cases aM:i<rs.length
   ·have aX:(i:Int)<rs.length:=by omega
    have hw:=jH aM kQ
    obtain⟨r,hr,er,h3,lX,se,hz⟩:=kR (z:=4) rfl jG aM
    obtain⟨sn,sc,t,rfl,sf,ot,ht⟩:=pm4 lX
    have ez:(W0 6).length=4:=rfl
    have hzt:∀ n H,az (ax n) t H=(t,H):=fun n H=>av ot.bY
    simp only[ez] at f1 ⊢
    generalize rs.flatten=L at f1 er h3 ⊢
    simp[jn,f1,f4,aX]
    simp[xf,f0,f1,f4,aM,h3,er,q2]
    refine(iS S F1 sf 0).mono ?_
    rintro o h2 aH ⟨rfl,F2,k2⟩
    simp
    simp[xg,f0,f1,f4,aM,h3,er,ht,sh ht,hzt,q3]
    refine(Zl S ot F2).mono ?_
    rintro o h4 jq ⟨rfl,F4,k4⟩
    simp
    simp[xh,f4]
    refine⟨rs.length-(i+1),by omega,?_⟩
    unfold agP
    exact⟨i+1,rfl,by omega,by simp[f0],by simp[f1],by simp[hw],F4,(k1.trans k2).trans k4⟩
   ·have aX:¬ (i:Int)<rs.length:=by omega
    generalize rs.flatten=L at f1
    simp[jn,f1,f4,aX]
    exact⟨rfl,F1,k1⟩
 simp at loop
 refine S.Oe.call ?_
 simp[mI]
 rcases dU oc with rfl|⟨rs,rfl,kQ,jG⟩
 ·simp[nU,q1]
  refine(gV S F _).mono ?_
  rintro o h2 aH ⟨rfl,F2,k2⟩
  simp
  refine loop _ _ _ ?_ ?_ F2 k2<;>simp
 ·generalize rs.flatten=L at loop ⊢
  simp[nU,q1]
  refine(gV S F _).mono ?_
  rintro o h2 aH ⟨rfl,F2,k2⟩
  simp
  refine loop _ _ _ ?_ ?_ F2 k2<;>simp
end Tb
/-
 SQ: the reference's faults: expressions: the loops. No condition.
-/
namespace Tb
open Go.Sx Go
structure Xe(f b:Key)(l:List AV)(n:Nat)(Hb:T ab)(nb:Key)(tm:T AV)(h:T ab)(nx:Key):Prop where
 e0:aa (K 0) tm=some (.ptr f 0)
 e3:aa (K 3) tm=some (.ptr b 0)
 e4:aa (K 4) tm=some (I n)
 F:Fb f h nx
 k:Ks f Hb nb h nx
 g:aa b h=some (.cells l .fix)
 hb:b.toNat<nx.toNat
 ne:b≠f
theorem Xe.call{f b:Key}{l:List AV}{n:Nat}{Hb h h':T ab}{nb nx nx':Key}{tm tm':T AV}(X:Xe f b l n Hb nb tm h nx)(F:Fb f h' nx')(k:Ks f h nx h' nx')(e0:aa (K 0) tm'=aa (K 0) tm:=by simp)(e3:aa (K 3) tm'=aa (K 3) tm:=by simp)(e4:aa (K 4) tm'=aa (K 4) tm:=by simp):Xe f b l n Hb nb tm' h' nx':=
 ⟨e0.trans X.e0,e3.trans X.e3,e4.trans X.e4,F,X.k.trans k,bH k X.hb X.ne X.g,by have:=X.hb;have:=k.n;omega,X.ne⟩
theorem Xe.aQ{f b:Key}{l:List AV}{n:Nat}{Hb h:T ab}{nb nx:Key}{tm tm':T AV}(X:Xe f b l n Hb nb tm h nx)(e0:aa (K 0) tm'=aa (K 0) tm:=by simp)(e3:aa (K 3) tm'=aa (K 3) tm:=by simp)(e4:aa (K 4) tm'=aa (K 4) tm:=by simp):Xe f b l n Hb nb tm' h nx:=
 ⟨e0.trans X.e0,e3.trans X.e3,e4.trans X.e4,X.F,X.k,X.g,X.hb,X.ne⟩
def UW(s:Nat)(f b:Key)(l:List AV)(n:Nat)(Hb:T ab)(nb:Key)(m:Nat)(k:Nat)(tm':T AV)(h':T ab)(nx':Key):Prop:=
 ∃ (i:Nat),k=m-i∧i≤m∧aa (K s) tm'=some (I i)∧Xe f b l n Hb nb tm' h' nx'
variable{C:cU}(S:dd C)
include S
variable{f b:Key}{a0 a1 a2 d e k7 g7:AV}{n:Nat}{Hb h h':T ab}{nb nx nx':Key}{tm:T AV}
theorem amC(of:dg W0 (.sl 4) k7)(hn:n=bP k7)(ih:∀ r:List AV,cJ W0 sj r→sizeOf r<sizeOf [a0,a1,a2,d,e,k7,g7]→∀ {h:T ab} {nx:Key},Fb f h nx→aO C dV [.ptr f 0,.agg r] h nx (yD f h nx))
  (kb:Ks f h nx Hb nb) (X:Xe f b [a0,a1,a2,d,e,k7,g7] n Hb nb tm h' nx') :
  bt C ((U.ops gk).seq (U.block 7 (U.loop ir))) (aN [] (yD f h nx)) tm h' nx':=by
 have q1:=S.tW
 simp
 simp[gk]
 refine W.bV (n:=n) (UW 9 f b [a0,a1,a2,d,e,k7,g7] n Hb nb n) ?_ ?_
 ·exact⟨0,by omega,by omega,by simp,X.aQ (by simp) (by simp) (by simp)⟩
 clear X
 rintro k jk h1 aY ⟨i,rfl,hi,f9,X⟩
 refine W.of ?_
 have e0:=X.e0
 have e3:=X.e3
 have e4:=X.e4
 have g:=X.g
 simp[ir]
 by_cases aM:i<n
 ·have aX:(i:Int)<n:=by omega
  rcases dU of with rfl|⟨rs,rfl,kQ,jG⟩
  ·simp[bP] at hn;omega
  ·simp[bP] at hn
   subst hn
   have hw:=jH aM kQ
   obtain⟨r,hr,er,h3,lX,se,hz⟩:=kR (z:=7) rfl jG aM
   have tF:=UO (rs:=rs) (n:=rs.length) (z:=(W0 4).length) (f:=.any) (l:=[a0,a1,a2,d,e,.sl rs.flatten rs.length (W0 4).length .any,g7]) (by simp) hr
   have ua:=ih r lX tF X.F
   have ez:(W0 4).length=7:=rfl
   simp only[ez] at g X ⊢
   clear ih tF of
   generalize rs.flatten=L at g er h3 X ⊢
   simp[qz,f9,e4,aX]
   simp[yp,e0,e3,f9,g,aM,h3,er,se,sh se,hz,q1]
   refine ua.mono ?_
   rintro o h2 aH ⟨rfl,F2,k2⟩
   simp
   simp[yq,f9]
   refine⟨rs.length-(i+1),by omega,?_⟩
   unfold UW
   exact⟨i+1,rfl,by omega,by simp[hw],X.call F2 k2 (by simp) (by simp) (by simp)⟩
 ·have aX:¬ (i:Int)<n:=by omega
  simp[qz,f9,e4,aX]
  exact⟨rfl,X.F,kb.trans X.k⟩
theorem akT(od:dg W0 (.sl 0) d){P R:T AV→T ab→Key→Prop}{Q:bp}(cont:∀ tm' hx aF,Xe f b [a0,a1,a2,d,e,k7,g7] n Hb nb tm' hx aF→P tm' hx aF)(X:Xe f b [a0,a1,a2,d,e,k7,g7] n Hb nb tm h' nx') :
  bt C ((U.ops dj).seq (U.block 1 (U.loop dz))) (ak P Q) tm h' nx':=by
 have q1:=S.ar
 simp
 simp[dj]
 refine W.bV (n:=bP d) (UW 5 f b [a0,a1,a2,d,e,k7,g7] n Hb nb (bP d)) ?_ ?_
 ·exact⟨0,by omega,by omega,by simp,X.aQ (by simp) (by simp) (by simp)⟩
 clear X
 rintro k jk h1 aY ⟨i,rfl,hi,f5,X⟩
 refine W.of ?_
 have e0:=X.e0
 have e3:=X.e3
 have g:=X.g
 simp[dz]
 rcases dU od with rfl|⟨rs,rfl,kQ,jG⟩
 ·have BC:i=0:=by simp[bP] at hi;omega
  subst BC
  simp[kL,f5,e3,g]
  exact cont _ _ _ (X.aQ)
 ·simp[bP] at hi ⊢
  have ez:(W0 0).length=1:=rfl
  simp only[ez] at g X cont ⊢
  by_cases aM:i<rs.length
  ·have aX:(i:Int)<rs.length:=by omega
   have hw:=jH aM kQ
   obtain⟨r,hr,er,h3,lX,se,hz⟩:=kR (z:=1) rfl jG aM
   obtain⟨sn,sc,rfl,sf⟩:∃ sn sc,r=[.str sn sc]∧sn≤10000:=by
    cases lX with
    |cons _ _ c _ h1 h2=>
     cases h2
     obtain⟨sn,sc,rfl,hn⟩:=tK h1
     exact⟨sn,sc,rfl,hn⟩
   clear cont
   rw[Nat.mul_one] at er h3
   generalize rs.flatten=L at g er h3 X ⊢
   simp[kL,f5,e3,g,aX]
   simp[yl,e0,e3,f5,g,aM,h3,er,q1]
   refine(iS S X.F sf 1).mono ?_
   rintro o h2 aH ⟨rfl,F2,k2⟩
   simp
   simp[ym,f5]
   refine⟨rs.length-(i+1),by omega,?_⟩
   unfold UW
   exact⟨i+1,rfl,by omega,by simp[hw],X.call F2 k2 (by simp) (by simp) (by simp)⟩
  ·have aX:¬ (i:Int)<rs.length:=by omega
   generalize rs.flatten=L at g X cont
   simp[kL,f5,e3,g,aX]
   exact cont _ _ _ (X.aQ)
end Tb
/-
 SQ: the reference's faults: expressions: the bound names. No condition.
-/
namespace Tb
open Go.Sx Go
theorem one_cell{t:CT}{r:List AV}(h:cJ W0 [t] r):∃ c,r=[c]∧dg W0 t c:=by
 cases h with
 |cons _ _ c _ h1 h2=>cases h2;exact⟨c,rfl,h1⟩
def apg(f b:Key)(l:List AV)(n:Nat)(Hb:T ab)(nb:Key)(i m:Nat)(k:Nat)(tm':T AV)(h':T ab)(nx':Key):Prop:=
 ∃ (j:Nat),k=m-j∧j≤m∧aa (K 6) tm'=some (I i)∧aa (K 7) tm'=some (I j)∧Xe f b l n Hb nb tm' h' nx'
variable{C:cU}(S:dd C)
include S
variable{f b:Key}{a0 a1 a2 d e k7 g7:AV}{n:Nat}{Hb h h':T ab}{nb nx nx':Key}{tm:T AV}
theorem ahj{L:List AV}{m i:Nat}{c:AV}(aM:i<m)(hm:m≤100000)(h3:1≤L.length-i)(er:List.take 1 (List.drop i L)=[c])(oc:dg W0 (.sl 0) c){P R:T AV→T ab→Key→Prop}{Q:bp}
  (cont:∀ tm' hx aF,aa (K 6) tm'=some (I i)→Xe f b [a0,a1,a2,d,.sl L m 1 .any,k7,g7] n Hb nb tm' hx aF→P tm' hx aF) (f6:aa (K 6) tm=some (I i)) (X:Xe f b [a0,a1,a2,d,.sl L m 1 .any,k7,g7] n Hb nb tm h' nx') :
  bt C ((U.ops qy).seq (U.block 5 (U.loop rU))) (ai 4 (ak P Q)) tm h' nx':=by
 have q1:=S.ar
 have aX:(i:Int)<m:=by omega
 simp
 simp[qy]
 refine W.bV (n:=bP c) (apg f b [a0,a1,a2,d,.sl L m 1 .any,k7,g7] n Hb nb i (bP c)) ?_ ?_
 ·exact⟨0,by omega,by omega,by simp[f6],by simp,X.aQ (by simp) (by simp) (by simp)⟩
 clear X f6
 rintro k jk h1 aY ⟨j,rfl,hj,f6,f7,X⟩
 refine W.of ?_
 have e0:=X.e0
 have e3:=X.e3
 have g:=X.g
 simp[rU]
 rcases dU oc with rfl|⟨rs,rfl,kQ,jG⟩
 ·have hj0:j=0:=by simp[bP] at hj;omega
  subst hj0
  simp[kN,f6,f7,e3,g,aM,h3,er]
  exact cont _ _ _ (by simp[f6]) (X.aQ)
 ·simp[bP] at hj ⊢
  have ez:(W0 0).length=1:=rfl
  simp only[ez] at er
  by_cases Sa:j<rs.length
  ·have aso:(j:Int)<rs.length:=by omega
   have hw:=jH Sa kQ
   obtain⟨r,hr,er2,h32,lX,se,hz⟩:=kR (z:=1) rfl jG Sa
   obtain⟨c0,rfl,oc0⟩:=one_cell lX
   obtain⟨sn,sc,rfl,sf⟩:=tK oc0
   clear cont
   rw[Nat.mul_one] at er2 h32
   generalize rs.flatten=L2 at er er2 h32
   simp[kN,f6,f7,e3,g,aM,h3,er,aso]
   simp[yn,e0,e3,f6,f7,g,aM,h3,er,Sa,h32,er2,q1]
   refine(iS S X.F sf 0).mono ?_
   rintro o h2 aH ⟨rfl,F2,k2⟩
   simp
   simp[yo,f7]
   refine⟨rs.length-(j+1),by omega,?_⟩
   unfold apg
   exact⟨j+1,rfl,by omega,by simp[f6],by simp[hw],X.call F2 k2 (by simp) (by simp) (by simp)⟩
  ·have aso:¬ (j:Int)<rs.length:=by omega
   generalize rs.flatten=L2 at er
   simp[kN,f6,f7,e3,g,aM,h3,er,aso]
   exact cont _ _ _ (by simp[f6]) (X.aQ)
theorem akS(oe:dg W0 (.sl 2) e){P R:T AV→T ab→Key→Prop}{Q:bp}(cont:∀ tm' hx aF,Xe f b [a0,a1,a2,d,e,k7,g7] n Hb nb tm' hx aF→P tm' hx aF)(X:Xe f b [a0,a1,a2,d,e,k7,g7] n Hb nb tm h' nx') :
  bt C ((U.ops cD).seq (U.block 3 (U.loop cP))) (ai 0 (ak P Q)) tm h' nx':=by
 have q1:=S.aq
 simp
 simp[cD]
 refine W.bV (n:=bP e) (UW 6 f b [a0,a1,a2,d,e,k7,g7] n Hb nb (bP e)) ?_ ?_
 ·exact⟨0,by omega,by omega,by simp,X.aQ (by simp) (by simp) (by simp)⟩
 clear X
 rintro k jk h1 aY ⟨i,rfl,hi,f6,X⟩
 refine W.of ?_
 have e0:=X.e0
 have e3:=X.e3
 have g:=X.g
 simp[cP]
 rcases dU oe with rfl|⟨rs,rfl,kQ,jG⟩
 ·have BC:i=0:=by simp[bP] at hi;omega
  subst BC
  simp[kM,f6,e3,g]
  exact cont _ _ _ (X.aQ)
 ·simp[bP] at hi ⊢
  have ez:(W0 2).length=1:=rfl
  simp only[ez] at g X cont ⊢
  by_cases aM:i<rs.length
  ·have aX:(i:Int)<rs.length:=by omega
   have hw:=jH aM kQ
   obtain⟨r,hr,er,h3,lX,se,hz⟩:=kR (z:=1) rfl jG aM
   obtain⟨c,rfl,oc⟩:=one_cell lX
   clear cont
   rw[Nat.mul_one] at er h3
   generalize rs.flatten=L at g er h3 X ⊢
   simp[kM,f6,e3,g,aX]
   have oc':=oc
   rcases dU oc with rfl|⟨rs2,rfl,aMQ,aMR⟩
   ·simp[qx,e0,e3,f6,g,aM,h3,er,q1]
    refine(gV S X.F _).mono ?_
    rintro o h2 aH ⟨rfl,F2,k2⟩
    simp
    have X2:∀ tm',aa (K 0) tm'=aa (K 0) jk→aa (K 3) tm'=aa (K 3) jk→aa (K 4) tm'=aa (K 4) jk→Xe f b [a0,a1,a2,d,.sl L rs.length 1 .any,k7,g7] n Hb nb tm' h2 aH:=fun tm' a b c=>X.call F2 k2 a b c
    refine ahj S (P:=fun tm hx aF=>bt C (U.ops gT) (ak (fun tm h nx=>∃ m,m<rs.length-i∧UW 6 f b [a0,a1,a2,d,AV.sl L rs.length 1 SF.any,k7,g7] n Hb nb rs.length m tm h nx) (ai 3 (ai 0 (ak P Q)))) tm hx aF) (R:=fun _ _ _=>True) aM kQ h3 er oc' ?_ (by simp[f6]) (X2 _ (by simp) (by simp) (by simp))
    intro tm' hx aF g6 X3
    simp[gT,g6]
    refine⟨rs.length-(i+1),by omega,?_⟩
    unfold UW
    exact⟨i+1,rfl,by omega,by simp[hw],X3.aQ (by simp) (by simp) (by simp)⟩
   ·simp[qx,e0,e3,f6,g,aM,h3,er,q1]
    refine(gV S X.F _).mono ?_
    rintro o h2 aH ⟨rfl,F2,k2⟩
    simp
    have X2:∀ tm',aa (K 0) tm'=aa (K 0) jk→aa (K 3) tm'=aa (K 3) jk→aa (K 4) tm'=aa (K 4) jk→Xe f b [a0,a1,a2,d,.sl L rs.length 1 .any,k7,g7] n Hb nb tm' h2 aH:=fun tm' a b c=>X.call F2 k2 a b c
    refine ahj S (P:=fun tm hx aF=>bt C (U.ops gT) (ak (fun tm h nx=>∃ m,m<rs.length-i∧UW 6 f b [a0,a1,a2,d,AV.sl L rs.length 1 SF.any,k7,g7] n Hb nb rs.length m tm h nx) (ai 3 (ai 0 (ak P Q)))) tm hx aF) (R:=fun _ _ _=>True) aM kQ h3 er oc' ?_ (by simp[f6]) (X2 _ (by simp) (by simp) (by simp))
    intro tm' hx aF g6 X3
    simp[gT,g6]
    refine⟨rs.length-(i+1),by omega,?_⟩
    unfold UW
    exact⟨i+1,rfl,by omega,by simp[hw],X3.aQ (by simp) (by simp) (by simp)⟩
  ·have aX:¬ (i:Int)<rs.length:=by omega
   generalize rs.flatten=L at g X cont
   simp[kM,f6,e3,g,aX]
   exact cont _ _ _ (X.aQ)
end Tb
/-
 SQ: the reference's faults: expressions: the kinds. No condition.
-/
namespace Tb
open Go.Sx Go
variable{C:cU}(S:dd C)
include S
variable{f b:Key}{sn sc:Nat}{kd kn:Int}{d e k7 g7:AV}{n:Nat}{Hb h h':T ab}{nb nx nx':Key}{tm:T AV}
theorem avg(ol:cJ W0 sj [I kd,.str sn sc,I kn,d,e,k7,g7]){P:T AV→T ab→Key→Prop}{Q:bp}(cont:∀ tm' hx aF,Xe f b [I kd,.str sn sc,I kn,d,e,k7,g7] n Hb nb tm' hx aF→P tm' hx aF)(X:Xe f b [I kd,.str sn sc,I kn,d,e,k7,g7] n Hb nb tm h' nx') :
  bt C ((U.ops ij).seq (U.ops eO)) (ai 0 (ak P Q)) tm h' nx':=by
 have qp:=S.dL
 have qa:=S.ay
 have qn:=S.ar
 have qm:=S.aq
 have qu:=S.bl
 have qr:=S.fy
 have hzl:∀ m H,az (ax m) [I kd,.str sn sc,I kn,d,e,k7,g7] H=([I kd,.str sn sc,I kn,d,e,k7,g7],H):=fun m H=>av ol.bY
 obtain⟨_,_,_,_,_,_,_,e9,oa,ob,oc,od,oe,of,og⟩:=ex7 ol
 simp only[List.cons.injEq] at e9
 obtain⟨rfl,rfl,rfl,rfl,rfl,rfl,rfl,_⟩:=e9
 have sf:sn≤10000:=by cases ob;assumption
 have WT:∀ n H,ax n d H=(d,H):=od.jh
 have Vu:∀ n H,ax n e H=(e,H):=oe.jh
 have hz5:∀ n H,ax n k7 H=(k7,H):=of.jh
 have ZD:∀ n H,ax n g7 H=(g7,H):=og.jh
 simp
 simp[ij,X.e0,X.e3,X.g,qp,WT,Vu,hz5,ZD]
 refine(vV S ol _ _ _ _ _).mono ?_
 rintro o hp nxp ⟨⟨t,rfl⟩,xp⟩
 have Fp:=X.F.ext xp
 have kp:=xp.ks f
 have Xp:∀ tm',aa (K 4) tm'=aa (K 4) tm→aa (K 4) tm'=some (I n):=fun tm' h=>h.trans X.e4
 have key:∀ (Iw:T AV) (hx:T ab) (aF:Key),Xe f b [I kd,.str sn sc,I kn,d,e,k7,g7] n Hb nb Iw hx aF→eu C (ai 0 (ak P Q)) eO Iw hx aF:=by
  intro Iw hx aF X
  simp[eO,X.e0,X.e3,X.g,qu]
  refine(QP S X.F _ _).mono ?_
  rintro o h2 aH ⟨rfl,F2,k2⟩
  simp
  exact cont _ _ _ (X.call F2 k2)
 cases t with
 |true=>
  simp[X.e4,qa]
  refine(aC S Fp _).mono ?_
  rintro o h2 aH ⟨rfl,F2,k2⟩
  simp
  exact key _ _ _ (X.call F2 (kp.trans k2))
 |false=>
  simp[qa]
  refine(aC S Fp _).mono ?_
  rintro o h2 aH ⟨rfl,F2,k2⟩
  simp
  exact key _ _ _ (X.call F2 (kp.trans k2))
theorem avi(ol:cJ W0 sj [I kd,.str sn sc,I kn,d,e,k7,g7]){P:T AV→T ab→Key→Prop}{Q:bp}(cont:∀ tm' hx aF,Xe f b [I kd,.str sn sc,I kn,d,e,k7,g7] n Hb nb tm' hx aF→P tm' hx aF)(X:Xe f b [I kd,.str sn sc,I kn,d,e,k7,g7] n Hb nb tm h' nx') :
  bt C ((U.ops iq).seq (U.ops dY)) (ai 0 (ak P Q)) tm h' nx':=by
 have qp:=S.dL
 have qa:=S.ay
 have qn:=S.ar
 have qm:=S.aq
 have qu:=S.bl
 have qr:=S.fy
 have hzl:∀ m H,az (ax m) [I kd,.str sn sc,I kn,d,e,k7,g7] H=([I kd,.str sn sc,I kn,d,e,k7,g7],H):=fun m H=>av ol.bY
 obtain⟨_,_,_,_,_,_,_,e9,oa,ob,oc,od,oe,of,og⟩:=ex7 ol
 simp only[List.cons.injEq] at e9
 obtain⟨rfl,rfl,rfl,rfl,rfl,rfl,rfl,_⟩:=e9
 have sf:sn≤10000:=by cases ob;assumption
 have WT:∀ n H,ax n d H=(d,H):=od.jh
 have Vu:∀ n H,ax n e H=(e,H):=oe.jh
 have hz5:∀ n H,ax n k7 H=(k7,H):=of.jh
 have ZD:∀ n H,ax n g7 H=(g7,H):=og.jh
 simp
 simp[iq,X.e0,X.e3,X.g,qp,WT,Vu,hz5,ZD]
 refine(vV S ol _ _ _ _ _).mono ?_
 rintro o hp nxp ⟨⟨t,rfl⟩,xp⟩
 have Fp:=X.F.ext xp
 have kp:=xp.ks f
 have Xp:∀ tm',aa (K 4) tm'=aa (K 4) tm→aa (K 4) tm'=some (I n):=fun tm' h=>h.trans X.e4
 have key:∀ (Iw:T AV) (hx:T ab) (aF:Key),Xe f b [I kd,.str sn sc,I kn,d,e,k7,g7] n Hb nb Iw hx aF→eu C (ai 0 (ak P Q)) dY Iw hx aF:=by
  intro Iw hx aF X
  simp[dY,X.e0,X.e3,X.g,qn]
  refine(iS S X.F sf _).mono ?_
  rintro o h2 aH ⟨rfl,F2,k2⟩
  simp
  exact cont _ _ _ (X.call F2 k2)
 cases t with
 |true=>
  simp[X.e4,qa]
  refine(aC S Fp _).mono ?_
  rintro o h2 aH ⟨rfl,F2,k2⟩
  simp
  exact key _ _ _ (X.call F2 (kp.trans k2))
 |false=>
  simp[qa]
  refine(aC S Fp _).mono ?_
  rintro o h2 aH ⟨rfl,F2,k2⟩
  simp
  exact key _ _ _ (X.call F2 (kp.trans k2))
theorem avj(ol:cJ W0 sj [I kd,.str sn sc,I kn,d,e,k7,g7]){P:T AV→T ab→Key→Prop}{Q:bp}(cont:∀ tm' hx aF,Xe f b [I kd,.str sn sc,I kn,d,e,k7,g7] n Hb nb tm' hx aF→P tm' hx aF)(X:Xe f b [I kd,.str sn sc,I kn,d,e,k7,g7] n Hb nb tm h' nx') :
  bt C ((U.ops fN).seq ((U.ops ea).seq (U.ops ed))) (ai 0 (ak P Q)) tm h' nx':=by
 have qp:=S.dL
 have qa:=S.ay
 have qn:=S.ar
 have qm:=S.aq
 have qu:=S.bl
 have qr:=S.fy
 have hzl:∀ m H,az (ax m) [I kd,.str sn sc,I kn,d,e,k7,g7] H=([I kd,.str sn sc,I kn,d,e,k7,g7],H):=fun m H=>av ol.bY
 obtain⟨_,_,_,_,_,_,_,e9,oa,ob,oc,od,oe,of,og⟩:=ex7 ol
 simp only[List.cons.injEq] at e9
 obtain⟨rfl,rfl,rfl,rfl,rfl,rfl,rfl,_⟩:=e9
 have sf:sn≤10000:=by cases ob;assumption
 have WT:∀ n H,ax n d H=(d,H):=od.jh
 have Vu:∀ n H,ax n e H=(e,H):=oe.jh
 have hz5:∀ n H,ax n k7 H=(k7,H):=of.jh
 have ZD:∀ n H,ax n g7 H=(g7,H):=og.jh
 simp
 simp[fN,X.e0,X.e3,X.g,qp,WT,Vu,hz5,ZD]
 refine(vV S ol _ _ _ _ _).mono ?_
 rintro o hp nxp ⟨⟨t,rfl⟩,xp⟩
 have Fp:=X.F.ext xp
 have kp:=xp.ks f
 have key:∀ (Iw:T AV) (hx:T ab) (aF:Key),Xe f b [I kd,.str sn sc,I kn,d,e,k7,g7] n Hb nb Iw hx aF→eu C (ak (bt C (U.ops ed) (ai 0 (ak P Q))) (ai 0 (ak P Q))) ea Iw hx aF:=by
  intro Iw hx aF X
  simp[ea,X.e0,X.e3,X.g,qn]
  refine(iS S X.F sf _).mono ?_
  rintro o h2 aH ⟨rfl,F2,k2⟩
  simp
  simp[ed,X.e0,X.e4,qm]
  refine(gV S F2 _).mono ?_
  rintro o h3 dw ⟨rfl,F3,k3⟩
  simp
  exact cont _ _ _ (X.call F3 (k2.trans k3))
 simp[qa]
 refine(aC S Fp _).mono ?_
 rintro o h2 aH ⟨rfl,F2,k2⟩
 simp
 exact key _ _ _ (X.call F2 (kp.trans k2))
theorem avk(ol:cJ W0 sj [I kd,.str sn sc,I kn,d,e,k7,g7]){P:T AV→T ab→Key→Prop}{Q:bp}(cont:∀ tm' hx aF,Xe f b [I kd,.str sn sc,I kn,d,e,k7,g7] n Hb nb tm' hx aF→P tm' hx aF)(X:Xe f b [I kd,.str sn sc,I kn,d,e,k7,g7] n Hb nb tm h' nx') :
  bt C ((U.ops fQ).seq ((U.ops ef).seq (U.ops eh))) (ai 0 (ak P Q)) tm h' nx':=by
 have qp:=S.dL
 have qa:=S.ay
 have qn:=S.ar
 have qm:=S.aq
 have qu:=S.bl
 have qr:=S.fy
 have hzl:∀ m H,az (ax m) [I kd,.str sn sc,I kn,d,e,k7,g7] H=([I kd,.str sn sc,I kn,d,e,k7,g7],H):=fun m H=>av ol.bY
 obtain⟨_,_,_,_,_,_,_,e9,oa,ob,oc,od,oe,of,og⟩:=ex7 ol
 simp only[List.cons.injEq] at e9
 obtain⟨rfl,rfl,rfl,rfl,rfl,rfl,rfl,_⟩:=e9
 have sf:sn≤10000:=by cases ob;assumption
 have WT:∀ n H,ax n d H=(d,H):=od.jh
 have Vu:∀ n H,ax n e H=(e,H):=oe.jh
 have hz5:∀ n H,ax n k7 H=(k7,H):=of.jh
 have ZD:∀ n H,ax n g7 H=(g7,H):=og.jh
 simp
 simp[fQ,X.e0,X.e3,X.g,qp,WT,Vu,hz5,ZD]
 refine(vV S ol _ _ _ _ _).mono ?_
 rintro o hp nxp ⟨⟨t,rfl⟩,xp⟩
 have Fp:=X.F.ext xp
 have kp:=xp.ks f
 have key:∀ (Iw:T AV) (hx:T ab) (aF:Key),Xe f b [I kd,.str sn sc,I kn,d,e,k7,g7] n Hb nb Iw hx aF→eu C (ak (bt C (U.ops eh) (ai 0 (ak P Q))) (ai 0 (ak P Q))) ef Iw hx aF:=by
  intro Iw hx aF X
  simp[ef,X.e0,X.e3,X.g,qn]
  refine(iS S X.F sf _).mono ?_
  rintro o h2 aH ⟨rfl,F2,k2⟩
  simp
  simp[eh,X.e0,X.e4,qm]
  refine(gV S F2 _).mono ?_
  rintro o h3 dw ⟨rfl,F3,k3⟩
  simp
  exact cont _ _ _ (X.call F3 (k2.trans k3))
 simp[qa]
 refine(aC S Fp _).mono ?_
 rintro o h2 aH ⟨rfl,F2,k2⟩
 simp
 exact key _ _ _ (X.call F2 (kp.trans k2))
theorem avn(ol:cJ W0 sj [I kd,.str sn sc,I kn,d,e,k7,g7]){P:T AV→T ab→Key→Prop}{Q:bp}(cont:∀ tm' hx aF,Xe f b [I kd,.str sn sc,I kn,d,e,k7,g7] n Hb nb tm' hx aF→P tm' hx aF)(X:Xe f b [I kd,.str sn sc,I kn,d,e,k7,g7] n Hb nb tm h' nx') :
  bt C ((U.ops fW).seq (U.ops ej)) (ai 0 (ak P Q)) tm h' nx':=by
 have qp:=S.dL
 have qa:=S.ay
 have qn:=S.ar
 have qm:=S.aq
 have qu:=S.bl
 have qr:=S.fy
 have hzl:∀ m H,az (ax m) [I kd,.str sn sc,I kn,d,e,k7,g7] H=([I kd,.str sn sc,I kn,d,e,k7,g7],H):=fun m H=>av ol.bY
 obtain⟨_,_,_,_,_,_,_,e9,oa,ob,oc,od,oe,of,og⟩:=ex7 ol
 simp only[List.cons.injEq] at e9
 obtain⟨rfl,rfl,rfl,rfl,rfl,rfl,rfl,_⟩:=e9
 have sf:sn≤10000:=by cases ob;assumption
 have WT:∀ n H,ax n d H=(d,H):=od.jh
 have Vu:∀ n H,ax n e H=(e,H):=oe.jh
 have hz5:∀ n H,ax n k7 H=(k7,H):=of.jh
 have ZD:∀ n H,ax n g7 H=(g7,H):=og.jh
 simp
 simp[fW,X.e0,X.e3,X.g,qp,WT,Vu,hz5,ZD]
 refine(vV S ol _ _ _ _ _).mono ?_
 rintro o hp nxp ⟨⟨t,rfl⟩,xp⟩
 have Fp:=X.F.ext xp
 have kp:=xp.ks f
 have Xp:∀ tm',aa (K 4) tm'=aa (K 4) tm→aa (K 4) tm'=some (I n):=fun tm' h=>h.trans X.e4
 have key:∀ (Iw:T AV) (hx:T ab) (aF:Key),Xe f b [I kd,.str sn sc,I kn,d,e,k7,g7] n Hb nb Iw hx aF→eu C (ai 0 (ak P Q)) ej Iw hx aF:=by
  intro Iw hx aF X
  simp[ej,X.e0,X.e3,X.g,qn]
  refine(iS S X.F sf _).mono ?_
  rintro o h2 aH ⟨rfl,F2,k2⟩
  simp
  exact cont _ _ _ (X.call F2 k2)
 cases t with
 |true=>
  simp[X.e4,qa]
  refine(aC S Fp _).mono ?_
  rintro o h2 aH ⟨rfl,F2,k2⟩
  simp
  exact key _ _ _ (X.call F2 (kp.trans k2))
 |false=>
  simp[qa]
  refine(aC S Fp _).mono ?_
  rintro o h2 aH ⟨rfl,F2,k2⟩
  simp
  exact key _ _ _ (X.call F2 (kp.trans k2))
theorem avm(ol:cJ W0 sj [I kd,.str sn sc,I kn,d,e,k7,g7]){P:T AV→T ab→Key→Prop}{Q:bp}(cont:∀ tm' hx aF,Xe f b [I kd,.str sn sc,I kn,d,e,k7,g7] n Hb nb tm' hx aF→P tm' hx aF)(X:Xe f b [I kd,.str sn sc,I kn,d,e,k7,g7] n Hb nb tm h' nx') :
  bt C (U.ops fU) (ai 0 (ak P Q)) tm h' nx':=by
 have qp:=S.dL
 have qa:=S.ay
 have qn:=S.ar
 have qm:=S.aq
 have qu:=S.bl
 have qr:=S.fy
 have hzl:∀ m H,az (ax m) [I kd,.str sn sc,I kn,d,e,k7,g7] H=([I kd,.str sn sc,I kn,d,e,k7,g7],H):=fun m H=>av ol.bY
 obtain⟨_,_,_,_,_,_,_,e9,oa,ob,oc,od,oe,of,og⟩:=ex7 ol
 simp only[List.cons.injEq] at e9
 obtain⟨rfl,rfl,rfl,rfl,rfl,rfl,rfl,_⟩:=e9
 have sf:sn≤10000:=by cases ob;assumption
 have WT:∀ n H,ax n d H=(d,H):=od.jh
 have Vu:∀ n H,ax n e H=(e,H):=oe.jh
 have hz5:∀ n H,ax n k7 H=(k7,H):=of.jh
 have ZD:∀ n H,ax n g7 H=(g7,H):=og.jh
 simp
 simp[fU,X.e0,X.e3,X.g,qp,WT,Vu,hz5,ZD]
 refine(vV S ol _ _ _ _ _).mono ?_
 rintro o hp nxp ⟨⟨t,rfl⟩,xp⟩
 have Fp:=X.F.ext xp
 have kp:=xp.ks f
 cases t with
 |true=>
  simp[X.e4,qa]
  refine(aC S Fp _).mono ?_
  rintro o h2 aH ⟨rfl,F2,k2⟩
  simp
  exact cont _ _ _ (X.call F2 (kp.trans k2))
 |false=>
  simp[qa]
  refine(aC S Fp _).mono ?_
  rintro o h2 aH ⟨rfl,F2,k2⟩
  simp
  exact cont _ _ _ (X.call F2 (kp.trans k2))
theorem avl(ol:cJ W0 sj [I kd,.str sn sc,I kn,d,e,k7,g7]){P:T AV→T ab→Key→Prop}{Q:bp}(cont:∀ tm' hx aF,Xe f b [I kd,.str sn sc,I kn,d,e,k7,g7] n Hb nb tm' hx aF→P tm' hx aF)(X:Xe f b [I kd,.str sn sc,I kn,d,e,k7,g7] n Hb nb tm h' nx') :
  bt C ((U.ops fS).seq (U.ops ei)) (ai 0 (ak P Q)) tm h' nx':=by
 have qp:=S.dL
 have qa:=S.ay
 have qn:=S.ar
 have qm:=S.aq
 have qu:=S.bl
 have qr:=S.fy
 have hzl:∀ m H,az (ax m) [I kd,.str sn sc,I kn,d,e,k7,g7] H=([I kd,.str sn sc,I kn,d,e,k7,g7],H):=fun m H=>av ol.bY
 obtain⟨_,_,_,_,_,_,_,e9,oa,ob,oc,od,oe,of,og⟩:=ex7 ol
 simp only[List.cons.injEq] at e9
 obtain⟨rfl,rfl,rfl,rfl,rfl,rfl,rfl,_⟩:=e9
 have sf:sn≤10000:=by cases ob;assumption
 have WT:∀ n H,ax n d H=(d,H):=od.jh
 have Vu:∀ n H,ax n e H=(e,H):=oe.jh
 have hz5:∀ n H,ax n k7 H=(k7,H):=of.jh
 have ZD:∀ n H,ax n g7 H=(g7,H):=og.jh
 simp
 simp[fS,X.e0,X.e3,X.g,qp,WT,Vu,hz5,ZD]
 refine(vV S ol _ _ _ _ _).mono ?_
 rintro o hp nxp ⟨⟨t,rfl⟩,xp⟩
 have Fp:=X.F.ext xp
 have kp:=xp.ks f
 simp[qa]
 refine(aC S Fp _).mono ?_
 rintro o h2 aH ⟨rfl,F2,k2⟩
 simp
 have X2:=fun tm' (a:aa (K 0) tm'=aa (K 0) tm) (c:aa (K 3) tm'=aa (K 3) tm) (d:aa (K 4) tm'=aa (K 4) tm)=>X.call (tm':=tm') F2 (kp.trans k2) a c d
 obtain⟨b0,b1,b2,b3,gf⟩:=F2.g
 have k3:=fun B=>(kp.trans k2).trans (tw f h2 aH B)
 cases b0 with
 |true=>
  simp[ei,X.e0,gf]
  exact cont _ _ _ (X.call (F2.put _ _ _ _) (k3 _))
 |false=>
  simp[ei,X.e0,X.e4,gf]
  exact cont _ _ _ (X.call (F2.put _ _ _ _) (k3 _))
theorem avh(ol:cJ W0 sj [I kd,.str sn sc,I kn,d,e,k7,g7]){P:T AV→T ab→Key→Prop}{Q:bp}(cont:∀ tm' hx aF,Xe f b [I kd,.str sn sc,I kn,d,e,k7,g7] n Hb nb tm' hx aF→P tm' hx aF)(X:Xe f b [I kd,.str sn sc,I kn,d,e,k7,g7] n Hb nb tm h' nx') :
  bt C (U.ops il) (ai 0 (ak P Q)) tm h' nx':=by
 have qp:=S.dL
 have qa:=S.ay
 have qn:=S.ar
 have qm:=S.aq
 have qu:=S.bl
 have qr:=S.fy
 have hzl:∀ m H,az (ax m) [I kd,.str sn sc,I kn,d,e,k7,g7] H=([I kd,.str sn sc,I kn,d,e,k7,g7],H):=fun m H=>av ol.bY
 obtain⟨_,_,_,_,_,_,_,e9,oa,ob,oc,od,oe,of,og⟩:=ex7 ol
 simp only[List.cons.injEq] at e9
 obtain⟨rfl,rfl,rfl,rfl,rfl,rfl,rfl,_⟩:=e9
 have sf:sn≤10000:=by cases ob;assumption
 have WT:∀ n H,ax n d H=(d,H):=od.jh
 have Vu:∀ n H,ax n e H=(e,H):=oe.jh
 have hz5:∀ n H,ax n k7 H=(k7,H):=of.jh
 have ZD:∀ n H,ax n g7 H=(g7,H):=og.jh
 simp
 simp[il,X.e0,X.e3,X.g,qp,WT,Vu,hz5,ZD]
 refine(vV S ol _ _ _ _ _).mono ?_
 rintro o hp nxp ⟨⟨t,rfl⟩,xp⟩
 have Fp:=X.F.ext xp
 have kp:=xp.ks f
 cases t with
 |false=>
  simp[qa]
  refine(aC S Fp _).mono ?_
  rintro o h2 aH ⟨rfl,F2,k2⟩
  simp
  exact cont _ _ _ (X.call F2 (kp.trans k2))
 |true=>
  rcases du (n:Int) 0 with⟨hn,hnb⟩|⟨hn,hnb⟩
  ·have gp:aa b hp=some (.cells [I kd,.str sn sc,I kn,d,e,k7,g7] .fix):=bH kp X.hb X.ne X.g
   rcases du kn 0 with⟨hk,cB⟩|⟨hk,cB⟩
   ·simp[X.e4,X.e3,qa,hn,gp,hk]
    refine(aC S Fp _).mono ?_
    rintro o h2 aH ⟨rfl,F2,k2⟩
    simp
    exact cont _ _ _ (X.call F2 (kp.trans k2))
   ·simp[X.e4,X.e3,qa,hn,gp,cB]
    refine(aC S Fp _).mono ?_
    rintro o h2 aH ⟨rfl,F2,k2⟩
    simp
    exact cont _ _ _ (X.call F2 (kp.trans k2))
  ·simp[X.e4,qa,hnb]
   refine(aC S Fp _).mono ?_
   rintro o h2 aH ⟨rfl,F2,k2⟩
   simp
   exact cont _ _ _ (X.call F2 (kp.trans k2))
theorem avq(ol:cJ W0 sj [I kd,.str sn sc,I kn,d,e,k7,g7]){P:T AV→T ab→Key→Prop}{Q:bp}(cont:∀ tm' hx aF,Xe f b [I kd,.str sn sc,I kn,d,e,k7,g7] n Hb nb tm' hx aF→P tm' hx aF)(X:Xe f b [I kd,.str sn sc,I kn,d,e,k7,g7] n Hb nb tm h' nx') :
  bt C (U.ops gj) (ai 0 (ak P Q)) tm h' nx':=by
 have qp:=S.dL
 have qa:=S.ay
 have qn:=S.ar
 have qm:=S.aq
 have qu:=S.bl
 have qr:=S.fy
 have hzl:∀ m H,az (ax m) [I kd,.str sn sc,I kn,d,e,k7,g7] H=([I kd,.str sn sc,I kn,d,e,k7,g7],H):=fun m H=>av ol.bY
 obtain⟨_,_,_,_,_,_,_,e9,oa,ob,oc,od,oe,of,og⟩:=ex7 ol
 simp only[List.cons.injEq] at e9
 obtain⟨rfl,rfl,rfl,rfl,rfl,rfl,rfl,_⟩:=e9
 have sf:sn≤10000:=by cases ob;assumption
 have WT:∀ n H,ax n d H=(d,H):=od.jh
 have Vu:∀ n H,ax n e H=(e,H):=oe.jh
 have hz5:∀ n H,ax n k7 H=(k7,H):=of.jh
 have ZD:∀ n H,ax n g7 H=(g7,H):=og.jh
 simp
 simp[gj,X.e0,qa]
 refine(aC S X.F _).mono ?_
 rintro o h2 aH ⟨rfl,F2,k2⟩
 simp
 exact cont _ _ _ (X.call F2 (k2))
end Tb
/-
 SQ: the reference's faults: expressions: matches, operators. No condition.
-/
namespace Tb
open Go.Sx Go
theorem agA{k z:Nat}{c:AV}(hz:(W0 k).length=z)(h:dg W0 (.sl k) c)(w:Int):(c=.nils∧(((0:Int)=w∧((0:Int)==w)=true)∨(¬ (0:Int)=w∧((0:Int)==w)=false)))∨∃ L n,c=.sl L n z .any∧((((n:Nat):Int)=w∧(((n:Nat):Int)==w)=true)∨(¬ ((n:Nat):Int)=w∧(((n:Nat):Int)==w)=false)):=by
 subst hz
 rcases dU h with rfl|⟨rs,rfl,_,_⟩
 ·exact .inl ⟨rfl,du 0 w⟩
 ·exact .inr ⟨_,_,rfl,du rs.length w⟩
variable{C:cU}(S:dd C)
include S
variable{f b:Key}{sn sc:Nat}{kd kn:Int}{d e k7 g7:AV}{n:Nat}{Hb h h':T ab}{nb nx nx':Key}{tm:T AV}
theorem avo(ol:cJ W0 sj [I kd,.str sn sc,I kn,d,e,k7,g7]){P:T AV→T ab→Key→Prop}{Q:bp}(cont:∀ tm' hx aF,Xe f b [I kd,.str sn sc,I kn,d,e,k7,g7] n Hb nb tm' hx aF→P tm' hx aF)(X:Xe f b [I kd,.str sn sc,I kn,d,e,k7,g7] n Hb nb tm h' nx') :
  bt C ((U.ops fY).seq ((U.ops eo).seq (((U.ops dj).seq (U.block 1 (U.loop dz))).seq ((U.ops cD).seq (U.block 3 (U.loop cP)))))) (ai 0 (ak P Q)) tm h' nx':=by
 have qp:=S.dL
 have qa:=S.ay
 have qn:=S.ar
 have qm:=S.aq
 have qu:=S.bl
 have qr:=S.fy
 have hzl:∀ m H,az (ax m) [I kd,.str sn sc,I kn,d,e,k7,g7] H=([I kd,.str sn sc,I kn,d,e,k7,g7],H):=fun m H=>av ol.bY
 obtain⟨_,_,_,_,_,_,_,e9,oa,ob,oc,od,oe,of,og⟩:=ex7 ol
 simp only[List.cons.injEq] at e9
 obtain⟨rfl,rfl,rfl,rfl,rfl,rfl,rfl,_⟩:=e9
 have sf:sn≤10000:=by cases ob;assumption
 have WT:∀ n H,ax n d H=(d,H):=od.jh
 have Vu:∀ n H,ax n e H=(e,H):=oe.jh
 have hz5:∀ n H,ax n k7 H=(k7,H):=of.jh
 have ZD:∀ n H,ax n g7 H=(g7,H):=og.jh
 simp
 simp[fY,X.e0,X.e3,X.g,qp,WT,Vu,hz5,ZD]
 refine(vV S ol _ _ _ _ _).mono ?_
 rintro o hp nxp ⟨⟨t,rfl⟩,xp⟩
 have Fp:=X.F.ext xp
 have kp:=xp.ks f
 have rest:∀ (Iw:T AV) (hx:T ab) (aF:Key),Xe f b [I kd,.str sn sc,I kn,d,e,k7,g7] n Hb nb Iw hx aF→bt C ((U.ops eo).seq (((U.ops dj).seq (U.block 1 (U.loop dz))).seq ((U.ops cD).seq (U.block 3 (U.loop cP))))) (ai 0 (ak P Q)) Iw hx aF:=by
  intro Iw hx aF X
  simp
  simp[eo,X.e0,X.e4,qm]
  refine(gV S X.F _).mono ?_
  rintro o h2 aH ⟨rfl,F2,k2⟩
  simp
  refine akT S (P:=fun tm hx aF=>bt C ((U.ops cD).seq (U.block 3 (U.loop cP))) (ai 0 (ak P Q)) tm hx aF) (R:=fun _ _ _=>True) od ?_ (X.call F2 k2)
  intro tm' hx' aPH X'
  exact akS S (R:=fun _ _ _=>True) oe cont X'
 have gp:aa b hp=some (.cells [I kd,.str sn sc,I kn,d,e,k7,g7] .fix):=bH kp X.hb X.ne X.g
 cases t with
 |false=>
  simp[qa]
  refine(aC S Fp _).mono ?_
  rintro o h2 aH ⟨rfl,F2,k2⟩
  simp
  exact rest _ _ _ (X.call F2 (kp.trans k2))
 |true=>
  by_cases Ro:(n:Int)<2
  ·have aHK:n<2:=by omega
   simp[X.e4,qa,Ro]
   refine(aC S Fp _).mono ?_
   rintro o h2 aH ⟨rfl,F2,k2⟩
   simp
   exact rest _ _ _ (X.call F2 (kp.trans k2))
  ·have aHK:¬ n<2:=by omega
   obtain⟨w,hw⟩:∃ w:Int,aW .i64 ((n:Int)-1)=w:=⟨_,rfl⟩
   rcases agA (z:=1) rfl od w with⟨rfl,hd⟩|⟨L,m,rfl,hd⟩
   ·rcases hd with⟨hd,hdb⟩|⟨hd,hdb⟩
    ·rcases agA (z:=1) rfl oe w with⟨rfl,he⟩|⟨L2,m2,rfl,he⟩
     ·simp[X.e4,X.e3,qa,Ro,gp,hw,hd]
      refine(aC S Fp _).mono ?_
      rintro o h2 aH ⟨rfl,F2,k2⟩
      simp
      exact rest _ _ _ (X.call F2 (kp.trans k2))
     ·simp[X.e4,X.e3,qa,Ro,gp,hw,hd]
      refine(aC S Fp _).mono ?_
      rintro o h2 aH ⟨rfl,F2,k2⟩
      simp
      exact rest _ _ _ (X.call F2 (kp.trans k2))
    ·simp[X.e4,X.e3,qa,Ro,gp,hw,hdb]
     refine(aC S Fp _).mono ?_
     rintro o h2 aH ⟨rfl,F2,k2⟩
     simp
     exact rest _ _ _ (X.call F2 (kp.trans k2))
   ·rcases hd with⟨hd,hdb⟩|⟨hd,hdb⟩
    ·rcases agA (z:=1) rfl oe w with⟨rfl,he⟩|⟨L2,m2,rfl,he⟩
     ·simp[X.e4,X.e3,qa,Ro,gp,hw,hd]
      refine(aC S Fp _).mono ?_
      rintro o h2 aH ⟨rfl,F2,k2⟩
      simp
      exact rest _ _ _ (X.call F2 (kp.trans k2))
     ·simp[X.e4,X.e3,qa,Ro,gp,hw,hd]
      refine(aC S Fp _).mono ?_
      rintro o h2 aH ⟨rfl,F2,k2⟩
      simp
      exact rest _ _ _ (X.call F2 (kp.trans k2))
    ·simp[X.e4,X.e3,qa,Ro,gp,hw,hdb]
     refine(aC S Fp _).mono ?_
     rintro o h2 aH ⟨rfl,F2,k2⟩
     simp
     exact rest _ _ _ (X.call F2 (kp.trans k2))
end Tb
/-
 SQ: the reference's faults: expressions: operators; whole. No condition.
-/
namespace Tb
open Go.Sx Go
variable{C:cU}(S:dd C)
include S
variable{f b:Key}{sn sc:Nat}{kd kn:Int}{d e k7 g7:AV}{n:Nat}{Hb h h':T ab}{nb nx nx':Key}{tm:T AV}
theorem avp(ol:cJ W0 sj [I kd,.str sn sc,I kn,d,e,k7,g7]){P:T AV→T ab→Key→Prop}{Q:bp}(cont:∀ tm' hx aF,Xe f b [I kd,.str sn sc,I kn,d,e,k7,g7] n Hb nb tm' hx aF→P tm' hx aF)(X:Xe f b [I kd,.str sn sc,I kn,d,e,k7,g7] n Hb nb tm h' nx') :
  bt C ((U.ops gh).seq (U.ops gi)) (ai 0 (ak P Q)) tm h' nx':=by
 have qp:=S.dL
 have qa:=S.ay
 have qn:=S.ar
 have qm:=S.aq
 have qu:=S.bl
 have qr:=S.fy
 have hzl:∀ m H,az (ax m) [I kd,.str sn sc,I kn,d,e,k7,g7] H=([I kd,.str sn sc,I kn,d,e,k7,g7],H):=fun m H=>av ol.bY
 obtain⟨_,_,_,_,_,_,_,e9,oa,ob,oc,od,oe,of,og⟩:=ex7 ol
 simp only[List.cons.injEq] at e9
 obtain⟨rfl,rfl,rfl,rfl,rfl,rfl,rfl,_⟩:=e9
 have sf:sn≤10000:=by cases ob;assumption
 have WT:∀ n H,ax n d H=(d,H):=od.jh
 have Vu:∀ n H,ax n e H=(e,H):=oe.jh
 have hz5:∀ n H,ax n k7 H=(k7,H):=of.jh
 have ZD:∀ n H,ax n g7 H=(g7,H):=og.jh
 simp
 simp[gh,X.e3,X.g,qr]
 refine(arE S sn sc _ _).mono ?_
 rintro o h1 aY ⟨⟨r,rfl,_⟩,x1⟩
 simp
 have X1:∀ tm',aa (K 0) tm'=aa (K 0) tm→aa (K 3) tm'=aa (K 3) tm→aa (K 4) tm'=aa (K 4) tm→Xe f b [I kd,.str sn sc,I kn,d,e,k7,g7] n Hb nb tm' h1 aY:=fun tm' a b c=>X.call (X.F.ext x1) (x1.ks f) a b c
 have g1:=(X1 tm rfl rfl rfl).g
 have F1:=X.F.ext x1
 simp[gi,X.e0,X.e3,g1,qp,WT,Vu,hz5,ZD]
 refine(vV S ol _ _ _ _ _).mono ?_
 rintro o hp nxp ⟨⟨t,rfl⟩,xp⟩
 have Fp:=F1.ext xp
 have kp:=(x1.ks f).trans (xp.ks f)
 cases t with
 |false=>
  simp[qa]
  refine(aC S Fp _).mono ?_
  rintro o h2 aH ⟨rfl,F2,k2⟩
  simp
  exact cont _ _ _ (X.call F2 (kp.trans k2))
 |true=>
  by_cases hr0:0<r
  ·rcases du r 3 with⟨h3,h3b⟩|⟨h3,h3b⟩
   ·rcases du (n:Int) 1 with⟨h1,SQ⟩|⟨h1,SQ⟩
    ·rcases du (n:Int) 2 with⟨h2n,Vt⟩|⟨h2n,Vt⟩
     ·omega
     ·simp[X.e4,qa,h3,h1]
      refine(aC S Fp _).mono ?_
      rintro o h2 aH ⟨rfl,F2,k2⟩
      simp
      exact cont _ _ _ (X.call F2 (kp.trans k2))
    ·simp[X.e4,qa,h3,SQ]
     refine(aC S Fp _).mono ?_
     rintro o h2 aH ⟨rfl,F2,k2⟩
     simp
     exact cont _ _ _ (X.call F2 (kp.trans k2))
   ·rcases du (n:Int) 1 with⟨h1,SQ⟩|⟨h1,SQ⟩
    ·simp[X.e4,qa,hr0,h3b,h1]
     refine(aC S Fp _).mono ?_
     rintro o h2 aH ⟨rfl,F2,k2⟩
     simp
     exact cont _ _ _ (X.call F2 (kp.trans k2))
    ·rcases du (n:Int) 2 with⟨h2n,Vt⟩|⟨h2n,Vt⟩
     ·simp[X.e4,qa,hr0,h3b,h2n]
      refine(aC S Fp _).mono ?_
      rintro o h2 aH ⟨rfl,F2,k2⟩
      simp
      exact cont _ _ _ (X.call F2 (kp.trans k2))
     ·simp[X.e4,qa,hr0,h3b,SQ,Vt]
      refine(aC S Fp _).mono ?_
      rintro o h2 aH ⟨rfl,F2,k2⟩
      simp
      exact cont _ _ _ (X.call F2 (kp.trans k2))
  ·simp[qa,hr0]
   refine(aC S Fp _).mono ?_
   rintro o h2 aH ⟨rfl,F2,k2⟩
   simp
   exact cont _ _ _ (X.call F2 (kp.trans k2))
end Tb
/-
 SQ: the reference's faults: expressions: whole. No condition.
-/
namespace Tb
open Go.Sx Go
variable{C:cU}(S:dd C)
include S
variable{f b:Key}{sn sc:Nat}{kd kn:Int}{d e k7 g7:AV}{n:Nat}{Hb h h':T ab}{nb nx nx':Key}{tm:T AV}
theorem aqy(ol:cJ W0 sj [I kd,.str sn sc,I kn,d,e,k7,g7]){P:T AV→T ab→Key→Prop}{Q:bp}(cont:∀ tm' hx aF,Xe f b [I kd,.str sn sc,I kn,d,e,k7,g7] n Hb nb tm' hx aF→P tm' hx aF)(X:Xe f b [I kd,.str sn sc,I kn,d,e,k7,g7] n Hb nb tm h' nx')(e14:aa (K 14) tm=some (I kd)) :
  bt C (U.block 0 ((U.ops ig).seq (U.cond (PX.t (K 17)) ((U.ops ij).seq (U.ops eO)) ((U.ops ik).seq (U.cond (PX.t (K 31)) (U.ops il) ((U.ops im).seq (U.cond (PX.t (K 51)) ((U.ops iq).seq (U.ops dY)) ((U.ops fM).seq (U.cond (PX.t (K 65)) ((U.ops fN).seq ((U.ops ea).seq (U.ops ed))) ((U.ops fO).seq (U.cond (PX.t (K 78)) ((U.ops fQ).seq ((U.ops ef).seq (U.ops eh))) ((U.ops fR).seq (U.cond (PX.t (K 91)) ((U.ops fS).seq (U.ops ei)) ((U.ops fT).seq (U.cond (PX.t (K 108)) (U.ops fU) ((U.ops fV).seq (U.cond (PX.t (K 118)) ((U.ops fW).seq (U.ops ej)) ((U.ops fX).seq (U.cond (PX.t (K 132)) ((U.ops fY).seq ((U.ops eo).seq (((U.ops dj).seq (U.block 1 (U.loop dz))).seq ((U.ops cD).seq (U.block 3 (U.loop cP)))))) ((U.ops fZ).seq (U.cond (PX.t (K 211)) ((U.ops gh).seq (U.ops gi)) (U.ops gj)))))))))))))))))))))) (ak P Q) tm h' nx':=by
 simp
 rcases du kd 0 with⟨hk,cB⟩|⟨hk,cB⟩
 ·simp[ig,e14,hk]
  subst hk
  exact avg S ol cont (X.aQ)
 simp[ig,e14,cB]
 rcases du kd 1 with⟨hk,cB⟩|⟨hk,cB⟩
 ·simp[ik,e14,hk]
  subst hk
  exact avh S ol cont (X.aQ)
 simp[ik,e14,cB]
 rcases du kd 2 with⟨hk,cB⟩|⟨hk,cB⟩
 ·simp[im,e14,hk]
  subst hk
  exact avi S ol cont (X.aQ)
 simp[im,e14,cB]
 rcases du kd 3 with⟨hk,cB⟩|⟨hk,cB⟩
 ·simp[fM,e14,hk]
  subst hk
  exact avj S ol cont (X.aQ)
 simp[fM,e14,cB]
 rcases du kd 4 with⟨hk,cB⟩|⟨hk,cB⟩
 ·simp[fO,e14,hk]
  subst hk
  exact avk S ol cont (X.aQ)
 simp[fO,e14,cB]
 rcases du kd 5 with⟨hk,cB⟩|⟨hk,cB⟩
 ·simp[fR,e14,hk]
  subst hk
  exact avl S ol cont (X.aQ)
 simp[fR,e14,cB]
 rcases du kd 6 with⟨hk,cB⟩|⟨hk,cB⟩
 ·simp[fT,e14,hk]
  subst hk
  exact avm S ol cont (X.aQ)
 simp[fT,e14,cB]
 rcases du kd 7 with⟨hk,cB⟩|⟨hk,cB⟩
 ·simp[fV,e14,hk]
  subst hk
  exact avn S ol cont (X.aQ)
 simp[fV,e14,cB]
 rcases du kd 8 with⟨hk,cB⟩|⟨hk,cB⟩
 ·simp[fX,e14,hk]
  subst hk
  exact avo S ol cont (X.aQ)
 simp[fX,e14,cB]
 rcases du kd 9 with⟨hk,cB⟩|⟨hk,cB⟩
 ·simp[fZ,e14,hk]
  subst hk
  exact avp S ol cont (X.aQ)
 simp[fZ,e14,cB]
 exact avq S ol cont (X.aQ)
theorem ajM:∀ (m:Nat) {l:List AV},sizeOf l=m→cJ W0 sj l→∀ {f:Key} {h:T ab} {nx:Key},Fb f h nx→aO C dV [.ptr f 0,.agg l] h nx (yD f h nx):=by
 intro m
 induction m using Nat.strongRecOn with
 |ind m ih=>
 intro l hm ol f h nx F
 have ol2:=ol
 obtain⟨a,b,c,d,e,k7,g7,rfl,oa,ob,oc,od,oe,of,og⟩:=ex7 ol
 obtain⟨kd,rfl,_,_⟩:=sy oa
 obtain⟨sn,sc,rfl,sf⟩:=tK ob
 obtain⟨kn,rfl,_,_⟩:=sy oc
 have s0:=kTSu nx
 have F0:=F.ext (E0 h nx (.cells [I kd,.str sn sc,I kn,d,e,k7,g7] .fix))
 have K0:=(E0 h nx (.cells [I kd,.str sn sc,I kn,d,e,k7,g7] .fix)).ks f
 have Ui:nx≠f:=aG (by have:=F.hi;omega)
 have g0:aa nx (aK nx (some (.cells [I kd,.str sn sc,I kn,d,e,k7,g7] .fix)) h)=some (.cells [I kd,.str sn sc,I kn,d,e,k7,g7] .fix):=by rw[gTSm]
 refine S.RB.call ?_
 simp[qH]
 simp[AQ]
 generalize aK nx (some (.cells [I kd,.str sn sc,I kn,d,e,k7,g7] .fix)) h=Hb at F0 K0 g0 ⊢
 have go:∀ (tm':T AV),Xe f nx [I kd,.str sn sc,I kn,d,e,k7,g7] (bP k7) Hb nx.succ tm' Hb nx.succ→bt C (((U.ops rv).seq (U.block 0 ((U.ops ig).seq (U.cond (PX.t (K 17)) ((U.ops ij).seq (U.ops eO)) ((U.ops ik).seq (U.cond (PX.t (K 31)) (U.ops il) ((U.ops im).seq (U.cond (PX.t (K 51)) ((U.ops iq).seq (U.ops dY)) ((U.ops fM).seq (U.cond (PX.t (K 65)) ((U.ops fN).seq ((U.ops ea).seq (U.ops ed))) ((U.ops fO).seq (U.cond (PX.t (K 78)) ((U.ops fQ).seq ((U.ops ef).seq (U.ops eh))) ((U.ops fR).seq (U.cond (PX.t (K 91)) ((U.ops fS).seq (U.ops ei)) ((U.ops fT).seq (U.cond (PX.t (K 108)) (U.ops fU) ((U.ops fV).seq (U.cond (PX.t (K 118)) ((U.ops fW).seq (U.ops ej)) ((U.ops fX).seq (U.cond (PX.t (K 132)) ((U.ops fY).seq ((U.ops eo).seq (((U.ops dj).seq (U.block 1 (U.loop dz))).seq ((U.ops cD).seq (U.block 3 (U.loop cP)))))) ((U.ops fZ).seq (U.cond (PX.t (K 211)) ((U.ops gh).seq (U.ops gi)) (U.ops gj))))))))))))))))))))))).seq ((U.ops gk).seq (U.block 7 (U.loop ir)))) (aN [] (yD f h nx)) tm' Hb nx.succ:=by
  intro tm' X
  simp
  simp[rv,X.e3,X.g]
  refine aqy S ol2 (P:=fun tm hx aF=>bt C ((U.ops gk).seq (U.block 7 (U.loop ir))) (aN [] (yD f h nx)) tm hx aF) ?_ (X.aQ) (by simp)
  intro oW hx aF X4
  exact amC S of rfl (fun r lX tF {h} {nx} Fr=>ih _ (by rw[← hm];exact tF) rfl lX Fr) K0 X4
 simp at go
 rcases dU of with rfl|⟨rs,rfl,kQ,jG⟩
 ·simp[ry,g0]
  refine go _ ⟨?_,?_,?_,F0,Ks.refl _ _ _,g0,by omega,Ui⟩<;>simp[bP]
 ·have hlen:bP (.sl rs.flatten rs.length (W0 4).length .any)=rs.length:=rfl
  rw[hlen] at go
  clear ih hm ol ol2 of
  generalize rs.flatten=L at go g0
  simp[ry,g0]
  refine go _ ⟨?_,?_,?_,F0,Ks.refl _ _ _,g0,by omega,Ui⟩<;>simp
end Tb
/-
 SU: the reference's faults: whole expressions. No condition.
-/
namespace Tb
open Go.Sx Go
variable{C:cU}(S:dd C)
include S
theorem HZ{l:List AV}(ol:cJ W0 sj l){f:Key}{h:T ab}{nx:Key}(F:Fb f h nx):aO C bF [.ptr f 0,.agg l] h nx (yD f h nx):=by
 have q1:=S.xw
 have q2:=S.tW
 have hl:l.length=7:=ol.len
 have hc:l.all AV.aD=true:=mi.2 ol.aU
 have hz:∀ n H,az (ax n) l H=(l,H):=fun n H=>av ol.bY
 have s0:=kTSu nx
 have Ui:nx≠f:=aG (by have:=F.hi;omega)
 have F0:=F.ext (E0 h nx (.cells l .fix))
 have K0:=(E0 h nx (.cells l .fix)).ks f
 refine S.RL.call ?_
 simp[qQ]
 simp[Be]
 have g0:aa nx (aK nx (some (.cells l .fix)) h)=some (.cells l .fix):=by rw[gTSm]
 generalize aK nx (some (.cells l .fix)) h=Hb at F0 K0 g0 ⊢
 have rest:∀ (tm':T AV) (hx:T ab) (aF:Key),aa (K 0) tm'=some (.ptr f 0)→aa (K 3) tm'=some (.ptr nx 0)→Fb f hx aF→Ks f Hb nx.succ hx aF→
   eu C (aN [] (yD f h nx)) rS tm' hx aF:=by
  intro tm' hx aF e0 e3 Fx kx
  have gb:aa nx hx=some (.cells l .fix):=bH kx (by omega) Ui g0
  simp[rS,e0,e3,gb,hl,sh hl,hz,q2]
  refine(ajM S _ rfl ol Fx).mono ?_
  rintro o h2 aH ⟨rfl,F2,k2⟩
  simp
  exact⟨rfl,F2,K0.trans (kx.trans k2)⟩
 obtain⟨b0,b1,b2,b3,gf⟩:=F0.g
 cases b0 with
 |true=>
  simp[rR,gf]
  exact rest _ _ _ (by simp) (by simp) (F0.put _ _ _ _) (tw _ _ _ _)
 |false=>
  simp[rR,gf,g0,hl,sh hl,hz,q1]
  refine(WK S _ rfl ol _ _).mono ?_
  rintro o h2 aH ⟨⟨w,rfl,ow⟩,x2⟩
  have F2:=F0.ext x2
  have gf2:aa f h2=some (.cells [.bool false,.bool b1,.bool b2,.bool b3] .fix):=by rw[x2.g f F0.hi];exact gf
  simp[gf2]
  exact rest _ _ _ (by simp) (by simp) (F2.put _ _ _ _) ((x2.ks f).trans (tw _ _ _ _))
end Tb
/-
 SU: the reference's faults: checks. No condition.
-/
namespace Tb
open Go.Sx Go
theorem ck8{l:List AV}(h:cJ W0 (.str ::sj) l):∃ sn sc t,l=.str sn sc ::t∧sn≤10000∧cJ W0 sj t∧t.length=7:=by
 cases h with
 |cons _ _ c1 _ h1 h=>
  obtain⟨sn,sc,rfl,hn⟩:=tK h1
  exact⟨sn,sc,_,rfl,hn,h,h.len⟩
variable{C:cU}(S:dd C)
include S
theorem adB{c:AV}(oc:dg W0 (.sl 9) c){f:Key}{h:T ab}{nx:Key}(F:Fb f h nx):aO C fL [.ptr f 0,c] h nx (yD f h nx):=by
 have q1:=S.aq
 have q2:=S.ar
 have q3:=S.dT
 have loop:∀ (tm':T AV) (hx:T ab) (aF:Key),aa (K 0) tm'=some (.ptr f 0)→aa (K 1) tm'=some c→Fb f hx aF→Ks f h nx hx aF→
   bt C ((U.ops nI).seq (U.block 0 (U.loop nK))) (aN [] (yD f h nx)) tm' hx aF:=by
  intro tm' hx aF e0 e1 Fx kx
  simp
  simp[nI]
  refine W.bV (n:=bP c) (agP f c h nx (bP c)) ?_ ?_
  ·exact⟨0,by omega,by omega,by simp[e0],by simp[e1],by simp,Fx,kx⟩
  clear e0 e1
  rintro k jk h1 aY ⟨i,rfl,hi,f0,f1,f4,F1,k1⟩
  refine W.of ?_
  simp[nK]
  rcases dU oc with rfl|⟨rs,rfl,kQ,jG⟩
  ·have BC:i=0:=by simp[bP] at hi;omega
   subst BC
   simp[jl,f1,f4]
   exact⟨rfl,F1,k1⟩
  ·simp[bP] at hi ⊢
   by_cases aM:i<rs.length
   ·have aX:(i:Int)<rs.length:=by omega
    have hw:=jH aM kQ
    obtain⟨r,hr,er,h3,lX,se,hz⟩:=kR (z:=8) rfl jG aM
    obtain⟨sn,sc,t,rfl,sf,ot,ht⟩:=ck8 lX
    have ez:(W0 9).length=8:=rfl
    have hzt:∀ n H,az (ax n) t H=(t,H):=fun n H=>av ot.bY
    simp only[ez] at f1 ⊢
    generalize rs.flatten=L at f1 er h3 ⊢
    simp[jl,f1,f4,aX]
    simp[vR,f0,f1,f4,aM,h3,er,q2]
    refine(iS S F1 sf 0).mono ?_
    rintro o h2 aH ⟨rfl,F2,k2⟩
    simp
    simp[vS,f0,f1,f4,aM,h3,er,ht,sh ht,hzt,q3]
    refine(HZ S ot F2).mono ?_
    rintro o h4 jq ⟨rfl,F4,k4⟩
    simp
    simp[vT,f4]
    refine⟨rs.length-(i+1),by omega,?_⟩
    unfold agP
    exact⟨i+1,rfl,by omega,by simp[f0],by simp[f1],by simp[hw],F4,(k1.trans k2).trans k4⟩
   ·have aX:¬ (i:Int)<rs.length:=by omega
    generalize rs.flatten=L at f1
    simp[jl,f1,f4,aX]
    exact⟨rfl,F1,k1⟩
 simp at loop
 refine S.NP.call ?_
 simp[mr]
 rcases dU oc with rfl|⟨rs,rfl,kQ,jG⟩
 ·simp[nL,q1]
  refine(gV S F _).mono ?_
  rintro o h2 aH ⟨rfl,F2,k2⟩
  simp
  refine loop _ _ _ ?_ ?_ F2 k2<;>simp
 ·generalize rs.flatten=L at loop ⊢
  simp[nL,q1]
  refine(gV S F _).mono ?_
  rintro o h2 aH ⟨rfl,F2,k2⟩
  simp
  refine loop _ _ _ ?_ ?_ F2 k2<;>simp
end Tb
/-
 SU: the reference's faults: generators. No condition.
-/
namespace Tb
open Go.Sx Go
structure Xg(f b:Key)(l:List AV)(n a w:Nat)(Hb:T ab)(nb:Key)(tm:T AV)(h:T ab)(nx:Key):Prop where
 e0:aa (K 0) tm=some (.ptr f 0)
 e3:aa (K 3) tm=some (.ptr b 0)
 e4:aa (K 4) tm=some (I n)
 e5:aa (K 5) tm=some (I a)
 e6:aa (K 6) tm=some (I w)
 F:Fb f h nx
 k:Ks f Hb nb h nx
 g:aa b h=some (.cells l .fix)
 hb:b.toNat<nx.toNat
 ne:b≠f
theorem Xg.call{f b:Key}{l:List AV}{n a w:Nat}{Hb h h':T ab}{nb nx nx':Key}{tm tm':T AV}(X:Xg f b l n a w Hb nb tm h nx)(F:Fb f h' nx')(k:Ks f h nx h' nx')(e0:aa (K 0) tm'=aa (K 0) tm:=by simp)(e3:aa (K 3) tm'=aa (K 3) tm:=by simp)(e4:aa (K 4) tm'=aa (K 4) tm:=by simp)(e5:aa (K 5) tm'=aa (K 5) tm:=by simp)(e6:aa (K 6) tm'=aa (K 6) tm:=by simp):Xg f b l n a w Hb nb tm' h' nx':=
 ⟨e0.trans X.e0,e3.trans X.e3,e4.trans X.e4,e5.trans X.e5,e6.trans X.e6,F,X.k.trans k,bH k X.hb X.ne X.g,by have:=X.hb;have:=k.n;omega,X.ne⟩
theorem Xg.aQ{f b:Key}{l:List AV}{n a w:Nat}{Hb h:T ab}{nb nx:Key}{tm tm':T AV}(X:Xg f b l n a w Hb nb tm h nx)(e0:aa (K 0) tm'=aa (K 0) tm:=by simp)(e3:aa (K 3) tm'=aa (K 3) tm:=by simp)(e4:aa (K 4) tm'=aa (K 4) tm:=by simp)(e5:aa (K 5) tm'=aa (K 5) tm:=by simp)(e6:aa (K 6) tm'=aa (K 6) tm:=by simp):Xg f b l n a w Hb nb tm' h nx:=
 ⟨e0.trans X.e0,e3.trans X.e3,e4.trans X.e4,e5.trans X.e5,e6.trans X.e6,X.F,X.k,X.g,X.hb,X.ne⟩
def abh(s:Nat)(f b:Key)(l:List AV)(n a w:Nat)(Hb:T ab)(nb:Key)(m:Nat)(k:Nat)(tm':T AV)(h':T ab)(nx':Key):Prop:=
 ∃ (i:Nat),k=m-i∧i≤m∧aa (K s) tm'=some (I i)∧Xg f b l n a w Hb nb tm' h' nx'
variable{C:cU}(S:dd C)
include S
variable{f b:Key}{sn sc:Nat}{kd:Int}{c d e at':AV}{n a w:Nat}{Hb h h':T ab}{nb nx nx':Key}{tm:T AV}
theorem ann(oe:dg W0 (.sl 5) e)(ih:∀ r:List AV,cJ W0 RZ r→sizeOf r<sizeOf [I kd,.str sn sc,c,d,e,at']→∀ {h:T ab} {nx:Key},Fb f h nx→aO C gX [.ptr f 0,.agg r] h nx (yD f h nx))(kb:Ks f h nx Hb nb)(hn:n=bP e)(X:Xg f b [I kd,.str sn sc,c,d,e,at'] n a w Hb nb tm h' nx') :
  bt C ((U.ops fc).seq (U.block 5 (U.loop fC))) (aN [] (yD f h nx)) tm h' nx':=by
 have q1:=S.Gj
 simp
 simp[fc]
 refine W.bV (n:=n) (abh 9 f b [I kd,.str sn sc,c,d,e,at'] n a w Hb nb n) ?_ ?_
 ·exact⟨0,by omega,by omega,by simp,X.aQ (by simp) (by simp) (by simp) (by simp) (by simp)⟩
 clear X
 rintro k jk h1 aY ⟨i,rfl,hi,fs,X⟩
 refine W.of ?_
 have e0:=X.e0
 have e3:=X.e3
 have ec:=X.e4
 have g:=X.g
 simp[fC]
 by_cases aM:i<n
 ·have aX:(i:Int)<n:=by omega
  rcases dU oe with rfl|⟨rs,rfl,kQ,jG⟩
  ·simp[bP] at hn;omega
  ·simp[bP] at hn
   subst hn
   have hw:=jH aM kQ
   obtain⟨r,hr,er,h3,lX,se,hz⟩:=kR (z:=6) rfl jG aM
   have tF:=UO (rs:=rs) (n:=rs.length) (z:=(W0 5).length) (f:=.any) (l:=[I kd,.str sn sc,c,d,.sl rs.flatten rs.length (W0 5).length .any,at']) (by simp) hr
   have ua:=ih r lX tF X.F
   clear tF
   have ez:(W0 5).length=6:=rfl
   simp only[ez] at g X ⊢
   clear oe ih
   generalize rs.flatten=L at g er h3 X ⊢
   simp[rX,fs,ec,aX]
   simp[Bm,e0,e3,fs,g,aM,h3,er,se,sh se,hz,q1]
   refine(ua).mono ?_
   rintro o h2 aH ⟨rfl,F2,k2⟩
   simp
   simp[Bn,fs]
   refine⟨rs.length-(i+1),by omega,?_⟩
   unfold abh
   exact⟨i+1,rfl,by omega,by simp[hw],X.call F2 k2 (by simp) (by simp) (by simp) (by simp) (by simp)⟩
 ·have aX:¬ (i:Int)<n:=by omega
  simp[rX,fs,ec,aX]
  exact⟨rfl,X.F,kb.trans X.k⟩
theorem ano(od:dg W0 (.sl 4) d)(hn:a=bP d){P:T AV→T ab→Key→Prop}{Q:bp}(cont:∀ tm' hx aF,Xg f b [I kd,.str sn sc,c,d,e,at'] n a w Hb nb tm' hx aF→P tm' hx aF)(X:Xg f b [I kd,.str sn sc,c,d,e,at'] n a w Hb nb tm h' nx') :
  bt C ((U.ops iK).seq (U.block 3 (U.loop jf))) (ak P Q) tm h' nx':=by
 have q1:=S.tW
 simp
 simp[iK]
 refine W.bV (n:=a) (abh 8 f b [I kd,.str sn sc,c,d,e,at'] n a w Hb nb a) ?_ ?_
 ·exact⟨0,by omega,by omega,by simp,X.aQ (by simp) (by simp) (by simp) (by simp) (by simp)⟩
 clear X
 rintro k jk h1 aY ⟨i,rfl,hi,fs,X⟩
 refine W.of ?_
 have e0:=X.e0
 have e3:=X.e3
 have ec:=X.e5
 have g:=X.g
 simp[jf]
 by_cases aM:i<a
 ·have aX:(i:Int)<a:=by omega
  rcases dU od with rfl|⟨rs,rfl,kQ,jG⟩
  ·simp[bP] at hn;omega
  ·simp[bP] at hn
   subst hn
   have hw:=jH aM kQ
   obtain⟨r,hr,er,h3,lX,se,hz⟩:=kR (z:=7) rfl jG aM
   have ez:(W0 4).length=7:=rfl
   simp only[ez] at g X ⊢
   clear od cont
   generalize rs.flatten=L at g er h3 X ⊢
   simp[rW,fs,ec,aX]
   simp[Bk,e0,e3,fs,g,aM,h3,er,se,sh se,hz,q1]
   refine(ajM S _ rfl lX X.F).mono ?_
   rintro o h2 aH ⟨rfl,F2,k2⟩
   simp
   simp[Bl,fs]
   refine⟨rs.length-(i+1),by omega,?_⟩
   unfold abh
   exact⟨i+1,rfl,by omega,by simp[hw],X.call F2 k2 (by simp) (by simp) (by simp) (by simp) (by simp)⟩
 ·have aX:¬ (i:Int)<a:=by omega
  simp[rW,fs,ec,aX]
  exact cont _ _ _ (X.aQ)
theorem af0(oc:dg W0 (.sl 1) c)(hn:w=bP c){P:T AV→T ab→Key→Prop}{Q:bp}(cont:∀ tm' hx aF,Xg f b [I kd,.str sn sc,c,d,e,at'] n a w Hb nb tm' hx aF→P tm' hx aF)(X:Xg f b [I kd,.str sn sc,c,d,e,at'] n a w Hb nb tm h' nx') :
  bt C ((U.ops dD).seq (U.block 1 (U.loop dW))) (ai 0 (ak P Q)) tm h' nx':=by
 have q1:=S.bl
 simp
 simp[dD]
 refine W.bV (n:=w) (abh 7 f b [I kd,.str sn sc,c,d,e,at'] n a w Hb nb w) ?_ ?_
 ·exact⟨0,by omega,by omega,by simp,X.aQ (by simp) (by simp) (by simp) (by simp) (by simp)⟩
 clear X
 rintro k jk h1 aY ⟨i,rfl,hi,fs,X⟩
 refine W.of ?_
 have e0:=X.e0
 have e3:=X.e3
 have ec:=X.e6
 have g:=X.g
 simp[dW]
 by_cases aM:i<w
 ·have aX:(i:Int)<w:=by omega
  rcases dU oc with rfl|⟨rs,rfl,kQ,jG⟩
  ·simp[bP] at hn;omega
  ·simp[bP] at hn
   subst hn
   have hw:=jH aM kQ
   obtain⟨r,hr,er,h3,lX,se,hz⟩:=kR (z:=1) rfl jG aM
   obtain⟨c0,rfl,oc0⟩:=one_cell lX
   obtain⟨v,rfl,_,_⟩:=sy oc0
   rw[Nat.mul_one] at er h3
   have ez:(W0 1).length=1:=rfl
   simp only[ez] at g X ⊢
   clear oc cont
   generalize rs.flatten=L at g er h3 X ⊢
   simp[rV,fs,ec,aX]
   simp[Bi,e0,e3,fs,g,aM,h3,er,se,q1]
   refine(QP S X.F _ _).mono ?_
   rintro o h2 aH ⟨rfl,F2,k2⟩
   simp
   simp[Bj,fs]
   refine⟨rs.length-(i+1),by omega,?_⟩
   unfold abh
   exact⟨i+1,rfl,by omega,by simp[hw],X.call F2 k2 (by simp) (by simp) (by simp) (by simp) (by simp)⟩
 ·have aX:¬ (i:Int)<w:=by omega
  simp[rV,fs,ec,aX]
  exact cont _ _ _ (X.aQ)
theorem awu(oc:dg W0 (.sl 1) c)(hw:w=bP c)(sf:sn≤10000){P:T AV→T ab→Key→Prop}{Q:bp}(cont:∀ tm' hx aF,Xg f b [I kd,.str sn sc,c,d,e,at'] n a w Hb nb tm' hx aF→P tm' hx aF)(X:Xg f b [I kd,.str sn sc,c,d,e,at'] n a w Hb nb tm h' nx') :
  bt C ((U.ops dh)) (ai 0 (ak P Q)) tm h' nx':=by
 have qa:=S.ay
 have qn:=S.ar
 have qm:=S.aq
 obtain⟨te,uC⟩:∃ te,opS .eql sn sc 0 0=some (.bool te):=⟨_,rfl⟩
 simp
 cases te with
 |true=>
  rcases du (w:Int) 0 with⟨h2,Vt⟩|⟨h2,Vt⟩
  ·rcases du (a:Int) 1 with⟨h1,SQ⟩|⟨h1,SQ⟩
   ·simp[dh,X.e0,X.e3,X.e4,X.e5,X.e6,X.g,qa,uC,h2,h1]
    refine(aC S X.F _).mono ?_
    rintro o h2 aH ⟨rfl,F2,k2⟩
    simp
    exact cont _ _ _ (X.call F2 k2)
   ·simp[dh,X.e0,X.e3,X.e5,X.e6,X.g,qa,uC,h2,SQ]
    refine(aC S X.F _).mono ?_
    rintro o h2 aH ⟨rfl,F2,k2⟩
    simp
    exact cont _ _ _ (X.call F2 k2)
  ·simp[dh,X.e0,X.e3,X.e6,X.g,qa,uC,Vt]
   refine(aC S X.F _).mono ?_
   rintro o h2 aH ⟨rfl,F2,k2⟩
   simp
   exact cont _ _ _ (X.call F2 k2)
 |false=>
  simp[dh,X.e0,X.e3,X.g,qa,uC]
  refine(aC S X.F _).mono ?_
  rintro o h2 aH ⟨rfl,F2,k2⟩
  simp
  exact cont _ _ _ (X.call F2 k2)
theorem awv(oc:dg W0 (.sl 1) c)(hw:w=bP c)(sf:sn≤10000){P:T AV→T ab→Key→Prop}{Q:bp}(cont:∀ tm' hx aF,Xg f b [I kd,.str sn sc,c,d,e,at'] n a w Hb nb tm' hx aF→P tm' hx aF)(X:Xg f b [I kd,.str sn sc,c,d,e,at'] n a w Hb nb tm h' nx') :
  bt C ((U.ops di)) (ai 0 (ak P Q)) tm h' nx':=by
 have qa:=S.ay
 have qn:=S.ar
 have qm:=S.aq
 obtain⟨te,uC⟩:∃ te,opS .eql sn sc 0 0=some (.bool te):=⟨_,rfl⟩
 simp
 cases te with
 |true=>
  rcases du (w:Int) 0 with⟨h2,Vt⟩|⟨h2,Vt⟩
  ·rcases du (a:Int) 2 with⟨h1,SQ⟩|⟨h1,SQ⟩
   ·simp[di,X.e0,X.e3,X.e4,X.e5,X.e6,X.g,qa,uC,h2,h1]
    refine(aC S X.F _).mono ?_
    rintro o h2 aH ⟨rfl,F2,k2⟩
    simp
    exact cont _ _ _ (X.call F2 k2)
   ·simp[di,X.e0,X.e3,X.e5,X.e6,X.g,qa,uC,h2,SQ]
    refine(aC S X.F _).mono ?_
    rintro o h2 aH ⟨rfl,F2,k2⟩
    simp
    exact cont _ _ _ (X.call F2 k2)
  ·simp[di,X.e0,X.e3,X.e6,X.g,qa,uC,Vt]
   refine(aC S X.F _).mono ?_
   rintro o h2 aH ⟨rfl,F2,k2⟩
   simp
   exact cont _ _ _ (X.call F2 k2)
 |false=>
  simp[di,X.e0,X.e3,X.g,qa,uC]
  refine(aC S X.F _).mono ?_
  rintro o h2 aH ⟨rfl,F2,k2⟩
  simp
  exact cont _ _ _ (X.call F2 k2)
theorem aww(oc:dg W0 (.sl 1) c)(hw:w=bP c)(sf:sn≤10000){P:T AV→T ab→Key→Prop}{Q:bp}(cont:∀ tm' hx aF,Xg f b [I kd,.str sn sc,c,d,e,at'] n a w Hb nb tm' hx aF→P tm' hx aF)(X:Xg f b [I kd,.str sn sc,c,d,e,at'] n a w Hb nb tm h' nx') :
  bt C ((U.ops cT)) (ai 0 (ak P Q)) tm h' nx':=by
 have qa:=S.ay
 have qn:=S.ar
 have qm:=S.aq
 obtain⟨te,uC⟩:∃ te,opS .eql sn sc 0 0=some (.bool te):=⟨_,rfl⟩
 simp
 cases te with
 |true=>
  rcases du (w:Int) 0 with⟨h2,Vt⟩|⟨h2,Vt⟩
  ·rcases du (a:Int) 2 with⟨h1,SQ⟩|⟨h1,SQ⟩
   ·simp[cT,X.e0,X.e3,X.e4,X.e5,X.e6,X.g,qa,uC,h2,h1]
    refine(aC S X.F _).mono ?_
    rintro o h2 aH ⟨rfl,F2,k2⟩
    simp
    exact cont _ _ _ (X.call F2 k2)
   ·simp[cT,X.e0,X.e3,X.e5,X.e6,X.g,qa,uC,h2,SQ]
    refine(aC S X.F _).mono ?_
    rintro o h2 aH ⟨rfl,F2,k2⟩
    simp
    exact cont _ _ _ (X.call F2 k2)
  ·simp[cT,X.e0,X.e3,X.e6,X.g,qa,uC,Vt]
   refine(aC S X.F _).mono ?_
   rintro o h2 aH ⟨rfl,F2,k2⟩
   simp
   exact cont _ _ _ (X.call F2 k2)
 |false=>
  simp[cT,X.e0,X.e3,X.g,qa,uC]
  refine(aC S X.F _).mono ?_
  rintro o h2 aH ⟨rfl,F2,k2⟩
  simp
  exact cont _ _ _ (X.call F2 k2)
theorem awx(oc:dg W0 (.sl 1) c)(hw:w=bP c)(sf:sn≤10000){P:T AV→T ab→Key→Prop}{Q:bp}(cont:∀ tm' hx aF,Xg f b [I kd,.str sn sc,c,d,e,at'] n a w Hb nb tm' hx aF→P tm' hx aF)(X:Xg f b [I kd,.str sn sc,c,d,e,at'] n a w Hb nb tm h' nx') :
  bt C (((U.ops cQ).seq ((U.ops eR).seq ((U.ops eS).seq ((U.ops dD).seq (U.block 1 (U.loop dW))))))) (ai 0 (ak P Q)) tm h' nx':=by
 have qa:=S.ay
 have qn:=S.ar
 have qm:=S.aq
 obtain⟨te,uC⟩:∃ te,opS .eql sn sc 0 0=some (.bool te):=⟨_,rfl⟩
 simp
 have key:∀ (Iw:T AV) (hx:T ab) (aF:Key),Xg f b [I kd,.str sn sc,c,d,e,at'] n a w Hb nb Iw hx aF→bt C ((U.ops eR).seq ((U.ops eS).seq ((U.ops dD).seq (U.block 1 (U.loop dW))))) (ai 0 (ak P Q)) Iw hx aF:=by
  intro Iw hx aF X
  simp
  simp[eR,X.e0,X.e4,qm]
  refine(gV S X.F _).mono ?_
  rintro o h2 aH ⟨rfl,F2,k2⟩
  simp
  simp[eS,X.e0,X.e6,qm]
  refine(gV S F2 _).mono ?_
  rintro o h3 dw ⟨rfl,F3,k3⟩
  simp
  exact af0 S oc hw cont (X.call F3 (k2.trans k3))
 simp at key
 cases te with
 |true=>
  rcases du (w:Int) n with⟨h2,Vt⟩|⟨h2,Vt⟩
  ·rcases du (a:Int) 0 with⟨h1,SQ⟩|⟨h1,SQ⟩
   ·simp[cQ,X.e0,X.e3,X.e4,X.e5,X.e6,X.g,qa,uC,h2,h1]
    refine(aC S X.F _).mono ?_
    rintro o h2 aH ⟨rfl,F2,k2⟩
    simp
    exact key _ _ _ (X.call F2 k2)
   ·simp[cQ,X.e0,X.e3,X.e4,X.e5,X.e6,X.g,qa,uC,h2,SQ]
    refine(aC S X.F _).mono ?_
    rintro o h2 aH ⟨rfl,F2,k2⟩
    simp
    exact key _ _ _ (X.call F2 k2)
  ·simp[cQ,X.e0,X.e3,X.e4,X.e6,X.g,qa,uC,Vt]
   refine(aC S X.F _).mono ?_
   rintro o h2 aH ⟨rfl,F2,k2⟩
   simp
   exact key _ _ _ (X.call F2 k2)
 |false=>
  simp[cQ,X.e0,X.e3,X.g,qa,uC]
  refine(aC S X.F _).mono ?_
  rintro o h2 aH ⟨rfl,F2,k2⟩
  simp
  exact key _ _ _ (X.call F2 k2)
theorem awy(oc:dg W0 (.sl 1) c)(hw:w=bP c)(sf:sn≤10000){P:T AV→T ab→Key→Prop}{Q:bp}(cont:∀ tm' hx aF,Xg f b [I kd,.str sn sc,c,d,e,at'] n a w Hb nb tm' hx aF→P tm' hx aF)(X:Xg f b [I kd,.str sn sc,c,d,e,at'] n a w Hb nb tm h' nx') :
  bt C (((U.ops eT).seq ((U.ops eU).seq (U.ops eW)))) (ai 0 (ak P Q)) tm h' nx':=by
 have qa:=S.ay
 have qn:=S.ar
 have qm:=S.aq
 obtain⟨te,uC⟩:∃ te,opS .eql sn sc 0 0=some (.bool te):=⟨_,rfl⟩
 simp
 have key:∀ (Iw:T AV) (hx:T ab) (aF:Key),Xg f b [I kd,.str sn sc,c,d,e,at'] n a w Hb nb Iw hx aF→bt C ((U.ops eU).seq (U.ops eW)) (ai 0 (ak P Q)) Iw hx aF:=by
  intro Iw hx aF X
  simp
  simp[eU,X.e0,X.e3,X.g,qn]
  refine(iS S X.F sf _).mono ?_
  rintro o h2 aH ⟨rfl,F2,k2⟩
  simp
  simp[eW,X.e0,X.e4,qm]
  refine(gV S F2 _).mono ?_
  rintro o h3 dw ⟨rfl,F3,k3⟩
  simp
  exact cont _ _ _ (X.call F3 (k2.trans k3))
 simp at key
 rcases du (w:Int) 0 with⟨h1,SQ⟩|⟨h1,SQ⟩
 ·simp[eT,X.e0,X.e5,X.e6,qa,h1]
  refine(aC S X.F _).mono ?_
  rintro o h2 aH ⟨rfl,F2,k2⟩
  simp
  exact key _ _ _ (X.call F2 k2)
 ·simp[eT,X.e0,X.e6,qa,SQ]
  refine(aC S X.F _).mono ?_
  rintro o h2 aH ⟨rfl,F2,k2⟩
  simp
  exact key _ _ _ (X.call F2 k2)
theorem awz(oc:dg W0 (.sl 1) c)(hw:w=bP c)(sf:sn≤10000){P:T AV→T ab→Key→Prop}{Q:bp}(cont:∀ tm' hx aF,Xg f b [I kd,.str sn sc,c,d,e,at'] n a w Hb nb tm' hx aF→P tm' hx aF)(X:Xg f b [I kd,.str sn sc,c,d,e,at'] n a w Hb nb tm h' nx') :
  bt C (((U.ops dE).seq (U.ops eX))) (ai 0 (ak P Q)) tm h' nx':=by
 have qa:=S.ay
 have qn:=S.ar
 have qm:=S.aq
 obtain⟨te,uC⟩:∃ te,opS .eql sn sc 0 0=some (.bool te):=⟨_,rfl⟩
 simp
 have key:∀ (Iw:T AV) (hx:T ab) (aF:Key),Xg f b [I kd,.str sn sc,c,d,e,at'] n a w Hb nb Iw hx aF→bt C (U.ops eX) (ai 0 (ak P Q)) Iw hx aF:=by
  intro Iw hx aF X
  simp[eX,X.e0,X.e3,X.g,qn]
  refine(iS S X.F sf _).mono ?_
  rintro o h2 aH ⟨rfl,F2,k2⟩
  simp
  exact cont _ _ _ (X.call F2 (k2))
 simp at key
 rcases du (w:Int) 0 with⟨h2,Vt⟩|⟨h2,Vt⟩
 ·rcases du (a:Int) 0 with⟨h1,SQ⟩|⟨h1,SQ⟩
  ·simp[dE,X.e0,X.e4,X.e5,X.e6,qa,h2,h1]
   refine(aC S X.F _).mono ?_
   rintro o h2 aH ⟨rfl,F2,k2⟩
   simp
   exact key _ _ _ (X.call F2 k2)
  ·simp[dE,X.e0,X.e5,X.e6,qa,h2,SQ]
   refine(aC S X.F _).mono ?_
   rintro o h2 aH ⟨rfl,F2,k2⟩
   simp
   exact key _ _ _ (X.call F2 k2)
 ·simp[dE,X.e0,X.e6,qa,Vt]
  refine(aC S X.F _).mono ?_
  rintro o h2 aH ⟨rfl,F2,k2⟩
  simp
  exact key _ _ _ (X.call F2 k2)
theorem awA(oc:dg W0 (.sl 1) c)(hw:w=bP c)(sf:sn≤10000){P:T AV→T ab→Key→Prop}{Q:bp}(cont:∀ tm' hx aF,Xg f b [I kd,.str sn sc,c,d,e,at'] n a w Hb nb tm' hx aF→P tm' hx aF)(X:Xg f b [I kd,.str sn sc,c,d,e,at'] n a w Hb nb tm h' nx') :
  bt C (((U.ops dG).seq (U.ops eY))) (ai 0 (ak P Q)) tm h' nx':=by
 have qa:=S.ay
 have qn:=S.ar
 have qm:=S.aq
 obtain⟨te,uC⟩:∃ te,opS .eql sn sc 0 0=some (.bool te):=⟨_,rfl⟩
 simp
 have key:∀ (Iw:T AV) (hx:T ab) (aF:Key),Xg f b [I kd,.str sn sc,c,d,e,at'] n a w Hb nb Iw hx aF→bt C (U.ops eY) (ai 0 (ak P Q)) Iw hx aF:=by
  intro Iw hx aF X
  simp[eY,X.e0,X.e3,X.g,qn]
  refine(iS S X.F sf _).mono ?_
  rintro o h2 aH ⟨rfl,F2,k2⟩
  simp
  exact cont _ _ _ (X.call F2 (k2))
 simp at key
 rcases du (w:Int) 0 with⟨h2,Vt⟩|⟨h2,Vt⟩
 ·rcases du (a:Int) 1 with⟨h1,SQ⟩|⟨h1,SQ⟩
  ·simp[dG,X.e0,X.e4,X.e5,X.e6,qa,h2,h1]
   refine(aC S X.F _).mono ?_
   rintro o h2 aH ⟨rfl,F2,k2⟩
   simp
   exact key _ _ _ (X.call F2 k2)
  ·simp[dG,X.e0,X.e5,X.e6,qa,h2,SQ]
   refine(aC S X.F _).mono ?_
   rintro o h2 aH ⟨rfl,F2,k2⟩
   simp
   exact key _ _ _ (X.call F2 k2)
 ·simp[dG,X.e0,X.e6,qa,Vt]
  refine(aC S X.F _).mono ?_
  rintro o h2 aH ⟨rfl,F2,k2⟩
  simp
  exact key _ _ _ (X.call F2 k2)
theorem awB(oc:dg W0 (.sl 1) c)(hw:w=bP c)(sf:sn≤10000){P:T AV→T ab→Key→Prop}{Q:bp}(cont:∀ tm' hx aF,Xg f b [I kd,.str sn sc,c,d,e,at'] n a w Hb nb tm' hx aF→P tm' hx aF)(X:Xg f b [I kd,.str sn sc,c,d,e,at'] n a w Hb nb tm h' nx') :
  bt C (((U.ops eZ).seq ((U.ops fa).seq (U.ops fb)))) (ai 0 (ak P Q)) tm h' nx':=by
 have qa:=S.ay
 have qn:=S.ar
 have qm:=S.aq
 obtain⟨te,uC⟩:∃ te,opS .eql sn sc 0 0=some (.bool te):=⟨_,rfl⟩
 simp
 have key:∀ (Iw:T AV) (hx:T ab) (aF:Key),Xg f b [I kd,.str sn sc,c,d,e,at'] n a w Hb nb Iw hx aF→bt C ((U.ops fa).seq (U.ops fb)) (ai 0 (ak P Q)) Iw hx aF:=by
  intro Iw hx aF X
  simp
  simp[fa,X.e0,X.e3,X.g,qn]
  refine(iS S X.F sf _).mono ?_
  rintro o h2 aH ⟨rfl,F2,k2⟩
  simp
  simp[fb,X.e0,X.e5,qm]
  refine(gV S F2 _).mono ?_
  rintro o h3 dw ⟨rfl,F3,k3⟩
  simp
  exact cont _ _ _ (X.call F3 (k2.trans k3))
 simp at key
 rcases du (w:Int) 0 with⟨h1,SQ⟩|⟨h1,SQ⟩
 ·simp[eZ,X.e0,X.e4,X.e6,qa,h1]
  refine(aC S X.F _).mono ?_
  rintro o h2 aH ⟨rfl,F2,k2⟩
  simp
  exact key _ _ _ (X.call F2 k2)
 ·simp[eZ,X.e0,X.e6,qa,SQ]
  refine(aC S X.F _).mono ?_
  rintro o h2 aH ⟨rfl,F2,k2⟩
  simp
  exact key _ _ _ (X.call F2 k2)
theorem awC(oc:dg W0 (.sl 1) c)(hw:w=bP c)(sf:sn≤10000){P:T AV→T ab→Key→Prop}{Q:bp}(cont:∀ tm' hx aF,Xg f b [I kd,.str sn sc,c,d,e,at'] n a w Hb nb tm' hx aF→P tm' hx aF)(X:Xg f b [I kd,.str sn sc,c,d,e,at'] n a w Hb nb tm h' nx') :
  bt C ((U.ops iJ)) (ai 0 (ak P Q)) tm h' nx':=by
 have qa:=S.ay
 have qn:=S.ar
 have qm:=S.aq
 obtain⟨te,uC⟩:∃ te,opS .eql sn sc 0 0=some (.bool te):=⟨_,rfl⟩
 simp
 simp[iJ,X.e0,qa]
 refine(aC S X.F _).mono ?_
 rintro o h2 aH ⟨rfl,F2,k2⟩
 simp
 exact cont _ _ _ (X.call F2 k2)
end Tb
