/- A part of the proof. No condition. -/
import Derived.Test.YtecbfpngkfdkoaaGreatP38
import Derived.Test.YtecbfpngkfdkoaaGreatP36
import Derived.Test.YtecbfpngkfdkoaaGreatP34
import Derived.Test.YtecbfpngkfdkoaaGreatP6
import Derived.Lib.LaidTab
set_option linter.unusedSimpArgs false
set_option linter.unusedVariables false
set_option linter.unusedSectionVars false
namespace Ln
open Go.Sx Go
def nN(os:List Op)(B:Bx)(d:Nat):List AV:=[I (lI os d),.ptr B.bo 0,.ptr B.bq 0,.ptr B.bl 0,.ptr B.bm 0,.ptr B.bf 0,.ptr B.bt 0,.ptr B.bw 0]
def Me(os:List Op)(cO:AV)(most:Nat)(B:Bx)(n1:Key)(qs:List (List Nat))(ord:List Nat)(d:Nat)(h:T ag)(nx:Key)(o:Out)(h':T ag)(nx':Key):Prop:=o=.ret (.tuple [])∧Gi os cO most B n1 qs ord d h' nx'∧nx.toNat≤nx'.toNat∧∀b:Key,b.toNat<n1.toNat→b≠B.bo→b≠B.bq→b≠B.bg→ae b h'=ae b h
structure GlS(os:List Op)(B:Bx)(d j:Nat)(tm:T AV):Prop where
 g0:ae (K 0) tm=some (I (lI os d))
 g1:ae (K 1) tm=some (.ptr B.bo 0)
 g2:ae (K 2) tm=some (.ptr B.bq 0)
 g3:ae (K 3) tm=some (.ptr B.bl 0)
 g4:ae (K 4) tm=some (.ptr B.bm 0)
 g5:ae (K 5) tm=some (.ptr B.bf 0)
 g6:ae (K 6) tm=some (.ptr B.bt 0)
 g7:ae (K 7) tm=some (.ptr B.bw 0)
 g20:ae (K 20) tm=some (I os.length)
 g21:ae (K 21) tm=some (I j)
variable{C:bU}{X:Kn}(S:Std C X)(D:Dcd C)
include S D
theorem aiO{os:List Op}(ho:os.length≤16){cO:AV}(hc:gR 10 eO cO os){most:Nat}(EN:most≤1000000){B:Bx}(P:UX B){n1:Key}{qs qs':List (List Nat)}{ord:List Nat}{d j:Nat}(hj:j<os.length)(hf:d.testBit j=false)(Vl:ord.length+1≤1000)
  (ih:∀{h:T ag} {nx:Key},Gi os cO most B n1 qs (ord ++ [j]) (d+2^j) h nx→aM C aZ (nN os B (d+2^j)) h nx (Me os cO most B n1 qs' (ord ++ [j]) (d+2^j) h nx))
  {h:T ag} {nx:Key} (G:Gi os cO most B n1 qs ord d h nx) {tm:T AV} (V:GlS os B d j tm) (g9:ae (K 9) tm=some (I j)) (g10:ae (K 10) tm=some (I (lI os (d+2^j)))) {Q:cJ}
  (hQ:∀tm' h' nx',GlS os B d j tm'→Gi os cO most B n1 qs' ord d h' nx'→nx.toNat≤nx'.toNat→(∀b:Key,b.toNat<n1.toNat→b≠B.bo→b≠B.bq→b≠B.bg→ae b h'=ae b h)→Q .norm tm' h' nx') :
  fJ C (.seq (.ops fY) (.seq (.ops fZ) (.seq (.ops gf) (.seq (.ops gh) (.ops gi))))) Q tm h nx:=by
 obtain⟨g0,g1,g2,g3,g4,g5,g6,g7,g20,g21⟩:=V;have rG:=S.r aZ;have s1:=kTSu nx;have yh:=gT (lH os.length d);rw[jw]at yh;have G1:=G.bit P (d+2^j);have Kk:=C3 (l:=lH os.length d) (i:=j) (by rw[jw];exact hj) true;rw[alV hj hf]at Kk;have hj1:j+1≤os.length:=hj;simp[fY,g6,g9,G.t,G.g,hj,hj1,yh,Kk];obtain⟨cP,c',h2,aN,p1,p2,p3,p4,p5,p6,G2,n2,f2⟩:=(G1.ext (E0 _ nx (.cells [I j] .fix))).push P Vl j;have e0:=E0 (au B.bg (Qw (c9 (lH os.length (d+2^j)))) h) nx (.cells [I j] .fix);have u:=G.ub;have hn:=G.n;have pq:ae B.bq (au B.bg (Qw (c9 (lH os.length (d+2^j)))) h)=Qw [cP]:=by rw[←e0.g B.bq (by omega)];exact p1
 simp[fZ,g2,g9,pq,p1,p2,p3,p4,p5,p6];have hw:ae B.bw (au B.bq (Qw [c']) h2)=_:=G2.w;simp[gf,g7,g10,hw,rG];refine(ih G2).mono ?_;rintro o h3 bP ⟨rfl,G3,n3,f3⟩;obtain⟨b,xu,q1,q2,G4,f4⟩:=G3.pop P;have hwl:bF .i64 (ord.length:Int)=ord.length:=aH (by omega) (by omega);have adI:=gT (lH os.length (d+2^j));rw[jw]at adI;have NF:=C3 (l:=lH os.length (d+2^j)) (i:=j) (by rw[jw];exact hj) false;rw[alW hj hf]at NF;have G5:=G4.bit P d;simp[gh,g2,q1,q2,hwl];simp[gi,g6,g9,G4.t,G4.g,hj,hj1,adI,NF];refine hQ _ _ _ ⟨?_,?_,?_,?_,?_,?_,?_,?_,?_,?_⟩ G5 (by have:=e0.n;omega) fun k hk ko kq kg=>?_
 ·simp[g0]
 ·simp[g1]
 ·simp[g2]
 ·simp[g3]
 ·simp[g4]
 ·simp[g5]
 ·simp[g6]
 ·simp[g7]
 ·simp[g20]
 ·simp[g21]
 ·rw[aG _ _ _ _ kg,f4 k hk kq,f3 k hk ko kq kg,f2 k hk kq,e0.g k (by omega),aG _ _ _ _ kg]
theorem aiP{os:List Op}(ho:os.length≤16)(nq:∀o∈os,o.e=-1∨0≤o.e){cO:AV}(hc:gR 10 eO cO os){most:Nat}(EN:most≤1000000){B:Bx}(P:UX B){n1:Key}{qs qs':List (List Nat)}{ord:List Nat}{d j:Nat}(bY:j<os.length)(qE:pg os j d=true)(Vl:ord.length+1≤1000)
  (ih:∀{h:T ag} {nx:Key},Gi os cO most B n1 qs (ord ++ [j]) (d+2^j) h nx→aM C aZ (nN os B (d+2^j)) h nx (Me os cO most B n1 qs' (ord ++ [j]) (d+2^j) h nx))
  {h:T ag} {nx:Key} (G:Gi os cO most B n1 qs ord d h nx) {tm:T AV} (V:GlS os B d j tm) (g9:ae (K 9) tm=some (I j)) {Q:cJ}
  (hQ:∀tm' h' nx',GlS os B d j tm'→Gi os cO most B n1 qs' ord d h' nx'→nx.toNat≤nx'.toNat→(∀b:Key,b.toNat<n1.toNat→b≠B.bo→b≠B.bq→b≠B.bg→ae b h'=ae b h)→Q .norm tm' h' nx') :
  fJ C (.seq (.ops nP) (.seq (.seq (.ops jK) (.cond (.t tE) (.ops nQ) .skip)) (.seq (.ops fY) (.seq (.ops fZ) (.seq (.ops gf) (.seq (.ops gh) (.ops gi))))))) Q tm h nx:=by
 have wP:=kH qE;obtain⟨g0,g1,g2,g3,g4,g5,g6,g7,g20,g21⟩:=V;have Eh:cO=.sl (ai eO os) os.length 10 .any:=hc.full bY;have fin:∀(tm':T AV),GlS os B d j tm'→ae (K 9) tm'=some (I j)→ae (K 10) tm'=some (I (lI os (d+2^j)))→fJ C (.seq (.ops fY) (.seq (.ops fZ) (.seq (.ops gf) (.seq (.ops gh) (.ops gi))))) Q tm' h nx:=
  fun tm' V' v9 v10=>aiO S D ho hc EN P bY wP Vl ih G V' v9 v10 hQ
 have Vi:=dP.at bY;have tk:10≤os.length*10-j*10:=by omega
 have wO:=dP.rows os;have es2:(eO os[j])[2]?=some (I os[j].e):=rfl;have hgd:=kF (os:=os) bY;have hGl:=G.l;rw[Eh]at hGl;simp[nP,g0];by_cases he:os[j].e=-1
 ·have hl:=aiQ (os:=os) (d:=d) wP (i:=j) (by rw[hgd];omega);simp[jK,g3,g9,hGl,bY,wO,tk,Vi,es2,he];refine Nu (fin _ ⟨?_,?_,?_,?_,?_,?_,?_,?_,?_,?_⟩ ?_ ?_)
  ·simp[g0]
  ·simp[g1]
  ·simp[g2]
  ·simp[g3]
  ·simp[g4]
  ·simp[g5]
  ·simp[g6]
  ·simp[g7]
  ·simp[g20]
  ·simp[g21]
  ·simp[g9]
  ·simp[←hl]
 ·have Gx:0≤os[j].e:=by
   rcases nq _ (DX bY)with h|h
   ·exact absurd h he
   ·exact h
  have hl:=alX (os:=os) (d:=d) (i:=j) bY wP (by rw[hgd];exact Gx);have hlb:lI os d≤os.length:=by unfold lI;exact Nat.le_trans List.countP_le_length (by rw[List.length_range];exact dQ _)
  have hw:bF .i64 ((lI os d:Int)-1)=(lI os (d+2^j):Nat):=by rw[aH (by omega) (by omega)];omega
  simp[jK,g3,g9,hGl,bY,wO,tk,Vi,es2,bq he,he];simp[nQ,hw];refine Nu (fin _ ⟨?_,?_,?_,?_,?_,?_,?_,?_,?_,?_⟩ ?_ ?_)
  ·simp[g0]
  ·simp[g1]
  ·simp[g2]
  ·simp[g3]
  ·simp[g4]
  ·simp[g5]
  ·simp[g6]
  ·simp[g7]
  ·simp[g20]
  ·simp[g21]
  ·simp[g9]
  ·simp
end Ln
namespace Ln
open Go.Sx Go
theorem ajj(os:List Op)(f:Nat)(ord:List Nat)(d:Nat):HL os f ord d (List.range 0)=[]:=rfl
theorem NY(os:List Op)(f:Nat)(ord:List Nat)(d j:Nat):HL os f ord d (List.range (j+1))=HL os f ord d (List.range j)++if pg os j d=true then dfs os f (ord ++ [j]) (d+2^j)else []:=by unfold HL;rw[List.range_succ,List.flatMap_append];simp
theorem ang(os:List Op)(f:Nat)(ord:List Nat)(d:Nat){j n:Nat}(h:j≤n):∃t,HL os f ord d (List.range n)=HL os f ord d (List.range j)++t:=by
 induction n with
 |zero=>obtain rfl:j=0:=Nat.le_zero.1 h;exact⟨[],by simp⟩
 |succ n ih=>
  by_cases e:j=n+1
  ·subst e;exact⟨[],by simp⟩
  ·obtain⟨t,ht⟩:=ih (by omega);exact⟨_,by rw[NY,ht,List.append_assoc]⟩
def GwI(os:List Op)(cO:AV)(most:Nat)(B:Bx)(n1:Key)(qs:List (List Nat))(f:Nat)(ord:List Nat)(d:Nat)(h:T ag)(nx:Key)(m:Nat)(tm':T AV)(h':T ag)(nx':Key):Prop:=∃j:Nat,m=os.length-j∧j≤os.length∧GlS os B d j tm'∧Gi os cO most B n1 ((qs++HL os f ord d (List.range j)).take most) ord d h' nx'∧nx.toNat≤nx'.toNat∧∀b:Key,b.toNat<n1.toNat→b≠B.bo→b≠B.bq→b≠B.bg→ae b h'=ae b h
variable{C:bU}{X:Kn}(S:Std C X)(D:Dcd C)
include S D
theorem ajk{os:List Op}(ho:os.length≤16)(nq:∀o∈os,o.e=-1∨0≤o.e){cO:AV}(hc:gR 10 eO cO os){most:Nat}(EN:most≤1000000){B:Bx}(P:UX B){n1:Key}{qs:List (List Nat)}{ord:List Nat}{d f:Nat}(Vl:ord.length+1≤1000)
  (ih:∀{j:Nat} {qs':List (List Nat)} {h:T ag} {nx:Key},j<os.length→pg os j d=true→qs'.length<most→Gi os cO most B n1 qs' (ord ++ [j]) (d+2^j) h nx→aM C aZ (nN os B (d+2^j)) h nx (Me os cO most B n1 ((qs'++dfs os f (ord ++ [j]) (d+2^j)).take most) (ord ++ [j]) (d+2^j) h nx))
  {h:T ag} {nx:Key} {m:Nat} {tm:T AV} {h1:T ag} {bW:Key} (A:GwI os cO most B n1 qs f ord d h nx m tm h1 bW) :
  W C (.loop jS) (az 0 (cY [] (Me os cO most B n1 ((qs++HL os f ord d (List.range os.length)).take most) ord d h nx))) tm h1 bW:=by
 have rF:=S.r cZ;refine W.eB (GwI os cO most B n1 qs f ord d h nx) A ?_;rintro m dF h2 aN ⟨j,rfl,hj,V,G,hn,hfr⟩;obtain⟨g0,g1,g2,g3,g4,g5,g6,g7,g20,g21⟩:=id V;refine W.of ?_;simp[jS];obtain⟨qj,hqj⟩:∃qj,qj=(qs++HL os f ord d (List.range j)).take most:=⟨_,rfl⟩;rw[←hqj]at G;have hqf:qj.length=most→qj=(qs++HL os f ord d (List.range os.length)).take most:=fun e=>by
  obtain⟨t,ht⟩:=ang os f ord d hj;rw[ht,←List.append_assoc,List.take_append_of_le_length]
  ·exact hqj
  ·rw[hqj,Zo]at e;omega
 have hqn:qj.length≠most→qj.length<most∧qj=qs++HL os f ord d (List.range j):=fun e=>by
  have h1:qj.length<most:=by have:=congrArg List.length hqj;rw[Zo]at this;omega
  refine⟨h1,hqj.trans (PV ?_)⟩;have:=congrArg List.length hqj;rw[Zo]at this;omega
 by_cases bY:j<os.length
 ·have Bh:(j:Int)<os.length:=by omega
  have Eh:cO=.sl (ai eO os) os.length 10 .any:=hc.full bY;obtain⟨cQ,cP,oQ,oP,r1,r2,r3,r4,r5,r6,r7⟩:=G.rows;have hR:=r3.rd;have hm:=G.m;have u:=G.ub;have gn:=G.n;have OB:OrB os cO d B.bl B.bt B.bg h2 aN:=⟨G.l,G.t,G.g,by omega,by omega,by omega⟩;have next:∀(tm':T AV) (h':T ag) (nx':Key) (q:List (List Nat)),GlS os B d j tm'→Gi os cO most B n1 q ord d h' nx'→aN.toNat≤nx'.toNat→(∀b:Key,b.toNat<n1.toNat→b≠B.bo→b≠B.bq→b≠B.bg→ae b h'=ae b h2)→q=(qs++HL os f ord d (List.range (j+1))).take most→
    fJ C (.ops mJ) (aO (fun tm h1 bW=>∃m,m<os.length-j∧GwI os cO most B n1 qs f ord d h nx m tm h1 bW) (az 0 (cY [] (Me os cO most B n1 (List.take most (qs++HL os f ord d (List.range os.length))) ord d h nx)))) tm' h' nx':=by
   intro tm' h' nx' q V' G' hn' hf' hq;obtain⟨v0,v1,v2,v3,v4,v5,v6,v7,v20,v21⟩:=V';simp[mJ,v21];rw[aH (by omega) (by omega)];unfold GwI;refine⟨os.length-(j+1),by omega,j+1,rfl,by omega,⟨?_,?_,?_,?_,?_,?_,?_,?_,?_,?_⟩,by rw[←hq];exact G',by omega,fun b h1 h2 h3 h4=>by rw[hf' b h1 h2 h3 h4,hfr b h1 h2 h3 h4]⟩
   ·simp[v0]
   ·simp[v1]
   ·simp[v2]
   ·simp[v3]
   ·simp[v4]
   ·simp[v5]
   ·simp[v6]
   ·simp[v7]
   ·simp[v20]
   ·simp
  simp[nY,g20,g21,Bh];simp[w8,g21];by_cases hql:qj.length=most
  ·have hqi:(qj.length:Int)=most:=by omega
   simp[↓hR.ln,nZ,g1,g4,r1,hm,hqi];exact⟨rfl,by rw[←hqf hql];exact G,hn,hfr⟩
  ·have hqi:¬(qj.length:Int)=most:=by omega
   obtain⟨aIf,hqe⟩:=hqn hql;simp[↓hR.ln,nZ,g1,g4,r1,hm,bq hqi];simp[w9,g5,G.f,rF];refine(aqO S D ho nq hc bY OB).mono ?_;rintro o h3 bP ⟨rfl,e3⟩;have G3:=G.ext e3;have n3:=e3.n;cases qE:pg os j d with
   |false=>
    simp;refine Nu (next _ _ _ qj ⟨?_,?_,?_,?_,?_,?_,?_,?_,?_,?_⟩ G3 n3 (fun b h1 h2 h3 h4=>e3.g b (by omega)) ?_)
    ·simp[g0]
    ·simp[g1]
    ·simp[g2]
    ·simp[g3]
    ·simp[g4]
    ·simp[g5]
    ·simp[g6]
    ·simp[g7]
    ·simp[g20]
    ·simp[g21]
    ·rw[NY,qE];simp only[UT,if_false,List.append_nil];rw[←hqe,PV (by omega)]
   |true=>
    simp;refine aiP S D ho nq hc EN P bY qE Vl (fun {h nx} G'=>ih bY qE aIf G') G3 (tm:=_) ⟨?_,?_,?_,?_,?_,?_,?_,?_,?_,?_⟩ ?_ ?_
    ·simp[g0]
    ·simp[g1]
    ·simp[g2]
    ·simp[g3]
    ·simp[g4]
    ·simp[g5]
    ·simp[g6]
    ·simp[g7]
    ·simp[g20]
    ·simp[g21]
    ·simp
    ·intro tm2 h4 kK V4 G4 n4 f4;refine next _ _ _ _ V4 G4 (by omega) (fun b h1 h2 h3 h4=>?_) ?_
     ·rw[f4 b h1 h2 h3 h4,e3.g b (by omega)]
     ·rw[NY,qE,←List.append_assoc,←hqe];simp
 ·have yi:j=os.length:=by omega
  subst yi;simp[nY,g20,g21];exact⟨rfl,by rw[←hqj];exact G,hn,hfr⟩
end Ln
namespace Ln
open Go.Sx Go
theorem acP{d:Nat}:∀{n:Nat},pop n d=n→∀i,i<n→d.testBit i=true
 |0,_,i,hi=>by omega
 |n+1,h,i,hi=>by
  have hle:∀n:Nat,pop n d≤n:=fun n=>by
   induction n with
   |zero=>exact dQ _
   |succ n ih=>unfold pop;split<;>omega
  have h0:=hle n;unfold pop at h;cases hb:d.testBit n with
  |false=>rw[hb]at h;simp at h;omega
  |true=>
   rw[hb]at h;simp at h;by_cases e:i=n
   ·subst e;exact hb
   ·exact acP h i (by omega)
variable{C:bU}{X:Kn}(S:Std C X)(D:Dcd C)
include S D
theorem Xa{os:List Op}(ho:os.length≤16)(nq:∀o∈os,o.e=-1∨0≤o.e){cO:AV}(hc:gR 10 eO cO os){most:Nat}(EN:most≤1000000){B:Bx}(P:UX B){n1:Key}{f:Nat}{qs:List (List Nat)}{ord:List Nat}{d:Nat}{h:T ag}{nx:Key}(hl:ord.length≤100)(hq:qs.length<most)(G:Gi os cO most B n1 qs ord d h nx)
  (hr:∀{j:Nat} {qs':List (List Nat)} {h:T ag} {nx:Key},j<os.length→pg os j d=true→qs'.length<most→Gi os cO most B n1 qs' (ord ++ [j]) (d+2^j) h nx→aM C aZ (nN os B (d+2^j)) h nx (Me os cO most B n1 ((qs'++dfs os f (ord ++ [j]) (d+2^j)).take most) (ord ++ [j]) (d+2^j) h nx)) :
  aM C aZ (nN os B d) h nx (Me os cO most B n1 ((qs++dfs os (f+1) ord d).take most) ord d h nx):=by
 refine D.yC.call ?_;unfold nN;simp[tR];have loop:∀(q:List (List Nat)) (tm2:T AV) (h2:T ag) (aN:Key),q.length≤most→q++HL os f ord d (List.range os.length)=qs++dfs os (f+1) ord d→(∀i,i≤7→ae (K i) tm2=ae (K i) (iu (nN os B d) (K 0) .nil))→Gi os cO most B n1 q ord d h2 aN→nx.toNat≤aN.toNat→(∀b:Key,b.toNat<n1.toNat→b≠B.bo→ae b h2=ae b h)→
   fJ C (.seq (.ops oD) (.block 0 (.loop jS))) (cY [] (Me os cO most B n1 ((qs++dfs os (f+1) ord d).take most) ord d h nx)) tm2 h2 aN:=by
  intro q tm2 h2 aN hql hqe hk G2 Th hf2;have k0:=hk 0 (by omega);have k1:=hk 1 (by omega);have k2:=hk 2 (by omega);have k3:=hk 3 (by omega);have k4:=hk 4 (by omega);have k5:=hk 5 (by omega);have k6:=hk 6 (by omega);have k7:=hk 7 (by omega);unfold nN at k0 k1 k2 k3 k4 k5 k6 k7;simp at k0 k1 k2 k3 k4 k5 k6 k7;simp[↓(hc.rd h2 aN).ln,oD,k3,G2.l];rw[←hqe];refine ajk S D ho nq hc EN P (by omega) (fun {j qs' h nx} a1 a2 a3 a4=>hr a1 a2 a3 a4) (m:=os.length) ⟨0,by simp,by omega,⟨?_,?_,?_,?_,?_,?_,?_,?_,?_,?_⟩,?_,Th,fun b a1 a2 _ _=>hf2 b a1 a2⟩
  ·simp[k0]
  ·simp[k1]
  ·simp[k2]
  ·simp[k3]
  ·simp[k4]
  ·simp[k5]
  ·simp[k6]
  ·simp[k7]
  ·simp
  ·simp
  ·rw[ajj,List.append_nil,PV hql];exact G2
 by_cases h0:lI os d=0
 ·have h0i:(lI os d:Int)=0:=by omega
  have hb:AV.beq (I (lI os d)) (I (lI os d))=true:=beq_refl _ rfl;have hd:((lI os d:Int)==0)=true:=by rw[h0i];rfl
  simp[oy,hd];refine G.leaf P (by omega) (by omega) (by simp) (by simp) ?_;intro tm2 h2 aN hk G2 n2 f2;refine loop (qs ++ [ord]) _ _ _ (by rw[Ll];simp;omega) ?_ (fun i hi=>?_) G2 n2 f2
  ·rw[Tu,if_pos h0,List.append_assoc]
  ·rw[hk i hi];have:i=0∨i=1∨i=2∨i=3∨i=4∨i=5∨i=6∨i=7:=by omega
   unfold nN;rcases this with rfl|rfl|rfl|rfl|rfl|rfl|rfl|rfl<;>simp
 ·have h0i:¬(lI os d:Int)=0:=by omega
  simp[oy,bq h0i];refine Nu (loop qs _ _ _ (by omega) ?_ ?_ G (dQ _) fun _ _ _=>rfl)
  ·rw[Tu,if_neg h0,List.nil_append]
  ·intro i hi;have:i=0∨i=1∨i=2∨i=3∨i=4∨i=5∨i=6∨i=7:=by omega
   unfold nN;rcases this with rfl|rfl|rfl|rfl|rfl|rfl|rfl|rfl<;>simp
theorem aqm{os:List Op}(ho:os.length≤16)(nq:∀o∈os,o.e=-1∨0≤o.e){cO:AV}(hc:gR 10 eO cO os){most:Nat}(EN:most≤1000000){B:Bx}(P:UX B){n1:Key}:∀(f:Nat) {qs:List (List Nat)} {ord:List Nat} {d:Nat} {h:T ag} {nx:Key},pop os.length d+f=os.length→ord.length+f≤100→qs.length<most→Gi os cO most B n1 qs ord d h nx→aM C aZ (nN os B d) h nx (Me os cO most B n1 ((qs++dfs os f ord d).take most) ord d h nx):=by
 intro f
 induction f with
 |zero=>
  intro qs ord d h nx hp hl hq G;have lC:∀j,j<os.length→pg os j d=true→False:=fun j hj ho=>by have h1:=kH ho;rw[acP (by omega) j hj]at h1;cases h1
  have e:dfs os 0 ord d=dfs os (0+1) ord d:=by
   have:HL os 0 ord d (List.range os.length)=[]:=by unfold HL;rw[List.flatMap_eq_nil_iff];intro j hj;rw[if_neg fun ho=>lC j (List.mem_range.1 hj) ho]
   rw[Tu,this,List.append_nil,dfs];by_cases ha:ve os d=true
   ·rw[if_pos ha,if_pos (Mp.2 ha)]
   ·rw[if_neg ha,if_neg fun e=>ha (Mp.1 e)]
  rw[e];exact Xa S D ho nq hc EN P (by omega) hq G fun {j qs' h nx} hj EK _ _=>(lC j hj EK).elim
 |succ f ih=>intro qs ord d h nx hp hl hq G;refine Xa S D ho nq hc EN P (by omega) hq G ?_;intro j qs' h nx hj EK hq' G';have hf:=kH EK;have:=Ru d j hf os.length;rw[if_pos hj,Cp j d hf]at this;exact ih (by omega) (by rw[Ll];simp;omega) hq' G'
end Ln
namespace Ln
open Go.Sx Go
def RA(os:List Op)(j:Nat):Nat:=(List.range j).countP fun i=>decide (0≤(os.getD i default).e)
theorem aoX(os:List Op):RA os os.length=lI os 0:=by unfold RA lI;refine List.countP_congr fun x _=>?_;simp
theorem aj5{os:List Op}{j:Nat}(hj:j<os.length):RA os (j+1)=RA os j+if 0≤os[j].e then 1 else 0:=by
 unfold RA;rw[List.range_succ,List.countP_append,List.countP_cons,List.countP_nil,kF hj,Nat.zero_add];by_cases h:0≤os[j].e
 ·rw[if_pos h,decide_eq_true h];rfl
 ·rw[if_neg h,decide_eq_false h];rfl
theorem asv(os:List Op)(j:Nat):RA os j≤j:=by unfold RA;exact Nat.le_trans List.countP_le_length (by rw[List.length_range];exact dQ _)
def OcI(os:List Op)(cO:AV)(P:T AV→Prop)(h:T ag)(nx:Key)(m:Nat)(tm':T AV)(h':T ag)(nx':Key):Prop:=∃j:Nat,m=os.length-j∧j≤os.length∧ae (K 10) tm'=some (I (RA os j))∧ae (K 25) tm'=some cO∧ae (K 26) tm'=some (I os.length)∧ae (K 27) tm'=some (I j)∧P tm'∧Ext h nx h' nx'
variable{C:bU}
theorem adD{os:List Op}(ho:os.length≤16)(nq:∀o∈os,o.e=-1∨0≤o.e){cO:AV}(hc:gR 10 eO cO os){P:T AV→Prop}(hP:∀tm k v,P tm→(k=K 10∨k=K 12∨(27≤k.toNat))→P (au k v tm)){h:T ag}{nx:Key}{Q:cJ}{m:Nat}{tm:T AV}{h1:T ag}{bW:Key}(A:OcI os cO P h nx m tm h1 bW)
  (hQ:∀tm' h' nx',P tm'→ae (K 10) tm'=some (I (lI os 0))→Ext h nx h' nx'→Q .norm tm' h' nx') :
  W C (.loop uo) (az 0 Q) tm h1 bW:=by
 refine W.eB (OcI os cO P h nx) A ?_;rintro m dF h2 aN ⟨j,rfl,hj,g10,g25,g26,g27,hp,e2⟩;refine W.of ?_;simp[uo];by_cases bY:j<os.length
 ·have Bh:(j:Int)<os.length:=by omega
  have Eh:cO=.sl (ai eO os) os.length 10 .any:=hc.full bY;subst Eh;have Vi:=dP.at bY;have tk:10≤os.length*10-j*10:=by omega
  have wO:=dP.rows os;have es2:(eO os[j])[2]?=some (I os[j].e):=rfl;have hle:(eO os[j]).length=10:=rfl;have hce:(eO os[j]).all AV.aV=true:=AQ.2 (dP.cell _);have QV:List.take 10 (eO os[j])=eO os[j]:=rfl;have sG:=aj5 bY;have ajg:=asv os j;have s2:=kTSu aN;simp[sw,g26,g27,Bh];simp[AJ,g25,g27,bY,wO,tk,Vi,hle,hce,QV];have p1:=hP _ (K 28) (some (.bool true)) hp (.inr (.inr (by rw[fK];omega)));have p2:=hP _ (K 29) (some (.cref (eO os[j]))) p1 (.inr (.inr (by rw[fK];omega)));have p3:=hP _ (K 30) (some (.agg (eO os[j]))) p2 (.inr (.inr (by rw[fK];omega)));have p4:=hP _ (K 12) (some (.ptr aN 0)) p3 (.inr (.inl rfl));have e3:=e2.trans (E0 h2 aN (.cells (eO os[j]) .fix));by_cases he:os[j].e=-1
  ·have bT:¬0≤os[j].e:=by omega
   rw[if_neg bT,Nat.add_zero]at sG;simp[sx,es2,he];simp[sy,g27];rw[aH (by omega) (by omega)];refine⟨os.length-(j+1),by omega,j+1,rfl,by omega,by simp[g10,sG],by simp[g25],by simp[g26],by simp,?_,e3⟩;exact hP _ _ _ (hP _ _ _ (hP _ _ _ (hP _ _ _ (hP _ _ _ p4 (.inr (.inr (by rw[fK];omega)))) (.inr (.inr (by rw[fK];omega)))) (.inr (.inr (by rw[fK];omega)))) (.inr (.inr (by rw[fK];omega)))) (.inr (.inr (by rw[fK];omega)))
  ·have Gx:0≤os[j].e:=by
    rcases nq _ (DX bY)with h|h
    ·exact absurd h he
    ·exact h
   rw[if_pos Gx]at sG;have hw:bF .i64 ((RA os j:Int)+1)=(RA os (j+1):Nat):=by rw[aH (by omega) (by omega)];omega
   simp[sx,es2,bq he,he];simp[AL,g10,hw];simp[sy,g27];rw[aH (by omega) (by omega)];refine⟨os.length-(j+1),by omega,j+1,rfl,by omega,by simp,by simp[g25],by simp[g26],by simp,?_,e3⟩;exact hP _ _ _ (hP _ _ _ (hP _ _ _ (hP _ _ _ (hP _ _ _ (hP _ _ _ (hP _ _ _ (hP _ _ _ p4 (.inr (.inr (by rw[fK];omega)))) (.inr (.inr (by rw[fK];omega)))) (.inr (.inr (by rw[fK];omega)))) (.inr (.inr (by rw[fK];omega)))) (.inr (.inr (by rw[fK];omega)))) (.inl rfl)) (.inr (.inr (by rw[fK];omega)))) (.inr (.inr (by rw[fK];omega)))
 ·have yi:j=os.length:=by omega
  subst yi;simp[sw,g26,g27];refine hQ _ _ _ (hP _ _ _ hp (.inr (.inr ?_))) (by simp[g10,aoX]) e2;rw[fK];omega
end Ln
namespace Ln
open Go.Sx Go
variable{C:bU}{X:Kn}(S:Std C X)(D:Dcd C)
include S D
theorem ais{os:List Op}(ho:os.length≤16)(nq:∀o∈os,o.e=-1∨0≤o.e)(XF:∀j k (hj:j<os.length) (hk:k<os.length),j<k→before os[k] os[j]=false){cO:AV}(hc:gR 10 eO cO os){most:Nat}(Ki:0<most)(EN:most≤1000000){h:T ag}{nx:Key} :
  aM C gw [cO,I most] h nx (fun o h' nx'=>(∃c,o=.ret c∧gR 1 eQ c ((dfs os os.length [] 0).take most))∧Ext h nx h' nx'):=by
 have rS:=S.r iZ;have rG:=S.r aZ;have hz:∀H,aW 9999 cO H=(cO,H):=fun H=>hc.wH _ _;have kc:=hc.cell;have s1:=kTSu nx;have s2:=kTSu nx.succ;have hmi:¬(most:Int)≤0:=by omega
 refine D.C0.call ?_;simp[zG];simp[Bl,kc.1,kc.2];have e2:=(E0 h nx (.cells [cO] .fix)).trans (E0 _ nx.succ (.cells [I most] .fix));have bl2:ae nx (au nx.succ (Qw [I most]) (au nx (Qw [cO]) h))=Qw [cO]:=by rw[aw (by omega)];simp
 have bm2:ae nx.succ (au nx.succ (Qw [I most]) (au nx (Qw [cO]) h))=Qw [I most]:=by simp
 generalize au nx.succ (Qw [I most]) (au nx (Qw [cO]) h)=h2 at *;have aOl:most≠0:=by omega
 simp[Bm,bl2,bm2,Ki,rS,hz];refine(Z0 S D ho nq XF hc).mono ?_;rintro o h3 bP ⟨rfl,e3⟩;have Ns:=e2.trans e3;have n3:=e3.n;have bl3:ae nx h3=Qw [cO]:=by rw[e3.g nx (by omega)];exact bl2
 have bm3:ae nx.succ h3=Qw [I most]:=by rw[e3.g nx.succ (by omega)];exact bm2
 have t1:=kTSu bP;have t2:=kTSu bP.succ;have t3:=kTSu bP.succ.succ;have t4:=kTSu bP.succ.succ.succ;have t5:=kTSu bP.succ.succ.succ.succ;have t6:=kTSu bP.succ.succ.succ.succ.succ;have hLc:os.length≤1048576:=by omega
 simp;simp[Bn];simp[Bo];have e4:=(E0 h3 bP (.cells [.nils] .fix)).trans (E0 _ bP.succ (.cells [.nils] .fix));have bo4:ae bP (au bP.succ (Qw [.nils]) (au bP (Qw [.nils]) h3))=Qw [.nils]:=by rw[aw (by omega)];simp
 have bq4:ae bP.succ (au bP.succ (Qw [.nils]) (au bP (Qw [.nils]) h3))=Qw [.nils]:=by simp
 have bl4:ae nx (au bP.succ (Qw [.nils]) (au bP (Qw [.nils]) h3))=Qw [cO]:=by rw[e4.g nx (by omega)];exact bl3
 have bm4:ae nx.succ (au bP.succ (Qw [.nils]) (au bP (Qw [.nils]) h3))=Qw [I most]:=by rw[e4.g nx.succ (by omega)];exact bm3
 generalize au bP.succ (Qw [.nils]) (au bP (Qw [.nils]) h3)=h4 at *;have R4:=hc.rd h4 bP.succ.succ;simp[↓R4.ln,Bp,bl4,hLc,-repL_eq];have Nb:Kg os.length [AV.bool false] []=c9 (lH os.length 0):=by rw[repL_eq,List.append_nil];apply List.ext_getElem (by simp[gT,jw]);intro i h1 h2;rw[gT,jw]at h2;rw[Nt h2];simp
 rw[Nb];simp[Bq];simp[Br];simp[Bs];obtain⟨B,hB⟩:∃B:Bx,B=⟨bP,bP.succ,nx,nx.succ,bP.succ.succ.succ.succ,bP.succ.succ.succ,bP.succ.succ,bP.succ.succ.succ.succ.succ⟩:=⟨_,rfl⟩;have ne:∀{a b:Key},a.toNat≠b.toNat→a≠b:=fun h e=>h (by rw[e]);have P:UX B:=by subst hB;exact⟨⟨ne (by dsimp only;omega),ne (by dsimp only;omega),ne (by dsimp only;omega),ne (by dsimp only;omega),ne (by dsimp only;omega),ne (by dsimp only;omega),ne (by dsimp only;omega)⟩,⟨ne (by dsimp only;omega),ne (by dsimp only;omega),ne (by dsimp only;omega),ne (by dsimp only;omega),ne (by dsimp only;omega),ne (by dsimp only;omega)⟩,⟨ne (by dsimp only;omega),ne (by dsimp only;omega),ne (by dsimp only;omega),ne (by dsimp only;omega),ne (by dsimp only;omega)⟩⟩
 have e5:=((E0 h4 bP.succ.succ (.cells (c9 (lH os.length 0)) .fix)).trans (E0 _ bP.succ.succ.succ (.cells [.slice bP.succ.succ 0 os.length 1] .fix))).trans ((E0 _ bP.succ.succ.succ.succ (.cells [.fn cZ [] [.ptr nx 0,.ptr bP.succ.succ.succ 0]] .fix)).trans (E0 _ bP.succ.succ.succ.succ.succ (.cells [.fn aZ [] [.ptr bP 0,.ptr bP.succ 0,.ptr nx 0,.ptr nx.succ 0,.ptr bP.succ.succ.succ.succ 0,.ptr bP.succ.succ.succ 0,.ptr bP.succ.succ.succ.succ.succ 0]] .fix)));have G:Gi os cO most B bP.succ.succ.succ.succ.succ.succ [] [] 0 (au bP.succ.succ.succ.succ.succ (Qw [.fn aZ [] [.ptr bP 0,.ptr bP.succ 0,.ptr nx 0,.ptr nx.succ 0,.ptr bP.succ.succ.succ.succ 0,.ptr bP.succ.succ.succ 0,.ptr bP.succ.succ.succ.succ.succ 0]]) (au bP.succ.succ.succ.succ (Qw [.fn cZ [] [.ptr nx 0,.ptr bP.succ.succ.succ 0]]) (au bP.succ.succ.succ (Qw [.slice bP.succ.succ 0 os.length 1]) (au bP.succ.succ (Qw (c9 (lH os.length 0))) h4)))) bP.succ.succ.succ.succ.succ.succ:=by
  subst hB;refine⟨⟨.nils,.nils,none,none,by rw[e5.g _ (by dsimp only;omega)];exact bo4,by rw[e5.g _ (by dsimp only;omega)];exact bq4,.inl ⟨rfl,rfl,rfl,rfl⟩,.inl ⟨rfl,rfl,rfl⟩,by simp,by simp,by simp⟩,by rw[e5.g _ (by dsimp only;omega)];exact bl4,by rw[e5.g _ (by dsimp only;omega)];exact bm4,?_,?_,?_,by simp,⟨by dsimp only;omega,by dsimp only;omega,by dsimp only;omega,by dsimp only;omega,by dsimp only;omega,by dsimp only;omega,by dsimp only;omega,by dsimp only;omega⟩,dQ _⟩
  ·rw[aw (by dsimp only;omega)];simp
  ·rw[aw (by dsimp only;omega),aw (by dsimp only;omega)];simp
  ·rw[aw (by dsimp only;omega),aw (by dsimp only;omega),aw (by dsimp only;omega)];simp
 have e45:=(Ns.trans e4).trans e5;generalize au bP.succ.succ.succ.succ.succ (Qw [.fn aZ [] [.ptr bP 0,.ptr bP.succ 0,.ptr nx 0,.ptr nx.succ 0,.ptr bP.succ.succ.succ.succ 0,.ptr bP.succ.succ.succ 0,.ptr bP.succ.succ.succ.succ.succ 0]]) (au bP.succ.succ.succ.succ (Qw [.fn cZ [] [.ptr nx 0,.ptr bP.succ.succ.succ 0]]) (au bP.succ.succ.succ (Qw [.slice bP.succ.succ 0 os.length 1]) (au bP.succ.succ (Qw (c9 (lH os.length 0))) h4)))=h5 at *;have R5:=hc.rd h5 bP.succ.succ.succ.succ.succ.succ;have Gl:=G.l;rw[hB]at Gl;simp only at Gl;simp[Bt];simp[↓R5.ln,zH,Gl];have hn1:=G.n;refine adD ho nq hc (P:=fun tm=>ae (K 5) tm=some (.ptr B.bo 0)∧ae (K 9) tm=some (.ptr B.bw 0)) ?_ (m:=os.length) ⟨0,by simp,by omega,by simp[RA],by simp,by simp,by simp,⟨by rw[hB];simp,by rw[hB];simp⟩,Ext.refl _ _⟩ ?_
 ·rintro tm k v ⟨p1,p2⟩ hk;have h5:K 5≠k:=fun e=>by
   rcases hk with h|h|h
   ·rw[h]at e;have:=Oy e;omega
   ·rw[h]at e;have:=Oy e;omega
   ·rw[←e,fK]at h;omega
  have h9:K 9≠k:=fun e=>by
   rcases hk with h|h|h
   ·rw[h]at e;have:=Oy e;omega
   ·rw[h]at e;have:=Oy e;omega
   ·rw[←e,fK]at h;omega
  exact⟨by rw[aG _ _ _ _ h5];exact p1,by rw[aG _ _ _ _ h9];exact p2⟩
 intro tm' h6 Bu ⟨p1,p2⟩ p10 e6;have G6:=G.ext e6;have n6:=e6.n;have hw:=G6.w;simp[zI,p2,p10,hw,rG];refine(aqm S D ho nq hc EN P os.length (by rw[ZW];omega) (by simp;omega) (by simpa using Ki) G6).mono ?_;rintro o h7 nx7 ⟨rfl,G7,n7,f7⟩;obtain⟨cQ,cP,oQ,oP,r1,r2,r3,r4,r5,r6,r7⟩:=G7.rows;obtain⟨hi7,hk7⟩:=Gr.OC GL r3 9998;have kq:=r3.cell;have hb6:B.bo=bP∧B.bq=bP.succ∧B.bg=bP.succ.succ:=by subst hB;exact⟨rfl,rfl,rfl⟩
 simp[zJ,p1,r1];refine⟨by simpa using hi7,by omega,fun b hb=>?_⟩;rw[hk7 b (fun e=>by have:=r5 b e;omega),f7 b (by omega) (by rw[hb6.1];exact ne (by omega)) (by rw[hb6.2.1];exact ne (by omega)) (by rw[hb6.2.2];exact ne (by omega)),e6.g b (by omega),e45.g b hb]
end Ln
namespace Ln
open Go.Sx Go
theorem agV{S:Sys St}{p:Cf St→Prop}(hp:∀c,p c→∀x∈S.steps c,p x.2):∀(f i:Nat) (l L:List (Cf St)),Rt S f i l=some L→(∀c∈l,p c)→(∀c∈L,p c)∧∃t,L=l++t
 |0,i,l,L,h,hl=>by unfold Rt at h;cases h;exact⟨hl,[],by simp⟩
 |f+1,i,l,L,h,hl=>by
  unfold Rt at h;cases hi:l[i]? with
  |none=>rw[hi]at h;cases h;exact⟨hl,[],by simp⟩
  |some c=>
   rw[hi]at h;simp only at h;cases ha:ib l ((S.steps c).map (·.2))with
   |none=>rw[ha]at h;cases h
   |some l'=>
    rw[ha]at h;simp only at h;obtain⟨⟨t,e⟩,h2,h3,h4,h5⟩:=nC ha;have hc:=hl c (List.mem_of_getElem? hi);obtain⟨k1,u,e2⟩:=agV hp f (i+1) l' L h fun x hx=>by
     rcases h5 x hx with hx|hx
     ·exact hl x hx
     ·obtain⟨y,hy,rfl⟩:=KT.1 hx;exact hp c hc y hy
    exact⟨k1,t++u,by rw[e2,e];simp⟩
theorem aiv{n:Nat}{L:List (Cf St)}(cH:∀c∈L,c.1<2^n)(hp:L.Pairwise ZU):gL n (L.map Gj):=by
 intro q hq;rw[List.length_map]at hq;simp only[List.getElem_map];refine⟨by simp[Gj],?_,fun h0=>?_⟩
 ·have:=cH _ (DX hq);show((L[q].1:Nat):Int)<_;exact Int.ofNat_lt.2 this
 ·have h1:=List.pairwise_iff_getElem.1 hp (q-1) q (by omega) hq (by omega);have e:=QP (a:=Gj (L[q-1]'(by omega))) (b:=Gj L[q]) (by simp[Gj]) (by simp[Gj]);rw[Ea,Ea]at e;exact e.1 h1
theorem adE{X:Kn}{i:Nat}{l:List Ev}(h0:jD i l=0):X.zB i l []=18:=by unfold Kn.zB;rw[if_pos h0];exact Xw (fun q hq=>absurd hq (by simp)) fun h=>by simpa using h.1
theorem adF{X:Kn}{i:Nat}{l:List Ev}{L:List (Cf St)}(h0:jD i l=0)(hb:Rt (aK X i (aI 0 l)) 1025 0 [(0,aQ i)]=some L)(k:Kept (aK X i (aI 0 l)) L.length L)(hn:¬Good (aK X i (aI 0 l)) (0,aQ i)):0<(jF L).length∧X.zB i l ((jF L).map Gj)=0:=by
 obtain⟨h1,t,e⟩:=agV (p:=fun c=>¬Good (aK X i (aI 0 l)) c) (fun c hc x hx g=>hc (.step (i:=x.1) (c':=x.2) hx g)) _ _ _ _ hb (by simp[hn]);have hm:(0,aQ i)∈jF L:=(C1 _).2 (by rw[e];simp);have yg:((jF L).map Gj).map AN=jF L:=by rw[List.map_map];have:(AN ∘ Gj)=id:=funext fun c=>Ea c;rw[this,List.map_id]
 refine⟨List.length_pos_of_mem hm,?_⟩;unfold Kn.zB;rw[if_pos h0];refine agO (aiv (fun c hc=>k.lt c ((C1 c).1 hc)) (ali k.nodup)) ?_;rw[yg];refine⟨hm,fun c hc=>?_⟩;have hc:=(C1 c).1 hc;obtain⟨j,hj,rfl⟩:=List.getElem_of_mem hc;refine⟨?_,fun x hx=>(C1 _).2 (k.done j _ hj (A6 hj) x hx)⟩;cases ha:(aK X i (aI 0 l)).acc (L[j]).1 with
 |false=>rfl
 |true=>exact absurd (.now ha) (h1 _ hc)
theorem Z2{X:Kn}{i:Nat}{os:List Op}:∀(q:List Nat) (s:St),(∀k∈q,k<os.length)→X.run i os (uy q) s=(wN (aK X i os).take q s).isSome
 | [],s,_=>rfl
 |k ::q,s,h=>by
  have hk:=h k (by simp);have Ec:at_ os (k:Int)=os.getD k default:=by rw[XI rfl hk,kF hk]
  show(match X.take (cm i (at_ os (k:Int))) (at_ os (k:Int)) s with|none=>false|some t=>X.run i os (uy q) t)=((X.take (cm i (os.getD k default)) (os.getD k default) s).bind _).isSome;rw[Ec];cases X.take (cm i (os.getD k default)) (os.getD k default) s with
  |none=>rfl
  |some t=>exact Z2 q t fun x hx=>h x (by simp[hx])
theorem au0{os:List Op}{q:List Nat}(hq:q∈dfs os os.length [] 0):∀k∈q,k<os.length:=by obtain⟨d',hw,_⟩:=XH os.length [] 0 .nil q hq;exact fun k hk=>hw.lt k (by simpa using hk)
theorem aqq{X:Kn}{i:Nat}{l:List Ev}(h0:jD i l=0){q:List Nat}(hq:q∈dfs (aI 0 l) (aI 0 l).length [] 0):X.check i l (uy q)=if (wN (aK X i (aI 0 l)).take q (aQ i)).isSome=true then 0 else 25:=by obtain⟨d',hw,ha⟩:=XH _ _ _ .nil q hq;have hl:=aqp hw ha;rw[List.reverse_reverse]at hl;have hl:kI (aI 0 l) (uy q)=true:=OD hl;unfold Kn.check;rw[if_pos h0,if_pos hl,Z2 q _ (au0 hq)]
theorem agW{X:Kn}{i:Nat}{os:List Op}:(∀q,(dfs os os.length [] 0).find? (fun q=>(wN (aK X i os).take q (aQ i)).isSome)=some q→Path (aK X i os) (0,aQ i) q)∧((dfs os os.length [] 0).find? (fun q=>(wN (aK X i os).take q (aQ i)).isSome)=none→¬Good (aK X i os) (0,aQ i)):=by obtain⟨h1,h2⟩:=alj (X:=X) (mi:=i) (os:=os) (s0:=aQ i) os.length [] 0 (aQ i) (Nat.two_pow_pos _) (by omega) rfl;refine⟨fun q e=>?_,h2⟩;obtain⟨p,hp,rfl⟩:=h1 q e;exact hp
structure LdT(bm bp:Key)(n:Int)(ev cA cQ:AV)(i:Nat)(tm:T AV):Prop where
 q1:ae (K 1) tm=some (I n)
 q5:ae (K 5) tm=some (.ptr bm 0)
 q6:ae (K 6) tm=some ev
 q9:ae (K 9) tm=some cA
 Gm:ae (K 10) tm=some (.ptr bp 0)
 JA:ae (K 12) tm=some cQ
 NB:ae (K 13) tm=some (I i)
structure LdH(X:Kn)(bm bp:Key)(cP:AV)(h:T ag)(nx:Key):Prop where
 mb:ae bm h=Qw [.sl X.rows 7 45 .any]
 pb:ae bp h=Qw [cP]
 mn:bm.toNat<nx.toNat
 pn:bp.toNat<nx.toNat
theorem LdH.ext{X:Kn}{bm bp:Key}{cP:AV}{h h':T ag}{nx nx':Key}(H:LdH X bm bp cP h nx)(e:Ext h nx h' nx'):LdH X bm bp cP h' nx':=⟨by rw[e.g bm H.mn];exact H.mb,by rw[e.g bp H.pn];exact H.pb,by have:=H.mn;have:=e.n;omega,by have:=H.pn;have:=e.n;omega⟩
variable{C:bU}{X:Kn}(S:Std C X)
include S
theorem ast(hX:AV.beq X.m X.m=true){bm bp:Key}{n:Int}(hn:IM n){ev cA cQ cP:AV}{l:List Ev}(hv:gR 8 eE ev l)(hl:Few l){qs:List (List Nat)}(hq:gR 1 eQ cQ qs){i:Nat}(hi:i<qs.length)(hlen:qs[i].length≤1000){tm:T AV}{h:T ag}{nx:Key}(A:LdT bm bp n ev cA cQ i tm)(H:LdH X bm bp cP h nx){Q:cJ}
  (hQ:∀tm' h' nx',LdT bm bp n ev cA cQ i tm'→ae (K 63) tm'=some (.bool (decide (X.check (O4 n) l (uy qs[i])≠0)))→Ext h nx h' nx'→Q .norm tm' h' nx') :
  fJ C (.staged lx ⟨[y7,zk,y8,Ac,qK,AX,ym,zl,CG,BO,Gn],[]⟩) Q tm h nx:=by
 obtain⟨q1,q5,q6,q9,Gm,JA,NB⟩:=A;have hbm:=H.mb;have bn:=H.mn;have rn:=S.r dR;have rl:=S.r du;have rc:C.raw n9=true:=S.rw (by decide);have hmi:=NC n;have IN:cQ=.sl (ai eQ qs) qs.length 1 .any:=hq.full hi;have wO:=GL.rows qs;have Vi:=GL.at hi;have tk:1≤qs.length-i:=by omega
 simp only[Nat.mul_one]at wO Vi;have eq0:(eQ qs[i])=[.sl (kr qs[i]) qs[i].length 1 .any]:=rfl;rw[eq0]at Vi;have hR:gR 1 eI (.sl (kr qs[i]) qs[i].length 1 .any) (uy qs[i]):=.inr (by unfold uy kr;rw[List.length_map]);have Rl:AV.beq (.sl (kr qs[i]) qs[i].length 1 .any) (.sl (kr qs[i]) qs[i].length 1 .any)=true:=beq_refl _ (by simp only[AV.lits];exact W6 _);simp[Kn.m]at hX;subst IN;simp[lx,q1,q5,q6,JA,NB,hbm,hi,wO,tk,Vi,rn];refine(L6 S hn).mono ?_;rintro o h1 bW ⟨rfl,e1⟩;have b1:=(H.ext e1).mb;simp[q5,JA,NB,b1,hX,hi,wO,tk,Vi,Rl,rl];refine(Ix S).mono ?_;rintro o h2 aN ⟨rfl,e2⟩;have Rc:=e1.trans e2;have b2:=(H.ext Rc).mb;simp[q5,JA,NB,b2,hX,hi,wO,tk,Vi,Rl,rc];have IA:=aoU S hmi hv hl (ord:=uy qs[i]) (by unfold uy;rw[List.length_map];exact hlen) (Rd.ord (hR.rd h2 aN));simp only[Kn.m]at IA;refine IA.mono ?_;rintro o h3 bP ⟨rfl,e3⟩;by_cases h0:X.check (O4 n) l (uy qs[i])=0
 ·simp[h0];refine hQ _ _ _ ⟨?_,?_,?_,?_,?_,?_,?_⟩ ?_ (Rc.trans e3)<;>simp[q1,q5,q6,q9,Gm,JA,NB,h0]
 ·simp[bq h0,h0];refine hQ _ _ _ ⟨?_,?_,?_,?_,?_,?_,?_⟩ ?_ (Rc.trans e3)<;>simp[q1,q5,q6,q9,Gm,JA,NB,h0]
end Ln
namespace Ln
open Go.Sx Go
variable{C:bU}{X:Kn}(S:Std C X)
include S
theorem aqw(hX:AV.beq X.m X.m=true){bm bp:Key}{n:Int}(hn:IM n){ev cA cQ:AV}{l:List Ev}(hv:gR 8 eE ev l)(hl:Few l)(h0:jD (O4 n) l=0){qs:List (List Nat)}(hq:gR 1 eQ cQ qs){i:Nat}(hi:i<qs.length)(hlen:qs[i].length≤1000)(hA:gR 1 eI cA (uy qs[i])){tm:T AV}{h:T ag}{nx:Key}(A:LdT bm bp n ev cA cQ i tm)(H:LdH X bm bp .nils h nx){Q:cJ}
  (hQ:∀tm' h' nx',ae (K 4) tm'=some (.bool true)→Ext h nx h' nx'→Q .norm tm' h' nx') :
  fJ C (.staged kJ ⟨[Ed,Hb,It,Iu,EP,IX,F9,Hc,KU,KV,Hd,KW,AT,Iv,Gk,Jy,Jz,Kl,IY,KX,Iw,M5,L5,O5,P3,k4],[]⟩) Q tm h nx:=by
 obtain⟨q1,q5,q6,q9,Gm,JA,NB⟩:=A;have hbm:=H.mb;have hbp:=H.pb;have rn:=S.r dR;have rl:=S.r du;have ri:=S.r kE;have rf:=S.r ig;have rv:=S.r iD;have hmi:=NC n;have IN:cQ=.sl (ai eQ qs) qs.length 1 .any:=hq.full hi;have wO:=GL.rows qs;have Vi:=GL.at hi;have tk:1≤qs.length-i:=by omega
 simp only[Nat.mul_one]at wO Vi;have eq0:(eQ qs[i])=[.sl (kr qs[i]) qs[i].length 1 .any]:=rfl;rw[eq0]at Vi;have hR:gR 1 eI (.sl (kr qs[i]) qs[i].length 1 .any) (uy qs[i]):=.inr (by unfold uy kr;rw[List.length_map]);have hAz:∀n H,aW n cA H=(cA,H):=fun n H=>hA.wH n H;have hRz:∀n H,aW n (.sl (kr qs[i]) qs[i].length 1 .any) H=(.sl (kr qs[i]) qs[i].length 1 .any,H):=fun n H=>hR.wH n H;have hvz:∀n H,aW n ev H=(ev,H):=fun n H=>hv.wH n H;have Ch:AV.beq (.agg [.nils]) (.agg [.nils])=true:=beq_refl _ rfl;simp[Kn.m]at hX;subst IN;simp[kJ,q1,q5,q6,q9,Gm,JA,NB,hbm,hbp,hi,wO,tk,Vi,ri,hAz,hRz];refine(ZI S (by unfold uy;rw[List.length_map];omega) hA hR).mono ?_;rintro o h1 bW ⟨rfl,e1⟩;have b1:=(H.ext e1).mb;have p1:=(H.ext e1).pb;simp[q1,q5,q6,Gm,b1,p1,rn];refine(L6 S hn).mono ?_;rintro o h2 aN ⟨rfl,e2⟩;have Rc:=e1.trans e2;have b2:=(H.ext Rc).mb;have p2:=(H.ext Rc).pb;simp[q5,Gm,b2,p2,hX,Ch,rl];refine(Ix S).mono ?_;rintro o h3 bP ⟨rfl,e3⟩;have UD:=Rc.trans e3;have b3:=(H.ext UD).mb;have p3:=(H.ext UD).pb;have hlz:∀H,aW 9999 mF H=(mF,H):=fun H=>rfl;have hmz:∀H,aW 9999 X.m H=(X.m,H):=fun H=>rfl;have hrf:=SQ S hmi hv hl (fun _=>He) (c3:=.nils) (p:=[]) (by simp) (by simp) (.inl ⟨rfl,rfl⟩) (h:=h3) (nx:=bP);rw[adE h0]at hrf;simp only[Kn.m]at hrf hmz;simp[q5,Gm,b3,p3,hX,Ch,rf,hvz,hlz,hmz];refine hrf.mono ?_;rintro o h4 kK ⟨rfl,e4⟩;simp[rv];refine aM.known (S.s_lives _ _) ?_;simp;exact hQ _ _ _ (by simp) (UD.trans e4)
theorem aqx(hX:AV.beq X.m X.m=true){bm bp:Key}{n:Int}(hn:IM n){ev cQ cR:AV}{l:List Ev}(hv:gR 8 eE ev l)(hl:Few l){qi:Nat}{p:List (Cf St)}(hp:p.length≤10000)(hpk:∀y∈p,iX (O4 n) y.2)(hp0:0<p.length)(hcR:gR 5 eC cR p)(h0:X.zB (O4 n) l (p.map Gj)=0){tm:T AV}{h:T ag}{nx:Key}(A:LdT bm bp n ev .nils cQ qi tm)(H:LdH X bm bp cR h nx){Q:cJ}
  (hQ:∀tm' h' nx',ae (K 4) tm'=some (.bool true)→Ext h nx h' nx'→Q .norm tm' h' nx') :
  fJ C (.staged gU ⟨[K 89,K 90,K 91,K 92,K 93,K 94,K 95,K 96,K 97,K 98,K 99,K 100,K 101,K 102,K 103,K 104,K 105,K 106,K 107,K 108,K 109,K 110,K 4],[]⟩) Q tm h nx:=by
 obtain⟨q1,q5,q6,q9,Gm,JA,NB⟩:=A;have hbm:=H.mb;have hbp:=H.pb;have rn:=S.r dR;have rl:=S.r du;have rf:=S.r ig;have rv:=S.r iD;have hmi:=NC n;have hvz:∀n H,aW n ev H=(ev,H):=fun n H=>hv.wH n H;have hcD:gR 5 eD cR (p.map Gj):=by
  rcases hcR with⟨e1,e2⟩|e
  ·exact .inl ⟨e1,by rw[e2];rfl⟩
  ·exact .inr (by rw[e,ZT,List.length_map])
 have IN:cR=.sl (ai eC p) p.length 5 .any:=hcR.full hp0;have hRz:∀n H,aW n (.sl (ai eC p) p.length 5 .any) H=(.sl (ai eC p) p.length 5 .any,H):=fun n H=>by rw[←IN];exact hcR.wH n H
 have Rl:AV.beq (.agg [.sl (ai eC p) p.length 5 .any]) (.agg [.sl (ai eC p) p.length 5 .any])=true:=beq_refl _ (by simp only[AV.lits,AV.gS,Bool.and_true];exact wM.agM _);have aOz:(0:Int)<p.length:=by omega
 simp[Kn.m]at hX;subst IN;simp[gU,q1,q5,q6,q9,Gm,hbm,hbp,hp0,rn];refine(L6 S hn).mono ?_;rintro o h2 aN ⟨rfl,e2⟩;have b2:=(H.ext e2).mb;have p2:=(H.ext e2).pb;simp[q5,Gm,b2,p2,hX,Rl,rl];refine(Ix S).mono ?_;rintro o h3 bP ⟨rfl,e3⟩;have UD:=e2.trans e3;have b3:=(H.ext UD).mb;have p3:=(H.ext UD).pb;have hlz:∀H,aW 9999 mF H=(mF,H):=fun H=>rfl;have hmz:∀H,aW 9999 X.m H=(X.m,H):=fun H=>rfl;have hrf:=SQ S hmi hv hl (fun _=>He) (p:=p.map Gj) (by simpa using hp) (by intro y hy;obtain⟨c,hc,rfl⟩:=KT.1 hy;exact hpk c hc) hcD (h:=h3) (nx:=bP)
 rw[h0]at hrf;simp only[Kn.m]at hrf hmz;simp[q5,Gm,b3,p3,hX,Rl,rf,hvz,hRz,hlz,hmz];refine hrf.mono ?_;rintro o h4 kK ⟨rfl,e4⟩;simp[rv];refine aM.known (S.s_lives _ _) ?_;simp;exact hQ _ _ _ (by simp) (UD.trans e4)
end Ln
namespace Ln
open Go.Sx Go
theorem aia{os:List Op}:∀(f:Nat) (ord:List Nat) (d:Nat),∀q∈dfs os f ord d,q.length≤ord.length+f
 |0,ord,d,q,h=>by
  unfold dfs at h;split at h
  ·simp at h;rw[h];omega
  ·simp at h
 |f+1,ord,d,q,h=>by
  unfold dfs at h;rcases List.mem_append.1 h with h|h
  ·split at h
   ·simp at h;rw[h];omega
   ·simp at h
  ·obtain⟨i,hi,h⟩:=List.mem_flatMap.1 h;split at h
   ·have:=aia f _ _ q h;simp at this;omega
   ·simp at h
theorem asu{α:Type}{p:α→Bool}{l:List α}{i:Nat}(hi:i<l.length)(hp:p l[i]=true)(lC:∀x∈l.take i,p x=false):l.find? p=some l[i]:=by
 have e:l=l.take i++l[i] ::l.drop (i+1):=by rw[←zqt hi,List.take_append_drop]
 have h1:(l.take i).find? p=none:=List.find?_eq_none.2 fun x hx=>by rw[lC x hx];simp
 conv=>lhs;rw[e]
 rw[List.find?_append,h1,Option.none_or,List.find?_cons,hp]
abbrev okO(X:Kn)(i:Nat)(l:List Ev)(q:List Nat):Bool:=(wN (aK X i (aI 0 l)).take q (aQ i)).isSome
def DF(X:Kn)(i:Nat)(l:List Ev)(cA cP:AV):Prop:=(∃p,Path (aK X i (aI 0 l)) (0,aQ i) p∧gR 1 eI cA (uy p)∧cP=.nils)∨(¬Good (aK X i (aI 0 l)) (0,aQ i)∧cA=.nils∧∃L,gR 5 eC cP L∧L.length≤10000∧(∀y∈L,iX i y.2)∧0<L.length∧X.zB i l (L.map Gj)=0)
def DlI(X:Kn)(bm bp:Key)(n:Int)(ev cA cQ cP:AV)(l:List Ev)(qs:List (List Nat))(h:T ag)(nx:Key)(m:Nat)(tm':T AV)(h':T ag)(nx':Key):Prop:=∃i:Nat,m=qs.length-i∧i≤qs.length∧LdT bm bp n ev cA cQ i tm'∧LdH X bm bp cP h' nx'∧Ext h nx h' nx'∧∀q∈qs.take i,okO X (O4 n) l q=false
variable{C:bU}{X:Kn}(S:Std C X)
include S
theorem alG(hX:AV.beq X.m X.m=true){bm bp:Key}{n:Int}(hn:IM n){ev cA cQ cP:AV}{l:List Ev}(hv:gR 8 eE ev l)(hl:Few l)(h0:jD (O4 n) l=0){qs:List (List Nat)}(hqs:qs=dfs (aI 0 l) (aI 0 l).length [] 0)(hql:qs.length≤10000)(hq:gR 1 eQ cQ qs)(hF:DF X (O4 n) l cA cP){h:T ag}{nx:Key}{Q:cJ}{m:Nat}{tm:T AV}{h1:T ag}{bW:Key}(A:DlI X bm bp n ev cA cQ cP l qs h nx m tm h1 bW)
  (xK:∀tm' h' nx',ae (K 4) tm'=some (.bool true)→Ext h nx h' nx'→Q .ret tm' h' nx')
  (ajg:∀tm' h' nx' i,LdT bm bp n ev cA cQ i tm'→LdH X bm bp cP h' nx'→Ext h nx h' nx'→qs.find? (okO X (O4 n) l)=none→Q .norm tm' h' nx') :
  W C (.loop iy) (az 0 Q) tm h1 bW:=by
 refine W.eB (DlI X bm bp n ev cA cQ cP l qs h nx) A ?_;rintro m dF h2 aN ⟨i,rfl,hi,L,H,e2,lC⟩;refine W.of ?_;obtain⟨q1,q5,q6,q9,Gm,JA,NB⟩:=id L;have R:=hq.rd h2 aN;simp only[iy,bR,cp,cr,vm,gM];by_cases zz:i<qs.length
 ·have Zn:(i:Int)<qs.length:=by omega
  have uB:qs[i]∈dfs (aI 0 l) (aI 0 l).length [] 0:=by rw[←hqs];exact DX zz
  have xp:(aI 0 l).length≤16:=by have:=sW l 0;have:=hl.len;omega
  have hlen:qs[i].length≤1000:=by have:=aia _ _ _ _ uB;simp at this;omega
  have IA:=aqq (X:=X) h0 uB;simp[↓R.ln,lz,JA,NB,Zn];refine ast S hX hn hv hl hq zz hlen (i:=i) (cA:=cA) ⟨?_,?_,?_,?_,?_,?_,?_⟩ H ?_
  ·simp[q1]
  ·simp[q5]
  ·simp[q6]
  ·simp[q9]
  ·simp[Gm]
  ·simp[JA]
  ·simp[NB]
  intro tm2 h3 bP L2 q63 e3;have H3:=H.ext e3;have Ns:=e2.trans e3;rw[IA]at q63;cases wQ:okO X (O4 n) l qs[i]with
  |false=>
   have axn:(wN (aK X (O4 n) (aI 0 l)).take qs[i] (aQ (O4 n))).isSome=false:=wQ;rw[axn]at q63;obtain⟨v1,v5,v6,v9,v10,v12,v13⟩:=L2;simp[q63];simp[sP,v13];rw[aH (by omega) (by omega)];refine⟨qs.length-(i+1),by omega,i+1,rfl,by omega,⟨?_,?_,?_,?_,?_,?_,?_⟩,H3,Ns,fun q hm=>?_⟩
   ·simp[v1]
   ·simp[v5]
   ·simp[v6]
   ·simp[v9]
   ·simp[v10]
   ·simp[v12]
   ·simp
   ·rw[zqu zz]at hm;rcases List.mem_append.1 hm with hm|hm
    ·exact lC q hm
    ·simp at hm;rw[hm];exact wQ
  |true=>
   have axn:(wN (aK X (O4 n) (aI 0 l)).take qs[i] (aQ (O4 n))).isSome=true:=wQ;rw[axn]at q63;have aCc:(dfs (aI 0 l) (aI 0 l).length [] 0).find? (okO X (O4 n) l)=some qs[i]:=by rw[←hqs];exact asu zz wQ lC
   have aax:=(agW (X:=X) (i:=O4 n) (os:=aI 0 l)).1 _ aCc;have hA:gR 1 eI cA (uy qs[i])∧cP=.nils:=by
    rcases hF with⟨p,k1,k2,k3⟩|⟨k1,_⟩
    ·rw[aax.uniq k1];exact⟨k2,k3⟩
    ·exact absurd aax.IT k1
   obtain⟨hA,rfl⟩:=hA;simp[q63];refine aqw S hX hn hv hl h0 hq zz hlen hA L2 H3 ?_;intro tm4 h4 kK w4 e4;simp;exact xK _ _ _ w4 (Ns.trans e4)
 ·have IQ:i=qs.length:=by omega
  subst IQ;rw[List.take_length]at lC;simp[↓R.ln,lz,JA,NB];refine ajg _ _ _ qs.length ⟨?_,?_,?_,?_,?_,?_,?_⟩ H e2 (List.find?_eq_none.2 fun x hx=>by rw[lC x hx];simp)<;>simp[q1,q5,q6,q9,Gm,JA,NB]
end Ln
namespace Ln
open Go.Sx Go
variable{C:bU}{X:Kn}(S:Std C X)(H:PU C)
include S H
theorem avg(hX:AV.beq X.m X.m=true){bm:Key}{n:Int}(hn:IM n){ev:AV}{l:List Ev}{g:GS}(hr:Ga (O4 n) l g)(XG:l.length≤9)(hv:gR 8 eE ev l){tm:T AV}{h:T ag}{nx:Key}(q1:ae (K 1) tm=some (I n))(q5:ae (K 5) tm=some (.ptr bm 0))(q6:ae (K 6) tm=some ev)(hbm:ae bm h=Qw [.sl X.rows 7 45 .any])(bn:bm.toNat<nx.toNat){Q:cJ}
  (hQ:∀tm' h' nx' bp cA cP,ae (K 1) tm'=some (I n)→ae (K 5) tm'=some (.ptr bm 0)→ae (K 6) tm'=some ev→ae (K 7) tm'=ae (K 7) tm→ae (K 8) tm'=ae (K 8) tm→ae (K 9) tm'=some cA→ae (K 10) tm'=some (.ptr bp 0)→ae (K 11) tm'=some (I 0)→DF X (O4 n) l cA cP→LdH X bm bp cP h' nx'→Ext h nx h' nx'→Q .norm tm' h' nx') :
  fJ C (.staged lQ ⟨[mh,nu,ph,nJ,mj,nK,l7,qG,sS,qZ,cW,k9,dU],[]⟩) Q tm h nx:=by
 have rn:=S.r dR;have rl:=S.r du;have rF:=S.r mz;have hmi:=NC n;have avh:=hr.few;have hF:Few l:=⟨by omega,fun x hx=>by have:=(avh x hx).1;omega⟩;have hvz:∀H,aW 9999 ev H=(ev,H):=fun H=>hv.wH _ _;have SY:=hr.code hmi;have s1:=kTSu nx;simp[Kn.m]at hX;simp[lQ,q1,q5,q6,hbm,rn];refine(L6 S hn).mono ?_;rintro o h1 bW ⟨rfl,e1⟩;have n1:=e1.n;have b1:ae bm h1=Qw [.sl X.rows 7 45 .any]:=by rw[e1.g bm (by omega)];exact hbm
 simp[q5,b1,hX,rl];refine(Ix S).mono ?_;rintro o h2 aN ⟨rfl,e2⟩;have n2:=e2.n;have Rc:=e1.trans e2;have b2:ae bm h2=Qw [.sl X.rows 7 45 .any]:=by rw[Rc.g bm (by omega)];exact hbm
 have hlz:∀H,aW 9999 mF H=(mF,H):=fun H=>rfl;have hmz:∀H,aW 9999 X.m H=(X.m,H):=fun H=>rfl;have hp:=alE S H hmi hv hF (fun _=>He) (h:=h2) (nx:=aN);simp only[Kn.m]at hp hmz;simp[q5,b2,hX,rF,hvz,hlz,hmz];refine hp.mono ?_;rintro o h3 bP ⟨e3,hP⟩;have n3:=e3.n;have UD:=Rc.trans e3;have hD:∃cA cP,o=.ret (.tuple [cA,.agg [cP],I 0])∧cA.aV=true∧cA.cells=[cA]∧cP.aV=true∧cP.cells=[cP]∧DF X (O4 n) l cA cP:=by
  obtain⟨L0,hL0⟩:=hr.small (X:=X) (i:=O4 n) XG;rcases hP with⟨bT,_⟩|⟨_,⟨hb,_⟩|⟨L,hb,hk,Hn,⟨p,cR,hp,hc,ho⟩|⟨hng,cR,hc,ho⟩⟩⟩
  ·exact absurd SY bT
  ·rw[hL0]at hb;cases hb
  ·have kc:=hc.cell;exact⟨cR,.nils,ho,kc.1,kc.2,rfl,rfl,.inl ⟨p,hp,hc,rfl⟩⟩
  ·have kc:=hc.cell;obtain⟨r1,r2⟩:=adF SY hb hk hng;refine⟨.nils,cR,ho,rfl,rfl,kc.1,kc.2,.inr ⟨hng,rfl,jF L,hc,?_,fun y hy=>Hn y ((C1 y).1 hy),r1,r2⟩⟩;have:=hk.len;unfold jF;rw[List.length_mergeSort];omega
 obtain⟨cA,cP,rfl,a1,a2,p1,p2,hDF⟩:=hD;simp[a1,a2,p1,p2];have eh:Ext h nx (au nx (Qw [cP]) h3) bP:=⟨by omega,fun b hb=>by rw[aw hb];exact UD.g b (by omega)⟩;refine hQ _ _ _ nx cA cP ?_ ?_ ?_ ?_ ?_ ?_ ?_ ?_ hDF ⟨by rw[eh.g bm bn];exact hbm,by simp,by omega,by omega⟩ eh<;>simp[q1,q5,q6]
variable(D:Dcd C)
include D
omit H in
theorem aan{os:List Op}(ho:os.length≤16)(nq:∀o∈os,o.e=-1∨0≤o.e)(XF:∀j k (hj:j<os.length) (hk:k<os.length),j<k→before os[k] os[j]=false){cO:AV}(hc:gR 10 eO cO os){most:Nat}(Ki:0<most)(EN:most≤10000){h:T ag}{nx:Key} :
  aM C gw [cO,I most] h nx (fun o h' nx'=>(∃c qs,o=.ret c∧gR 1 eQ c qs∧qs.length≤10000∧((qs.length:Int)≠most→qs=dfs os os.length [] 0))∧Ext h nx h' nx'):=by
 refine(ais S D ho nq XF hc Ki (by omega)).mono ?_;rintro o h' nx' ⟨⟨c,rfl,hR⟩,e⟩;refine⟨⟨c,_,rfl,hR,by rw[Zo];omega,fun bT=>PV ?_⟩,e⟩;rw[Zo]at bT;omega
omit H in
theorem alF(hX:AV.beq X.m X.m=true){bm bp:Key}{n:Int}(hn:IM n){cE cO cA cP:AV}{l:List Ev}(hE:gR 8 eE cE l)(hF:Few l)(XG:l.length≤9)(SY:jD (O4 n) l=0)(Wt:gR 10 eO cO (aI 0 l)){tm6:T AV}{h6 hB:T ag}{Bu KY:Key}(v1:ae (K 1) tm6=some (I n))(v5:ae (K 5) tm6=some (.ptr bm 0))(v6:ae (K 6) tm6=some cE)(v7:ae (K 7) tm6=some cO)(v8:ae (K 8) tm6=some (I 0))(v9:ae (K 9) tm6=some cA)(v10:ae (K 10) tm6=some (.ptr bp 0))(v11:ae (K 11) tm6=some (I 0))(hDF:DF X (O4 n) l cA cP)(LH:LdH X bm bp cP h6 Bu)(e16:Ext hB KY h6 Bu) :
  fJ C (.seq (.seq (.ops lR) (.cond (.t (K 40)) (.seq (.ops tp) .ret) .skip)) (.seq (.ops lS) (.seq (.seq (.ops iw) (.cond (.t (K 45)) (.seq (.ops lT) .ret) .skip)) (.seq (.seq (.ops kP) (.block 0 (.loop iy))) (.seq (.staged gU ⟨[K 89,K 90,K 91,K 92,K 93,K 94,K 95,K 96,K 97,K 98,K 99,K 100,K 101,K 102,K 103,K 104,K 105,K 106,K 107,K 108,K 109,K 110,K 4],[]⟩) .ret))))) (cY [.tmp (K 4)] fun o h' nx'=>o=.ret (.bool true)∧Ext hB KY h' nx') tm6 h6 Bu:=by
 have rR:=S.r gw;have rv:=S.r iD;simp only[bR,cp,cr,vm,gM];have Zz:(aI 0 l).length≤16:=by have:=sW l 0;omega
 have hOz:∀H,aW 9999 cO H=(cO,H):=fun H=>Wt.wH _ _;have ho:=aan S D Zz (fun o ho=>RC l 0 o ho) (fun j k hj hk cH=>air hj hk cH) Wt (most:=5000) (by omega) (by omega) (h:=h6) (nx:=Bu);simp at ho;simp[lR,v8,v11];simp[lS,v7,rR,hOz];refine ho.mono ?_;rintro o h7 nx7 ⟨⟨cQ,rfl,qs,hQ,hq5,hqd⟩,e7⟩;have e17:=e16.trans e7;have RQ:=hQ.rd h7 nx7;have LH7:=LH.ext e7;simp;by_cases hlen:qs.length=5000
 ·have hli:(qs.length:Int)=5000:=by omega
  simp[↓RQ.ln,iw,hli];simp[lT,rv];refine aM.known (S.s_lives _ _) ?_;simp;exact e17
 ·have hli:¬(qs.length:Int)=5000:=by omega
  have hqd:=hqd hli;simp[↓RQ.ln,iw,bq hli];simp[kP];refine alG S hX hn hE hF SY hqd hq5 hQ hDF (h:=h7) (nx:=nx7) (m:=qs.length) ⟨0,by simp,by omega,⟨?_,?_,?_,?_,?_,?_,?_⟩,LH7,Ext.refl _ _,by simp⟩ ?_ ?_
  ·simp[v1]
  ·simp[v5]
  ·simp[v6]
  ·simp[v9]
  ·simp[v10]
  ·simp
  ·simp
  ·intro tm8 h8 nx8 w4 e8;simp[w4];exact e17.trans e8
  ·intro tm8 h8 nx8 i L8 H8 e8 O9;have hng:=(agW (X:=X) (i:=O4 n) (os:=aI 0 l)).2 (by rw[←hqd];exact O9);rcases hDF with⟨p,k1,_⟩|⟨_,rfl,L,k2,k3,k4,k5,k6⟩
   ·exact absurd k1.IT hng
   ·simp;refine aqx S hX hn hE hF k3 k4 k5 k2 k6 L8 H8 ?_;intro tm9 h9 nx9 w4 e9;simp[w4];exact(e17.trans e8).trans e9
theorem ZG(hX:AV.beq X.m X.m=true){n:Int}(hn:IM n){ks:List Int}(Hn:∀x∈ks,IM x){c0:AV}(uC:gR 1 eI c0 ks)(hB:T ag)(KY:Key) :
  aM C mG [c0,I n] hB KY (fun o h' nx'=>o=.ret (.bool true)∧Ext hB KY h' nx'):=by
 have rM:=S.r zV;have rn:=S.r dR;have rH:=S.r ml;have re:=S.r nL;have rO:=S.r j0;have rl:=S.r du;have rF:=S.r mz;have rR:=S.r gw;have rv:=S.r iD;have aER:∀H,aW 9999 c0 H=(c0,H):=fun H=>uC.wH _ _;have s1:=kTSu KY;have hmi:=NC n;refine D.uE.call ?_;simp only[qp,bR,cp,cr,vm,gM];simp[tq];simp[tu,rM];refine aM.known (S.s_Module _ _) ?_;simp[Kn.m];have e1:=E0 hB KY (.cells [.sl X.rows 7 45 .any] .fix);have b1:ae KY (au KY (Qw [.sl X.rows 7 45 .any]) hB)=Qw [.sl X.rows 7 45 .any]:=by simp
 generalize au KY (Qw [.sl X.rows 7 45 .any]) hB=h1 at *;simp[tv,rn];refine(L6 S hn).mono ?_;rintro o h2 aN ⟨rfl,e2⟩;simp[rH,aER];have hh:=adV S (NC n) Hn uC (most:=9) (by omega) (h:=h2) (nx:=aN);simp at hh;refine hh.mono ?_;rintro o h3 bP ⟨ev,l,g,rfl,hv,XG,hr,e3⟩;have avh:=hr.few;have hF:Few l:=⟨by omega,fun x hx=>by have:=(avh x hx).1;omega⟩;have hvz:∀H,aW 9999 ev H=(ev,H):=fun H=>hv.wH _ _;have UD:=(e1.trans e2).trans e3;simp[re,hvz];refine(aiG S (by omega) hv).mono ?_;rintro o h4 kK ⟨cE,rfl,hE,e4⟩;have hEz:∀H,aW 9999 cE H=(cE,H):=fun H=>hE.wH _ _;have e14:=UD.trans e4;have SY:=hr.code hmi;obtain⟨hvd,yb⟩:=BA SY;simp;simp[tw,rO,hEz];refine(agw S hE hF h4 kK).mono ?_;rintro o h5 nx5 ⟨⟨cO,rfl,Wt⟩,e5⟩;rw[if_pos hvd]at Wt;rw[hvd];have kO:=Wt.cell;have e15:=e14.trans e5;have n15:=e15.n;simp[EI];have n5:=e5.n;have n4:=e4.n;have n3:=e3.n;have n2:=e2.n;have b5:ae KY h5=Qw [.sl X.rows 7 45 .any]:=by rw[e5.g KY (by omega),e4.g KY (by omega),e3.g KY (by omega),e2.g KY (by omega)];exact b1
 refine avg S H hX (bm:=KY) hn hr XG hE (by simp) (by simp) (by simp) b5 (by omega) ?_;intro tm6 h6 Bu bp cA cP v1 v5 v6 v7 v8 v9 v10 v11 hDF LH e6;simp at v7 v8;exact alF S D hX hn hE hF XG SY Wt v1 v5 v6 v7 v8 v9 v10 v11 hDF LH (e15.trans e6)
end Ln
namespace Go.Sx
def zW(W:World)(c i:Nat):Option Value:=match W.heap[c]? with
 |some (.cells arr _ _)=>arr[i]?
 |_=>none
theorem apW{W:World}:∀c i v,zW W c i=some v→∃arr elem f,W.heap[c]?=some (.cells arr elem f)∧arr[i]?=some v:=by
 intro c i v h;unfold zW at h;split at h
 ·rename_i arr e f he;exact⟨arr,e,f,he,h⟩
 ·cases h
end Go.Sx
