/- A part of the proof. No condition. -/
import Derived.Test.YtecbfpngkfdkoaaGreatP36
set_option linter.unusedSimpArgs false
set_option linter.unusedVariables false
set_option linter.unusedSectionVars false
namespace Ln
open Go.Sx Go
variable{C:dm}{X:Kn}(S:Std C X)
include S
theorem ajW{os:List Op}{ord:List Int}(ho:os.length≤16)(hlen:ord.length≤1000){c0 c1:AV}(kV:iD 10 eO c0 os)(Fe:∀ x∈ord,0≤x∧x<os.length)(Dn:ord.Nodup)(Oy:∀ (i:Nat) (o:Op),os[i]?=some o→o.e≠-1→(i:Int)∈ord)
  {R:Out→T ah→Key→Prop} {Q:cX} {tm:T AV} {h:T ah} {nx:Key} (g0:aa (K 0) tm=some c0) (g1:aa (K 1) tm=some c1) (yW:aa (K 10) tm=some (.bool true)) (o1:Ord c1 ord ord.length h nx)
  (hR:∀ h' nx',Ext h nx h' nx'→R (.ret (.bool (dW os ord))) h' nx') (hQ:∀ an h' nx',bb [.tmp (K 4)] R .ret an h' nx'→Q .ret an h' nx') :
  dz C (.seq (.seq (.ops cd) (.block 4 (.loop cV))) (.seq (.ops bw) .ret)) Q tm h nx:=by
 have fin:∀ (tm2:T AV) (h2:T ah) (aI:Key) (v:Bool),aa (K 10) tm2=some (.bool v)→dW os ord=v→Ext h nx h2 aI→mF C (aq (dz C .ret Q) Q) bw tm2 h2 aI:=by
  intro tm2 h2 aI v A9 hl e
  simp[bw,A9]
  refine hQ _ _ _ ?_
  have:=hR h2 aI e
  rw[hl] at this
  simpa using this
 have AW:(ord.Pairwise fun x y=>before (at_ os y) (at_ os x)=false)→dW os ord=true:=fun hp=>IX ⟨Fe,Oy,(List.Pairwise.and Dn hp).imp fun q=>⟨q.1,q.2⟩⟩
 have bad:∀ (j k:Nat) (hj:j<ord.length) (hk:k<ord.length),k<j→before (at_ os ord[j]) (at_ os ord[k])=true→dW os ord=false:=by
  intro j k hj hk hkj hb
  refine dV fun L=>?_
  have:=List.pairwise_iff_getElem.1 L.pair k j hk hj hkj
  rw[hb] at this
  exact absurd this.2 (by simp)
 simp
 have body:∀ cu,aa (K 0) cu=some c0→aa (K 1) cu=some c1→aa (K 10) cu=some (.bool true)→aa (K 60) cu=some c1→aa (K 61) cu=some (I ord.length)→aa (K 62) cu=some (I 0)→
   W C (.loop cV) (ak 4 (aq (dz C (.seq (.ops bw) .ret) Q) Q)) cu h nx:=by
  intro cu g0 g1 yW g60 g61 g62
  refine W.di (n:=ord.length) (PwI os ord c0 c1 h nx) ?_ ?_
  ·exact⟨0,by simp,by omega,g0,g1,yW,g60,g61,by simpa using g62,o1,Ext.refl _ _,by simp⟩
  ·clear g0 g1 yW g60 g61 g62
   rintro m cu h1 bM ⟨j,rfl,hj,g0,g1,yW,g60,g61,g62,o1,e1,hp⟩
   refine W.of ?_
   simp[cV]
   simp[uW,g61,g62]
   refine⟨fun bN=>?_,fun TF=>?_⟩
   ·have aR:j<ord.length:=by omega
    have Q3:∀ (tm2:T AV) (c69:AV),(∀ k:Key,k=K 0∨k=K 1∨k=K 10∨k=K 60∨k=K 61∨k=K 62→aa k tm2=aa k cu)→aa (K 12) tm2=some (I ord[j])→aa (K 69) tm2=some c69→aa (K 70) tm2=some (I j)→aa (K 71) tm2=some (I 0)→Ord c69 ord j h1 bM→
      W C (.loop jr) (ak 6 (ak 5 (aq (dz C (.ops l8) (aq (fun tm h' nx'=>∃ m,m<ord.length-j∧PwI os ord c0 c1 h nx m tm h' nx') (ak 4 (aq (dz C (.seq (.ops bw) .ret) Q) Q)))) (aq (fun tm h' nx'=>∃ m,m<ord.length-j∧PwI os ord c0 c1 h nx m tm h' nx') (ak 4 (aq (dz C (.seq (.ops bw) .ret) Q) Q)))))) tm2 h1 bM:=by
     intro tm2 c69 q q12 q69 q70 q71 o69
     refine awU S ho hlen kV Fe (h:=h) (nx:=nx) aR (c1:=c1) (c69:=c69) (m:=j) ?_ ?_ ?_
     ·exact⟨0,by simp,by omega,(q (K 0) (by simp)).trans g0,(q (K 1) (by simp)).trans g1,(q (K 10) (by simp)).trans yW,(q (K 60) (by simp)).trans g60,(q (K 61) (by simp)).trans g61,(q (K 62) (by simp)).trans g62,q12,q69,q70,by simpa using q71,o1,o69,e1,fun q _ hq=>absurd hq (by omega)⟩
     ·intro an h' nx' k hk hkj A9 hb e'
      simp
      exact fin _ _ _ false A9 (bad j k aR hk hkj hb) e'
     ·rintro an h' nx' ⟨k,hk0,hk,q0,q1,A9,q60,q61,q62,_,_,_,_,o1',_,e',hq⟩
      have:k=j:=by omega
      subst this
      simp
      simp[l8,q62]
      rw[au (by omega) (by omega)]
      exact⟨ord.length-(k+1),by omega,k+1,rfl,by omega,by simp[q0],by simp[q1],by simp[A9],by simp[q60],by simp[q61],by simp,o1',e',awT aR hp (fun k hk hkj=>hq k hk hkj)⟩
    obtain⟨hnj,oc⟩:=o1
    rcases oc with⟨_,e⟩|⟨f,e⟩|⟨b,kd,e,hb,C3⟩
    ·omega
    ·have mq:(ai eI (ord.take ord.length)).length=ord.length:=by rw[bU];simp
     have rd:=alQ (fe _) aR aR
     have pT:1≤ord.length-j:=by omega
     have aqF:j≤ord.length:=by omega
     have tk:List.take j (ai eI (ord.take ord.length))=ai eI (ord.take j):=by rw[IK,List.take_take,Nat.min_eq_left aqF]
     simp at mq rd tk
     have bI:j≠ord.length:=by omega
     have jy:=g1
     have aui:=g60
     rw[e] at jy aui
     simp[l9,aui,g62,aR,mq,rd,pT]
     simp[ma,jy,mq,aqF,tk,bI]
     refine Q3 _ (.sl (ai eI (ord.take j)) j 1 .any) ?_ ?_ ?_ ?_ ?_ ⟨by omega,.inr (.inl ⟨.any,rfl⟩)⟩
     ·rintro q (rfl|rfl|rfl|rfl|rfl|rfl)<;>simp[g1,g60]
     all_goals simp
    ·have rd:=xd aR
     have mq:(ai eI ord).length=ord.length:=bU _
     have aqF:j≤ord.length:=by omega
     have jy:=g1
     have aui:=g60
     rw[e] at jy aui
     simp[l9,aui,g62,aR,hb,rd,mq]
     simp[ma,jy,mq,aqF]
     refine Q3 _ (.slice b 0 j 1) ?_ ?_ ?_ ?_ ?_ ⟨by omega,.inr (.inr ⟨b,kd,rfl,hb,C3⟩)⟩
     ·rintro q (rfl|rfl|rfl|rfl|rfl|rfl)<;>simp[g1,g60]
     all_goals simp
   ·have nS:j=ord.length:=by omega
    subst nS
    rw[List.take_length] at hp
    refine fin _ _ _ true ?_ (AW hp) e1
    simp[yW]
 obtain⟨hnj,oc⟩:=id o1
 rcases oc with⟨e,e'⟩|⟨f,e⟩|⟨b,kd,e,hb,C3⟩
 ·have hl0:(ord.length:Int)=0:=by omega
  rw[hl0] at body
  simp[cd,g1,e]
  refine body _ ?_ ?_ ?_ ?_ ?_ ?_<;>simp[g0,g1,yW,e]
 ·simp[cd,g1,e]
  refine body _ ?_ ?_ ?_ ?_ ?_ ?_<;>simp[g0,g1,yW,e]
 ·simp[cd,g1,e]
  refine body _ ?_ ?_ ?_ ?_ ?_ ?_<;>simp[g0,g1,yW,e]
end Ln
/-
 LN: orders that real time allows: the program, all of it. No condition.
-/
namespace Ln
open Go.Sx Go
def M7(n:Nat)(l:List Int):List AV:=(List.range n).map fun(k:Nat)=>AV.bool (decide ((k:Int)∈l))
theorem Li(n:Nat)(l:List Int):(M7 n l).length=n:=by simp[M7]
theorem awn(n:Nat):(List.replicate n [AV.bool false]).flatten=M7 n []:=by
 unfold M7
 induction n with
 |zero=>rfl
 |succ n ih=>rw[List.replicate_succ',List.flatten_append,ih,List.range_succ];simp
theorem xH{n:Nat}{l:List Int}{i:Nat}(hh:i<(M7 n l).length):(M7 n l)[i]=.bool (decide ((i:Int)∈l)):=by simp[M7]
theorem awo{n:Nat}{l:List Int}{x:Nat}(h:x<n):List.take x (M7 n l)++AV.bool true ::List.drop (x+1) (M7 n l)=M7 n (l ++ [(x:Int)]):=by
 have e:List.take x (M7 n l)++AV.bool true ::List.drop (x+1) (M7 n l)=(M7 n l).set x (.bool true):=by
  rw[List.set_eq_take_append_cons_drop,if_pos (by rw[Li];exact h)]
 rw[e]
 apply List.ext_getElem
 ·simp[Li]
 ·intro i h1 h2
  rw[List.getElem_set,xH,xH]
  by_cases hi:x=i
  ·subst hi;simp
  ·simp[hi];intro h;exfalso;omega
variable{C:dm}{X:Kn}(S:Std C X)
include S
def EnI(os:List Op)(ord:List Int)(c0 c1:AV)(bt:Key)(h:T ah)(nx:Key)(m:Nat)(an:T AV)(h':T ah)(nx':Key):Prop:=∃ j:Nat,m=os.length-j∧j≤os.length∧aa (K 0) an=some c0∧aa (K 1) an=some c1∧aa (K 5) an=some (.slice bt 0 os.length 1)∧aa (K 42) an=some c0∧aa (K 43) an=some (I os.length)∧aa (K 44) an=some (I j)∧
 aa bt h'=some (.cells (M7 os.length ord) .fix)∧bt.toNat<nx'.toNat∧Ord c1 ord ord.length h' nx'∧Ext h nx h' nx'∧∀ (i:Nat) (o:Op),i<j→os[i]?=some o→o.e≠-1→(i:Int)∈ord
theorem asR{os:List Op}{ord:List Int}(ho:os.length≤16)(hlen:ord.length≤1000){c0 c1:AV}(kV:iD 10 eO c0 os)(Fe:∀ x∈ord,0≤x∧x<os.length)(Dn:ord.Nodup)
  {R:Out→T ah→Key→Prop} {Q:cX} {tm:T AV} {h:T ah} {nx bt:Key} (g0:aa (K 0) tm=some c0) (g1:aa (K 1) tm=some c1) (g5:aa (K 5) tm=some (.slice bt 0 os.length 1)) (gb:aa bt h=some (.cells (M7 os.length ord) .fix)) (hbt:bt.toNat<nx.toNat) (o1:Ord c1 ord ord.length h nx)
  (hR:∀ h' nx',Ext h nx h' nx'→R (.ret (.bool (dW os ord))) h' nx') (hQ:∀ an h' nx',bb [.tmp (K 4)] R .ret an h' nx'→Q .ret an h' nx') :
  dz C (.seq (.seq (.ops fV) (.block 2 (.loop fW))) (.seq (.ops dU) (.seq .skip (.seq (.seq (.ops cd) (.block 4 (.loop cV))) (.seq (.ops bw) .ret))))) Q tm h nx:=by
 have fin:∀ (tm2:T AV) (h2:T ah) (aI:Key),aa (K 0) tm2=some c0→aa (K 1) tm2=some c1→Ord c1 ord ord.length h2 aI→Ext h nx h2 aI→(∀ (i:Nat) (o:Op),os[i]?=some o→o.e≠-1→(i:Int)∈ord)→dz C (.seq (.ops dU) (.seq .skip (.seq (.seq (.ops cd) (.block 4 (.loop cV))) (.seq (.ops bw) .ret)))) Q tm2 h2 aI:=by
  intro tm2 h2 aI q0 q1 o2 e2 Oy
  have key:=fun Fc a0 a1 a10=>ajW S ho hlen kV Fe Dn Oy (R:=R) (Q:=Q) (tm:=Fc) (h:=h2) (nx:=aI) a0 a1 a10 o2 (fun h' nx' e=>hR h' nx' (e2.trans e)) hQ
  simp only[aL,aQ] at key
  simp
  simp[dU]
  refine key _ ?_ ?_ ?_<;>simp[q0,q1]
 simp only[aL,aQ] at fin
 simp
 rcases kV with⟨e,rfl⟩|e
 ·have ij:=g0
  rw[e] at ij
  simp[fV,ij]
  refine W.Bl (W.of ?_)
  simp[fW]
  simp[lY]
  refine fin _ _ _ ?_ ?_ o1 (Ext.refl _ _) (fun i o hi=>by simp at hi)
  ·simp[g0]
  ·simp[g1]
 ·have ij:=g0
  rw[e] at ij
  simp[fV,ij]
  refine W.di (n:=os.length) (EnI os ord c0 c1 bt h nx) ?_ ?_
  ·exact⟨0,by simp,by omega,by simp[g0],by simp[g1],by simp[g5],by simp[e],by simp,by simp,gb,hbt,o1,Ext.refl _ _,fun i o hi=>absurd hi (by omega)⟩
  ·rintro m cu h1 bM ⟨j,rfl,hj,q0,q1,q5,q42,q43,q44,qb,qbt,o2,e2,hen⟩
   refine W.of ?_
   simp[fW]
   simp[lY,q43,q44]
   refine⟨fun bN=>?_,fun TF=>?_⟩
   ·have aR:j<os.length:=by omega
    have ec:=cG.at aR
    have hr:=cG.rows os
    have tx:10≤os.length*10-j*10:=by omega
    have s1:=kTSu bM
    have ac:=bc os[j].args
    have eo:eO os[j]=[I os[j].client,I os[j].b,I os[j].e,I os[j].lost,.str os[j].name.1 os[j].name.2,aB os[j].args,I os[j].res.k,I os[j].res.n,.str 0 0,.nils]:=rfl
    have aD8:=q42
    rw[e] at aD8
    rw[eo] at ec
    have e3:=E0 h1 bM (.cells (eO os[j]) .fix)
    rw[eo] at e3
    have qb3:aa bt (av bM (some (.cells [I os[j].client,I os[j].b,I os[j].e,I os[j].lost,.str os[j].name.1 os[j].name.2,aB os[j].args,I os[j].res.k,I os[j].res.n,.str 0 0,.nils] .fix)) h1)=some (.cells (M7 os.length ord) .fix):=by rw[e3.g bt qbt];exact qb
    have tl:=Li os.length ord
    simp[uy,aD8,q44,aR,hr,tx,ec,ac.1,ac.2]
    have next:∀ tm2:T AV,aa (K 0) tm2=some c0→aa (K 1) tm2=some c1→aa (K 5) tm2=some (.slice bt 0 os.length 1)→aa (K 42) tm2=some c0→aa (K 43) tm2=some (I os.length)→aa (K 44) tm2=some (I j)→(os[j].e≠-1→(j:Int)∈ord)→
      mF C (aq (fun tm h' nx'=>∃ m,m<os.length-j∧EnI os ord c0 c1 bt h nx m tm h' nx') (ak 2 (aq (dz C (.seq (.ops dU) (.seq .skip (.seq (.seq (.ops cd) (.block 4 (.loop cV))) (.seq (.ops bw) .ret)))) Q) Q))) lZ tm2 (av bM (some (.cells [I os[j].client,I os[j].b,I os[j].e,I os[j].lost,.str os[j].name.1 os[j].name.2,aB os[j].args,I os[j].res.k,I os[j].res.n,.str 0 0,.nils] .fix)) h1) bM.succ:=by
     intro tm2 a0 a1 a5 a42 a43 a44 mM
     simp[lZ,a44]
     rw[au (by omega) (by omega)]
     refine⟨os.length-(j+1),by omega,j+1,rfl,by omega,by simp[a0],by simp[a1],by simp[a5],by simp[a42],by simp[a43],by simp,qb3,by omega,o2.ext e3,e2.trans e3,?_⟩
     intro i o hi hio IY
     by_cases hij:i=j
     ·subst hij
      rw[Fo aR] at hio
      cases hio
      exact mM IY
     ·exact hen i o (by omega) hio IY
    by_cases IY:os[j].e=-1
    ·simp[iz,IY]
     rw[IY] at next
     refine next _ ?_ ?_ ?_ ?_ ?_ ?_ (fun h=>absurd rfl h)<;>simp[q0,q1,q5,q42,q43,q44,e]
    ·by_cases sC:(j:Int)∈ord
     ·simp[iz,bq IY,q5,aR,qb3,tl,xH,sC]
      refine next _ ?_ ?_ ?_ ?_ ?_ ?_ (fun h=>sC)<;>simp[q0,q1,q5,q42,q43,q44,e]
     ·simp[iz,bq IY,q5,aR,qb3,tl,xH,sC]
      simp[uz]
      refine hQ _ _ _ ?_
      have:=hR _ _ (e2.trans e3)
      rw[dV (fun L=>sC (L.ended j _ (Fo aR) IY))] at this
      simpa using this
   ·have nS:j=os.length:=by omega
    subst nS
    refine fin _ _ _ ?_ ?_ o2 e2 (fun i o hio=>hen i o (List.getElem?_eq_some_iff.1 hio).1 hio)
    ·simp[q0]
    ·simp[q1]
end Ln
/-
 LN: orders that real time allows: the program. No condition.
-/
namespace Ln
open Go.Sx Go
variable{C:dm}{X:Kn}(S:Std C X)
def ThI(os:List Op)(ord:List Int)(c0 c1:AV)(bt:Key)(h:T ah)(nx:Key)(m:Nat)(an:T AV)(h':T ah)(nx':Key):Prop:=∃ j:Nat,m=ord.length-j∧j≤ord.length∧aa (K 0) an=some c0∧aa (K 1) an=some c1∧aa (K 5) an=some (.slice bt 0 os.length 1)∧aa (K 18) an=some c1∧aa (K 19) an=some (I ord.length)∧aa (K 20) an=some (I j)∧
 aa bt h'=some (.cells (M7 os.length (ord.take j)) .fix)∧nx'=nx∧(∀ k:Key,k≠bt→aa k h'=aa k h)∧(∀ x∈ord.take j,0≤x∧x<os.length)∧(ord.take j).Nodup
theorem atZ{os:List Op}{ord:List Int}(ho:os.length≤16)(hlen:ord.length≤1000){c0 c1:AV}(kV:iD 10 eO c0 os){h h1:T ah}{nx bt:Key}{P:cX}{tm2:T AV}{j:Nat}(aR:j<ord.length)(q0:aa (K 0) tm2=some c0)(q1:aa (K 1) tm2=some c1)(q5:aa (K 5) tm2=some (.slice bt 0 os.length 1))(q18:aa (K 18) tm2=some c1)(q19:aa (K 19) tm2=some (I ord.length))(q20:aa (K 20) tm2=some (I j))(q7:aa (K 7) tm2=some (I ord[j]))
  (gb:aa bt h1=some (.cells (M7 os.length (ord.take j)) .fix)) (gk:∀ k:Key,k≠bt→aa k h1=aa k h) (FG:∀ x∈ord.take j,0≤x∧x<os.length) (Dn:(ord.take j).Nodup)
  (gH:∀ an h',aa (K 4) an=some (.bool false)→dW os ord=false→(∀ k:Key,k≠bt→aa k h'=aa k h)→P .ret an h' nx)
  (cH:∀ an h' m,m<ord.length-j→ThI os ord c0 c1 bt h nx m an h' nx→P .norm an h' nx) :
  dz C (.seq (.seq (.ops dK) (.cond (.t (K 37)) (.seq (.ops eh) .ret) .skip)) (.ops nu)) (ak 1 (aq (dz C (.ops nv) P) P)) tm2 h1 nx:=by
 have CU:=zqu aR
 have tl:=Li os.length (ord.take j)
 have mem:ord[j]∈ord:=JW aR
 simp
 by_cases h0:ord[j]<0
 ·simp[dK,q7,h0]
  simp[eh]
  refine gH _ _ ?_ (dV fun L=>by have:=(L.Fe _ mem).1;omega) gk
  simp
 ·obtain⟨x,hx⟩:=Int.eq_ofNat_of_zero_le (show 0≤ord[j] by omega)
  have hx0:¬ (x:Int)<0:=by omega
  rw[hx] at q7
  by_cases AZ:x<os.length
  ·have aw2:(x:Int)<os.length:=by omega
   have fi:c0=.sl (ai eO os) os.length 10 .any:=by
    rcases kV with⟨_,rfl⟩|e
    ·simp at AZ
    ·exact e
   have q0':=q0
   rw[fi] at q0'
   by_cases sC:(x:Int)∈ord.take j
   ·simp[dK,q7,hx0,aw2,q0',q5,AZ,gb,tl,xH,sC]
    simp[eh]
    refine gH _ _ ?_ (dV fun L=>?_) gk
    ·simp
    ·obtain⟨k,hk,Qg⟩:=List.getElem_of_mem sC
     simp at hk Qg
     have:=List.pairwise_iff_getElem.1 L.pair k j (by omega) aR (by omega)
     exact this.1 (by rw[Qg,hx])
   ·have hp:=awo (n:=os.length) (l:=ord.take j) AZ
    have aKS:x+1≤os.length:=by omega
    simp[dK,q7,hx0,aw2,q0',q5,AZ,gb,tl,xH,sC]
    simp[nu,q7,q5,AZ,gb,tl,hp,aKS]
    simp[nv,q20]
    rw[au (by omega) (by omega)]
    refine cH _ _ (ord.length-(j+1)) (by omega) ⟨j+1,rfl,by omega,by simp[q0],by simp[q1],by simp[q5],by simp[q18],by simp[q19],by simp,?_,rfl,fun k hk=>?_,?_,?_⟩
    ·rw[CU,hx];simp
    ·rw[bZ _ _ _ _ hk];exact gk k hk
    ·intro y hy
     rw[CU,List.mem_append,List.mem_singleton] at hy
     rcases hy with hy|rfl
     ·exact FG y hy
     ·omega
    ·rw[CU,List.nodup_append]
     refine⟨Dn,by simp,?_⟩
     intro a ha b hb
     simp at hb
     subst hb
     rintro rfl
     rw[hx] at ha
     exact sC ha
  ·have aw2:¬ (x:Int)<os.length:=by omega
   have hl:dW os ord=false:=dV fun L=>by have:=(L.Fe _ mem).2;omega
   rcases kV with⟨e,rfl⟩|e
   ·rw[e] at q0
    simp[dK,q7,hx0,q0]
    simp[eh]
    refine gH _ _ ?_ hl gk
    simp
   ·rw[e] at q0
    simp[dK,q7,hx0,aw2,q0]
    simp[eh]
    refine gH _ _ ?_ hl gk
    simp
theorem at1{os:List Op}{ord:List Int}(ho:os.length≤16)(hlen:ord.length≤1000){c0 c1:AV}(kV:iD 10 eO c0 os){h:T ah}{nx bt:Key}{Q:cX}(o1:∀ h',(∀ k:Key,k≠bt→aa k h'=aa k h)→Ord c1 ord ord.length h' nx){tm:T AV}
  (g0:aa (K 0) tm=some c0) (g1:aa (K 1) tm=some c1) (g5:aa (K 5) tm=some (.slice bt 0 os.length 1)) (gb:aa bt h=some (.cells (M7 os.length []) .fix))
  (gH:∀ an h',aa (K 4) an=some (.bool false)→dW os ord=false→(∀ k:Key,k≠bt→aa k h'=aa k h)→Q .ret an h' nx)
  (cH:∀ an h',aa (K 0) an=some c0→aa (K 1) an=some c1→aa (K 5) an=some (.slice bt 0 os.length 1)→aa bt h'=some (.cells (M7 os.length ord) .fix)→(∀ k:Key,k≠bt→aa k h'=aa k h)→(∀ x∈ord,0≤x∧x<os.length)→ord.Nodup→Q .norm an h' nx) :
  dz C (.seq (.ops ei) (.block 0 (.loop gh))) Q tm h nx:=by
 have body:∀ cu,aa (K 0) cu=some c0→aa (K 1) cu=some c1→aa (K 5) cu=some (.slice bt 0 os.length 1)→aa (K 18) cu=some c1→aa (K 19) cu=some (I ord.length)→aa (K 20) cu=some (I 0)→W C (.loop gh) (ak 0 Q) cu h nx:=by
  clear g0 g1 g5 tm
  intro cu g0 g1 g5 g18 g19 g20
  refine W.di (n:=ord.length) (ThI os ord c0 c1 bt h nx) ?_ ?_
  ·exact⟨0,by simp,by omega,g0,g1,g5,g18,g19,by simpa using g20,by simpa using gb,rfl,fun _ _=>rfl,by simp,by simp⟩
  ·clear g0 g1 g5 g18 g19 g20 gb
   rintro m cu h1 bM ⟨j,rfl,hj,g0,g1,g5,g18,g19,g20,gb,rfl,gk,FG,Dn⟩
   refine W.of ?_
   simp[gh]
   simp[vU,g19,g20]
   refine⟨fun bN=>?_,fun TF=>?_⟩
   ·have aR:j<ord.length:=by omega
    have Q3:=fun(tm2:T AV) a0 a1 a5 a18 a19 a20 a7=>atZ (C:=C) ho hlen kV (c1:=c1) (h:=h) (h1:=h1) (nx:=bM) (bt:=bt) (tm2:=tm2) aR a0 a1 a5 a18 a19 a20 a7 gb gk FG Dn (P:=aq (fun tm h' nx'=>∃ m,m<ord.length-j∧ThI os ord c0 c1 bt h bM m tm h' nx') (ak 0 Q)) (fun an h' e2 hl hk=>by simp;exact gH _ _ e2 hl hk) (fun an h' m hm hI=>by simp;exact⟨m,hm,hI⟩)
    simp only[aL,aQ] at Q3
    obtain⟨hnj,oc⟩:=o1 h1 gk
    rcases oc with⟨_,e⟩|⟨f,e⟩|⟨b,kd,e,hb,C3⟩
    ·omega
    ·have mq:(ai eI (ord.take ord.length)).length=ord.length:=by rw[bU];simp
     have rd:=alQ (fe _) aR aR
     have pT:1≤ord.length-j:=by omega
     simp at mq rd
     have aqB:=g18
     rw[e] at aqB
     simp[nw,aqB,g20,aR,mq,rd,pT]
     have e2:c1=.sl (ai eI ord) ord.length 1 f:=by simpa using e
     have aET:=g18
     rw[e2] at aET
     refine Q3 _ ?_ ?_ ?_ ?_ ?_ ?_ ?_<;>simp[g0,g1,g5,aET,g19,g20,e2]
    ·have mq:(ai eI ord).length=ord.length:=bU _
     have aqB:=g18
     rw[e] at aqB
     simp[nw,aqB,g20,aR,hb,mq]
     refine Q3 _ ?_ ?_ ?_ ?_ ?_ ?_ ?_<;>simp[g0,g1,g5,g19,g20,aqB,e]
   ·have nS:j=ord.length:=by omega
    subst nS
    rw[List.take_length] at FG Dn gb
    refine cH _ h1 ?_ ?_ ?_ gb gk FG Dn
    ·simp[g0]
    ·simp[g1]
    ·simp[g5]
 obtain⟨hnj,oc⟩:=o1 h (fun _ _=>rfl)
 simp
 rcases oc with⟨e,e'⟩|⟨f,e⟩|⟨b,kd,e,hb,C3⟩
 ·have hl0:(ord.length:Int)=0:=by omega
  rw[hl0] at body
  have jy:=g1
  rw[e] at jy
  simp[ei,jy]
  refine body _ ?_ ?_ ?_ ?_ ?_ ?_<;>simp[g0,g1,g5,e]
 ·have jy:=g1
  rw[e] at jy
  simp[ei,jy]
  refine body _ ?_ ?_ ?_ ?_ ?_ ?_<;>simp[g0,g1,g5,e]
 ·have jy:=g1
  rw[e] at jy
  simp[ei,jy]
  refine body _ ?_ ?_ ?_ ?_ ?_ ?_<;>simp[g0,g1,g5,e]
include S
theorem aw3{os:List Op}{ord:List Int}(ho:os.length≤16)(hlen:ord.length≤1000){c0 c1:AV}(kV:iD 10 eO c0 os){h:T ah}{nx:Key}(o1:Ord c1 ord ord.length h nx) :
  aO C gW [c0,c1] h nx (fun o h' nx'=>o=.ret (.bool (dW os ord))∧Ext h nx h' nx'):=by
 have s1:=kTSu nx
 refine S.xT.call ?_
 simp only[uD,aL,aQ]
 simp[vV]
 have hm:os.length≤1048576:=by omega
 have ext:∀ h',(∀ k:Key,k≠nx→aa k h'=aa k (av nx (some (.cells (M7 os.length []) .fix)) h))→Ext h nx h' nx.succ:=fun h' qk=>⟨by omega,fun b hb=>by rw[qk b (fun e=>by subst e;omega),az hb]⟩
 generalize hP:(aq (dz C .skip (bb [.tmp (K 4)] fun o h' nx'=>o=.ret (.bool (dW os ord))∧Ext h nx h' nx')) (bb [.tmp (K 4)] fun o h' nx'=>o=.ret (.bool (dW os ord))∧Ext h nx h' nx'))=P
 have hPr:∀ an h' nx',bb [.tmp (K 4)] (fun o h' nx'=>o=.ret (.bool (dW os ord))∧Ext h nx h' nx') .ret an h' nx'→P .ret an h' nx':=fun an h' nx' q=>by rw[← hP];exact q
 have main:∀ cu:T AV,aa (K 0) cu=some c0→aa (K 1) cu=some c1→aa (K 5) cu=some (.slice nx 0 os.length 1)→
   dz C (.seq (.ops ei) (.block 0 (.loop gh))) (aq (dz C (.seq (.seq (.ops fV) (.block 2 (.loop fW))) (.seq (.ops dU) (.seq .skip (.seq (.seq (.ops cd) (.block 4 (.loop cV))) (.seq (.ops bw) .ret))))) P) P) cu (av nx (some (.cells (M7 os.length []) .fix)) h) nx.succ:=by
  intro cu g0 g1 g5
  refine at1 ho hlen kV (bt:=nx) (fun h' hk=>o1.ext (ext h' hk)) g0 g1 g5 (by simp) ?_ ?_
  ·intro an h' q4 hl hk
   refine hPr _ _ _ ?_
   simp[q4]
   exact⟨hl,ext h' hk⟩
  ·intro an h' q0 q1 q5 qb qk Fe Dn
   exact asR S ho hlen kV Fe Dn q0 q1 q5 qb (by omega) (o1.ext (ext h' qk)) (fun h2 aI e=>⟨rfl,(ext h' qk).trans e⟩) hPr
 simp only[aL,aQ] at main
 have ht:=awn os.length
 rcases id kV with⟨e,e'⟩|e
 ·have Lu:os.length=0:=by rw[e'];rfl
  have ht0:M7 0 []=[]:=rfl
  rw[Lu,ht0] at main
  simp[ny,e]
  refine main _ ?_ ?_ ?_<;>simp[e]
 ·simp[ny,e,hm,ht]
  refine main _ ?_ ?_ ?_<;>simp[e]
end Ln
/-
 LN: orders that real time allows: the reference. No condition.
-/
namespace Ln
open Go.Sx Go
theorem Ord.cases{c:AV}{l:List Int}{h:T ah}{nx:Key}(o:Ord c l l.length h nx):(c=.nils∧l=[])∨(∃ f,c=.sl (ai eI l) l.length 1 f)∨∃ (b:Key) (k:CK),c=.slice b 0 l.length 1∧aa b h=some (.cells (ai eI l) k)∧b.toNat<nx.toNat:=by
 obtain⟨_,oc⟩:=o
 rcases oc with⟨e,h0⟩|⟨f,e⟩|e
 ·exact .inl ⟨e,TW h0⟩
 ·rw[List.take_length] at e;exact .inr (.inl ⟨f,e⟩)
 ·exact .inr (.inr e)
variable{C:dm}{X:Kn}(S:Std C X)
include S
theorem ajf{ord:List Int}(hlen:ord.length≤1000){c1:AV}{h:T ah}{nx:Key}(o1:Ord c1 ord ord.length h nx)(k:Int):aO C jF [c1,I k] h nx (fun o h' nx'=>o=.ret (.bool (decide (k∈ord)))∧h'=h∧nx'=nx):=by
 refine S.JD.call ?_
 simp[Ip]
 simp[He]
 simp[Hf]
 refine W.di (n:=ord.length) (fun m an h' nx'=>∃ j:Nat,m=ord.length-j∧j≤ord.length∧aa (K 0) an=some c1∧aa (K 1) an=some (I k)∧aa (K 5) an=some (I j)∧h'=h∧nx'=nx∧¬ k∈ord.take j) ?_ ?_
 ·exact⟨0,by simp,by omega,by simp,by simp,by simp,rfl,rfl,by simp⟩
 ·rintro m cu h1 bM ⟨j,rfl,hj,g0,g1,g5,rfl,rfl,hk⟩
  refine W.of ?_
  simp[Hg]
  by_cases aR:j<ord.length
  ·have sB:(j:Int)<ord.length:=by omega
   have CU:=zqu aR
   have mem:ord[j]∈ord:=JW aR
   have pT:1≤ord.length-j:=by omega
   have mq:(ai eI ord).length=ord.length:=bU _
   have rd:=jb aR
   have next:ord[j]≠k→¬ k∈ord.take (j+1):=fun bI hm=>by
    rw[CU,List.mem_append,List.mem_singleton] at hm
    rcases hm with hm|hm
    ·exact hk hm
    ·exact bI hm.symm
   rcases o1.cases with⟨_,e⟩|⟨f,e⟩|⟨b,kd,e,hb,C3⟩
   ·rw[e] at aR;simp at aR
   ·have ij:=g0
    rw[e] at ij
    by_cases hx:ord[j]=k
    ·have sC:k∈ord:=hx ▸ mem
     simp[fZ,ij,g5,sB]
     simp[np,ij,g1,g5,aR,rd,mq,pT,hx]
     simp[zl,sC]
    ·simp[fZ,ij,g5,sB]
     simp[np,ij,g1,g5,aR,rd,mq,pT,bq hx]
     simp[zm,g5]
     rw[au (by omega) (by omega)]
     exact⟨ord.length-(j+1),by omega,j+1,rfl,by omega,g0,g1,by omega,next hx⟩
   ·have ij:=g0
    rw[e] at ij
    by_cases hx:ord[j]=k
    ·have sC:k∈ord:=hx ▸ mem
     simp[fZ,ij,g5,sB]
     simp[np,ij,g1,g5,aR,hb,mq,hx]
     simp[zl,sC]
    ·simp[fZ,ij,g5,sB]
     simp[np,ij,g1,g5,aR,hb,mq,bq hx]
     simp[zm,g5]
     rw[au (by omega) (by omega)]
     exact⟨ord.length-(j+1),by omega,j+1,rfl,by omega,g0,g1,by omega,next hx⟩
  ·have nS:j=ord.length:=by omega
   subst nS
   rw[List.take_length] at hk
   rcases o1.cases with⟨e,e'⟩|⟨f,e⟩|⟨b,kd,e,hb,C3⟩
   ·subst e'
    rw[e] at g0
    simp[fZ,g0,g5]
    simp[tv]
   ·rw[e] at g0
    simp[fZ,g0,g5]
    simp[tv,hk]
   ·rw[e] at g0
    simp[fZ,g0,g5]
    simp[tv,hk]
end Ln
/-
 LN: orders that real time allows: the reference, pairs. No condition.
-/
namespace Ln
open Go.Sx Go
theorem Qq(z:Op)(H:T ah):cn (aY 9998) (eO z) H=(eO z,H):=du (cG.Fl _)
theorem GI(z:Op):List.take 10 (eO z)=eO z:=rfl
theorem O0(z:Op):(eO z).length=10:=rfl
variable{C:dm}{X:Kn}(S:Std C X)
include S
def BgI(os:List Op)(ord:List Int)(c0 c1:AV)(h:T ah)(nx:Key)(j:Nat)(hj:j<ord.length)(m:Nat)(an:T AV)(h':T ah)(nx':Key):Prop:=∃ k:Nat,m=j-k∧k≤j∧aa (K 0) an=some c0∧aa (K 1) an=some c1∧aa (K 5) an=some (I j)∧aa (K 6) an=some (I k)∧Ord c1 ord ord.length h' nx'∧Ext h nx h' nx'∧∀ q (hq:q<ord.length),q<k→ord[q]≠ord[j]∧before (at_ os ord[j]) (at_ os ord[q])=false
theorem aC3{os:List Op}{ord:List Int}(ho:os.length≤16)(hlen:ord.length≤1000){c0 c1:AV}(kV:iD 10 eO c0 os){Q:cX}{tm:T AV}{h h1:T ah}{nx bM:Key}{j:Nat}(hj:j<ord.length)(Fe:∀ x∈ord.take (j+1),0≤x∧x<os.length){m:Nat}(A:BgI os ord c0 c1 h nx j hj m tm h1 bM)
  (gH:∀ an h' nx',aa (K 4) an=some (.bool false)→dW os ord=false→Ext h nx h' nx'→Q .ret an h' nx')
  (cH:∀ an h' nx',BgI os ord c0 c1 h nx j hj 0 an h' nx'→Q .norm an h' nx') :
  W C (.loop mL) (ak 2 Q) tm h1 bM:=by
 have rb:C.raw cZ=false:=S.nr (by decide)
 refine W.di (BgI os ord c0 c1 h nx j hj) A ?_
 rintro m cu h2 aI ⟨k,rfl,hk,g0,g1,g5,g6,o1,e2,hq⟩
 refine W.of ?_
 simp[mL]
 by_cases hkj:k<j
 ·have aHq:(k:Int)<j:=by omega
  have Ut:k<ord.length:=by omega
  have mj:ord[j]∈ord.take (j+1):=by rw[zqu hj];exact List.mem_append_right _ (by simp)
  have mk:ord[k]∈ord.take (j+1):=by
   have:k<(ord.take (j+1)).length:=by simp;omega
   have e:=JW this
   simpa using e
  have rj:=Fe _ mj
  have rk:=Fe _ mk
  obtain⟨x,hx⟩:=Int.eq_ofNat_of_zero_le rj.1
  obtain⟨y,hy⟩:=Int.eq_ofNat_of_zero_le rk.1
  have AZ:x<os.length:=by omega
  have hyl:y<os.length:=by omega
  have ax:=H7 hx AZ
  have ay:=H7 hy hyl
  have ecx:=cG.at AZ
  have ecy:=cG.at hyl
  have hr:=cG.rows os
  have tx:10≤os.length*10-x*10:=by omega
  have ty:10≤os.length*10-y*10:=by omega
  have fi:c0=.sl (ai eO os) os.length 10 .any:=by
   rcases kV with⟨_,rfl⟩|e
   ·simp at AZ
   ·exact e
  have ij:=g0
  rw[fi] at ij
  have jo:1≤ord.length-j:=by omega
  have ko:1≤ord.length-k:=by omega
  have mq:(ai eI ord).length=ord.length:=bU _
  have P7:=jb hj
  have rdk:=jb Ut
  rw[hx] at P7
  rw[hy] at rdk
  simp[ua,g5,g6,aHq]
  have next:∀ (tm2:T AV) (h3:T ah) (bu:Key),aa (K 0) tm2=some c0→aa (K 1) tm2=some c1→aa (K 5) tm2=some (I j)→aa (K 6) tm2=some (I k)→Ext h2 aI h3 bu→x≠y→before os[x] os[y]=false→mF C (aq (fun tm h' nx'=>∃ m,m<j-k∧BgI os ord c0 c1 h nx j hj m tm h' nx') (ak 2 Q)) qP tm2 h3 bu:=by
   intro tm2 h3 bu q0 q1 q5 q6 e3 hxy hb
   simp[qP,q6]
   rw[au (by omega) (by omega)]
   refine⟨j-(k+1),by omega,k+1,rfl,by omega,by simp[q0],by simp[q1],by simp[q5],by simp,o1.ext e3,e2.trans e3,fun q hql hqk=>?_⟩
   by_cases hqe:q=k
   ·subst hqe;exact⟨by omega,by rw[ax,ay];exact hb⟩
   ·exact hq q hql (by omega)
  have bad:x=y∨before os[x] os[y]=true→dW os ord=false:=fun hb=>dV fun L=>by
   have:=List.pairwise_iff_getElem.1 L.pair k j Ut hj hkj
   rcases hb with hb|hb
   ·exact this.1 (by omega)
   ·rw[ax,ay,hb] at this;exact absurd this.2 (by simp)
  rcases o1.cases with⟨_,e⟩|⟨f,e⟩|⟨b,kd,e,hb,C3⟩
  ·rw[e] at Ut;simp at Ut
  ·have jy:=g1
   rw[e] at jy
   simp[ub,ij,jy,g5,g6,hj,Ut,mq,jo,ko,P7,rdk,AZ,hyl,hr,tx,ty,ecx,ecy,rb,Qq,GI,O0]
   refine(oy S os[x] os[y] _ _).mono ?_
   rintro o h3 bu ⟨rfl,e3⟩
   simp
   by_cases hxy:x=y
   ·have hl:=bad (.inl hxy)
    subst hxy
    simp[fq,jy,g5,g6,hj,Ut,mq,jo,ko,P7,rdk]
    simp[jM]
    refine gH _ _ _ ?_ hl (e2.trans e3)
    simp
   ·have asl:((x:Int)==y)=false:=bq (by omega)
    cases og:before os[x] os[y] with
    |true=>
     simp[fq,jy,g5,g6,hj,Ut,mq,jo,ko,P7,rdk,asl,hxy]
     simp[jM]
     refine gH _ _ _ ?_ (bad (.inr og)) (e2.trans e3)
     simp
    |false=>
     simp[fq,jy,g5,g6,hj,Ut,mq,jo,ko,P7,rdk,asl,hxy]
     refine next _ _ _ ?_ ?_ ?_ ?_ e3 hxy og<;>simp[g0,g1,g5,g6,e,fi]
  ·have jy:=g1
   rw[e] at jy
   simp[ub,ij,jy,g5,g6,hj,Ut,mq,hb,hx,hy,AZ,hyl,hr,tx,ty,ecx,ecy,rb,Qq,GI,O0]
   refine(oy S os[x] os[y] _ _).mono ?_
   rintro o h3 bu ⟨rfl,e3⟩
   have Rx:aa b h3=some (.cells (ai eI ord) kd):=by rw[e3.g b C3];exact hb
   simp
   by_cases hxy:x=y
   ·have hl:=bad (.inl hxy)
    subst hxy
    simp[fq,jy,g5,g6,hj,Ut,mq,Rx,hx,hy]
    simp[jM]
    refine gH _ _ _ ?_ hl (e2.trans e3)
    simp
   ·have asl:((x:Int)==y)=false:=bq (by omega)
    cases og:before os[x] os[y] with
    |true=>
     simp[fq,jy,g5,g6,hj,Ut,mq,Rx,hx,hy,asl,hxy]
     simp[jM]
     refine gH _ _ _ ?_ (bad (.inr og)) (e2.trans e3)
     simp
    |false=>
     simp[fq,jy,g5,g6,hj,Ut,mq,Rx,hx,hy,asl,hxy]
     refine next _ _ _ ?_ ?_ ?_ ?_ e3 hxy og<;>simp[g0,g1,g5,g6,e,fi]
 ·have hke:k=j:=by omega
  subst hke
  simp[ua,g5,g6]
  exact cH _ _ _ ⟨k,by omega,by omega,by simp[g0],by simp[g1],by simp[g5],by simp[g6],o1,e2,hq⟩
end Ln
/-
 LN: orders that real time allows: the reference, the calls that ended. No condition.
-/
namespace Ln
open Go.Sx Go
variable{C:dm}{X:Kn}(S:Std C X)
include S
def EeI(os:List Op)(ord:List Int)(c0 c1:AV)(h:T ah)(nx:Key)(i m:Nat)(an:T AV)(h':T ah)(nx':Key):Prop:=∃ k:Nat,m=os.length-k∧k≤os.length∧aa (K 0) an=some c0∧aa (K 1) an=some c1∧aa (K 8) an=some (I i)∧aa (K 9) an=some (I k)∧Ord c1 ord ord.length h' nx'∧Ext h nx h' nx'
theorem aEJ{os:List Op}{ord:List Int}(ho:os.length≤16)(hlen:ord.length≤1000){c0 c1:AV}(kV:iD 10 eO c0 os)(Oy:∀ (i:Nat) (o:Op),os[i]?=some o→o.e≠-1→(i:Int)∈ord)(Fe:∀ x∈ord,0≤x∧x<os.length){Q:cX}{tm:T AV}{h h1:T ah}{nx bM:Key}{i:Nat}(hi:i<ord.length){m:Nat}(A:EeI os ord c0 c1 h nx i m tm h1 bM)
  (cH:∀ an h' nx',EeI os ord c0 c1 h nx i 0 an h' nx'→Q .norm an h' nx') :
  W C (.loop nq) (ak 6 Q) tm h1 bM:=by
 have rb:C.raw cZ=false:=S.nr (by decide)
 have rh:C.raw jF=true:=S.rw (by decide)
 refine W.di (EeI os ord c0 c1 h nx i) A ?_
 rintro m cu h2 aI ⟨k,rfl,hk,g0,g1,g8,g9,o1,e2⟩
 refine W.of ?_
 simp[nq]
 have rj:=Fe _ (JW hi)
 obtain⟨x,hx⟩:=Int.eq_ofNat_of_zero_le rj.1
 have AZ:x<os.length:=by omega
 have fi:c0=.sl (ai eO os) os.length 10 .any:=by
  rcases kV with⟨_,rfl⟩|e
  ·simp at AZ
  ·exact e
 have ij:=g0
 rw[fi] at ij
 by_cases OA:k<os.length
 ·have aKE:(k:Int)<os.length:=by omega
  have ecx:=cG.at AZ
  have ecy:=cG.at OA
  have hr:=cG.rows os
  have tx:10≤os.length*10-x*10:=by omega
  have ty:10≤os.length*10-k*10:=by omega
  have jo:1≤ord.length-i:=by omega
  have mq:(ai eI ord).length=ord.length:=bU _
  have P7:=jb hi
  rw[hx] at P7
  simp[rJ,ij,g9,aKE]
  have next:∀ (tm2:T AV) (h3:T ah) (bu:Key),aa (K 0) tm2=some c0→aa (K 1) tm2=some c1→aa (K 8) tm2=some (I i)→aa (K 9) tm2=some (I k)→Ext h2 aI h3 bu→mF C (aq (fun tm h' nx'=>∃ m,m<os.length-k∧EeI os ord c0 c1 h nx i m tm h' nx') (ak 6 Q)) rK tm2 h3 bu:=by
   intro tm2 h3 bu q0 q1 q8 q9 e3
   simp[rK,q9]
   rw[au (by omega) (by omega)]
   exact⟨os.length-(k+1),by omega,k+1,rfl,by omega,by simp[q0],by simp[q1],by simp[q8],by simp,o1.ext e3,e2.trans e3⟩
  have hke:os[k].e≠-1→(k:Int)∈ord:=fun q=>Oy k _ (Fo OA) q
  rcases o1.cases with⟨_,e⟩|⟨f,e⟩|⟨b,kd,e,hb,C3⟩
  ·rw[e] at hi;simp at hi
  ·have jy:=g1
   rw[e] at jy
   simp[rP,ij,jy,g8,g9,hi,mq,jo,P7,AZ,OA,hr,tx,ty,ecx,ecy,rb,Qq,GI,O0]
   refine(oy S os[k] os[x] _ _).mono ?_
   rintro o h3 bu ⟨rfl,e3⟩
   simp
   cases og:before os[k] os[x] with
   |false=>
    simp[df]
    refine next _ _ _ ?_ ?_ ?_ ?_ e3<;>simp[g0,g1,g8,g9,e,fi]
   |true=>
    by_cases IY:os[k].e=-1
    ·simp[df,ij,g9,OA,hr,ty,ecy,eO,IY]
     refine next _ _ _ ?_ ?_ ?_ ?_ e3<;>simp[g0,g1,g8,g9,e,fi]
    ·have sC:=hke IY
     by_cases hkx:k=x
     ·subst hkx
      simp[df,ij,jy,g8,g9,OA,hi,mq,jo,P7,hr,ty,ecy,eO,bq IY]
      refine next _ _ _ ?_ ?_ ?_ ?_ e3<;>simp[g0,g1,g8,g9,e,fi]
     ·have aA1:((k:Int)==x)=false:=bq (by omega)
      simp[df,ij,jy,g8,g9,OA,hi,mq,jo,P7,hr,ty,ecy,eO,bq IY,aA1,hkx,rh]
      have hh:=ajf S hlen (o1.ext e3) (k:Int)
      rw[e] at hh
      refine hh.mono ?_
      rintro o h4 mB ⟨rfl,rfl,rfl⟩
      simp[sC]
      refine next _ _ _ ?_ ?_ ?_ ?_ e3<;>simp[g0,g1,g8,g9,e,fi]
  ·have jy:=g1
   rw[e] at jy
   simp[rP,ij,jy,g8,g9,hi,mq,hb,hx,AZ,OA,hr,tx,ty,ecx,ecy,rb,Qq,GI,O0]
   refine(oy S os[k] os[x] _ _).mono ?_
   rintro o h3 bu ⟨rfl,e3⟩
   have Rx:aa b h3=some (.cells (ai eI ord) kd):=by rw[e3.g b C3];exact hb
   simp
   cases og:before os[k] os[x] with
   |false=>
    simp[df]
    refine next _ _ _ ?_ ?_ ?_ ?_ e3<;>simp[g0,g1,g8,g9,e,fi]
   |true=>
    by_cases IY:os[k].e=-1
    ·simp[df,ij,g9,OA,hr,ty,ecy,eO,IY]
     refine next _ _ _ ?_ ?_ ?_ ?_ e3<;>simp[g0,g1,g8,g9,e,fi]
    ·have sC:=hke IY
     by_cases hkx:k=x
     ·subst hkx
      simp[df,ij,jy,g8,g9,OA,hi,mq,Rx,hx,hr,ty,ecy,eO,bq IY]
      refine next _ _ _ ?_ ?_ ?_ ?_ e3<;>simp[g0,g1,g8,g9,e,fi]
     ·have aA1:((k:Int)==x)=false:=bq (by omega)
      simp[df,ij,jy,g8,g9,OA,hi,mq,Rx,hx,hr,ty,ecy,eO,bq IY,aA1,hkx,rh]
      have hh:=ajf S hlen (o1.ext e3) (k:Int)
      rw[e] at hh
      refine hh.mono ?_
      rintro o h4 mB ⟨rfl,rfl,rfl⟩
      simp[sC]
      refine next _ _ _ ?_ ?_ ?_ ?_ e3<;>simp[g0,g1,g8,g9,e,fi]
 ·have hke:k=os.length:=by omega
  subst hke
  simp[rJ,ij,g9]
  exact cH _ _ _ ⟨os.length,by omega,by omega,by simp[g0,fi],by simp[g1],by simp[g8],by simp[g9],o1,e2⟩
def EoI(os:List Op)(ord:List Int)(c0 c1:AV)(h:T ah)(nx:Key)(m:Nat)(an:T AV)(h':T ah)(nx':Key):Prop:=∃ k:Nat,m=ord.length-k∧k≤ord.length∧aa (K 0) an=some c0∧aa (K 1) an=some c1∧aa (K 8) an=some (I k)∧Ord c1 ord ord.length h' nx'∧Ext h nx h' nx'
theorem FH{ord:List Int}{c1:AV}{h:T ah}{nx:Key}(o1:Ord c1 ord ord.length h nx):(c1=.nils∧ord.length=0)∨(∃ l f,c1=.sl l ord.length 1 f)∨∃ b,c1=.slice b 0 ord.length 1:=by
 rcases o1.cases with⟨e,rfl⟩|⟨f,e⟩|⟨b,kd,e,_⟩
 ·exact .inl ⟨e,rfl⟩
 ·exact .inr (.inl ⟨_,f,e⟩)
 ·exact .inr (.inr ⟨b,e⟩)
theorem aC4{os:List Op}{ord:List Int}(ho:os.length≤16)(hlen:ord.length≤1000){c0 c1:AV}(kV:iD 10 eO c0 os)(Oy:∀ (i:Nat) (o:Op),os[i]?=some o→o.e≠-1→(i:Int)∈ord)(Fe:∀ x∈ord,0≤x∧x<os.length){Q:cX}{tm:T AV}{h h1:T ah}{nx bM:Key}{m:Nat}(A:EoI os ord c0 c1 h nx m tm h1 bM)
  (cH:∀ an h' nx',EoI os ord c0 c1 h nx 0 an h' nx'→Q .norm an h' nx') :
  W C (.loop uG) (ak 4 Q) tm h1 bM:=by
 refine W.di (EoI os ord c0 c1 h nx) A ?_
 rintro m cu h2 aI ⟨i,rfl,hi,g0,g1,g8,o1,e2⟩
 refine W.of ?_
 simp[uG]
 by_cases J3:i<ord.length
 ·have aEM:(i:Int)<ord.length:=by omega
  have body:∀ tm2:T AV,aa (K 0) tm2=some c0→aa (K 1) tm2=some c1→aa (K 8) tm2=some (I i)→aa (K 9) tm2=some (I 0)→W C (.loop nq) (ak 6 (ak 5 (aq (dz C (.ops rQ) (aq (fun tm h' nx'=>∃ m,m<ord.length-i∧EoI os ord c0 c1 h nx m tm h' nx') (ak 4 Q))) (aq (fun tm h' nx'=>∃ m,m<ord.length-i∧EoI os ord c0 c1 h nx m tm h' nx') (ak 4 Q))))) tm2 h2 aI:=by
   intro tm2 q0 q1 q8 q9
   refine aEJ S ho hlen kV Oy Fe (h:=h2) (nx:=aI) J3 (c1:=c1) (m:=os.length) ⟨0,by simp,by omega,q0,q1,q8,by simpa using q9,o1,Ext.refl _ _⟩ ?_
   rintro Fc h3 bu ⟨k,_,_,a0,a1,a8,a9,o3,e3⟩
   simp
   simp[rQ,a8]
   rw[au (by omega) (by omega)]
   exact⟨ord.length-(i+1),by omega,i+1,rfl,by omega,by simp[a0],by simp[a1],by simp,o3,e2.trans e3⟩
  rcases FH S o1 with⟨_,e⟩|⟨l,f,e⟩|⟨b,e⟩
  ·omega
  ·have jy:=g1
   rw[e] at jy
   simp[fL,jy,g8,aEM]
   simp[rU]
   refine body _ ?_ ?_ ?_ ?_<;>simp[g0,g1,g8,e]
  ·have jy:=g1
   rw[e] at jy
   simp[fL,jy,g8,aEM]
   simp[rU]
   refine body _ ?_ ?_ ?_ ?_<;>simp[g0,g1,g8,e]
 ·have EE:i=ord.length:=by omega
  subst EE
  rcases FH S o1 with⟨e,e'⟩|⟨l,f,e⟩|⟨b,e⟩
  all_goals
   have jy:=g1
   rw[e] at jy
  ·have:(ord.length:Int)=0:=by omega
   simp[fL,jy,g8,this]
   refine cH _ _ _ ⟨ord.length,by omega,by omega,?_,?_,?_,o1,e2⟩<;>simp[g0,g1,g8,e,this]
  ·simp[fL,jy,g8]
   refine cH _ _ _ ⟨ord.length,by omega,by omega,?_,?_,?_,o1,e2⟩<;>simp[g0,g1,g8,e]
  ·simp[fL,jy,g8]
   refine cH _ _ _ ⟨ord.length,by omega,by omega,?_,?_,?_,o1,e2⟩<;>simp[g0,g1,g8,e]
end Ln
/-
 LN: orders that real time allows: the reference, all of it. No condition.
-/
namespace Ln
open Go.Sx Go
variable{C:dm}{X:Kn}(S:Std C X)
include S
def apr(os:List Op)(ord:List Int)(h:T ah)(nx:Key)(o:Out)(h':T ah)(nx':Key):Prop:=o=.ret (.bool (dW os ord))∧Ext h nx h' nx'
def BoI(os:List Op)(ord:List Int)(c0 c1:AV)(h:T ah)(nx:Key)(m:Nat)(an:T AV)(h':T ah)(nx':Key):Prop:=∃ j:Nat,m=ord.length-j∧j≤ord.length∧aa (K 0) an=some c0∧aa (K 1) an=some c1∧aa (K 5) an=some (I j)∧Ord c1 ord ord.length h' nx'∧Ext h nx h' nx'∧(∀ x∈ord.take j,0≤x∧x<os.length)∧(ord.take j).Pairwise fun x y=>x≠y∧before (at_ os y) (at_ os x)=false
theorem ay3{os:List Op}{ord:List Int}(ho:os.length≤16)(hlen:ord.length≤1000){c0 c1:AV}(kV:iD 10 eO c0 os){Q:cX}{tm:T AV}{h h1:T ah}{nx bM:Key}{m:Nat}(A:BoI os ord c0 c1 h nx m tm h1 bM)
  (gH:∀ an h' nx',aa (K 4) an=some (.bool false)→dW os ord=false→Ext h nx h' nx'→Q .ret an h' nx')
  (cH:∀ an h' nx',BoI os ord c0 c1 h nx 0 an h' nx'→Q .norm an h' nx') :
  W C (.loop tQ) (ak 0 Q) tm h1 bM:=by
 refine W.di (BoI os ord c0 c1 h nx) A ?_
 rintro m cu h2 aI ⟨j,rfl,hj,g0,g1,g5,o1,e2,FG,hp⟩
 refine W.of ?_
 simp[tQ]
 by_cases aR:j<ord.length
 ·have sB:(j:Int)<ord.length:=by omega
  have mem:ord[j]∈ord:=JW aR
  have CU:=zqu aR
  have jo:1≤ord.length-j:=by omega
  have mq:(ai eI ord).length=ord.length:=bU _
  have P7:=jb aR
  have body:∀ tm2:T AV,aa (K 0) tm2=some c0→aa (K 1) tm2=some c1→aa (K 5) tm2=some (I j)→aa (K 6) tm2=some (I 0)→(0≤ord[j]∧ord[j]<os.length)→W C (.loop mL) (ak 2 (ak 1 (aq (dz C (.ops qI) (aq (fun tm h' nx'=>∃ m,m<ord.length-j∧BoI os ord c0 c1 h nx m tm h' nx') (ak 0 Q))) (aq (fun tm h' nx'=>∃ m,m<ord.length-j∧BoI os ord c0 c1 h nx m tm h' nx') (ak 0 Q))))) tm2 h2 aI:=by
   intro tm2 q0 q1 q5 q6 hr
   have aC2:∀ x∈ord.take (j+1),0≤x∧x<os.length:=by
    intro x hx
    rw[CU,List.mem_append,List.mem_singleton] at hx
    rcases hx with hx|rfl
    ·exact FG x hx
    ·exact hr
   refine aC3 S ho hlen kV (h:=h2) (nx:=aI) aR (c1:=c1) (m:=j) aC2 ⟨0,by simp,by omega,q0,q1,q5,by simpa using q6,o1,Ext.refl _ _,fun q _ hq=>absurd hq (by omega)⟩ ?_ ?_
   ·intro an h' nx' q4 hl e'
    simp
    exact gH _ _ _ q4 hl (e2.trans e')
   ·rintro Fc h3 bu ⟨k,hk0,hk,a0,a1,a5,a6,o3,e3,hq⟩
    simp
    simp[qI,a5]
    rw[au (by omega) (by omega)]
    refine⟨ord.length-(j+1),by omega,j+1,rfl,by omega,by simp[a0],by simp[a1],by simp,o3,e2.trans e3,aC2,?_⟩
    rw[CU,List.pairwise_append]
    refine⟨hp,by simp,?_⟩
    intro a ha b hb
    simp at hb
    subst hb
    obtain⟨q,hq1,rfl⟩:=List.getElem_of_mem ha
    simp at hq1
    simp
    exact hq q (by omega) (by omega)
  have fail:¬ (0≤ord[j]∧ord[j]<os.length)→dW os ord=false:=fun hn=>dV fun L=>hn (L.Fe _ mem)
  rcases o1.cases with⟨e,e'⟩|⟨f,e⟩|⟨b,kd,e,hb,C3⟩
  ·rw[e'] at aR;simp at aR
  ·have jy:=g1
   rw[e] at jy
   simp[gO,jy,g5,sB]
   by_cases h0:ord[j]<0
   ·simp[dD,jy,g5,aR,mq,jo,P7,h0]
    simp[fh]
    refine gH _ _ _ ?_ (fail (by omega)) e2
    simp
   ·by_cases pT:ord[j]<os.length
    ·have fi:c0=.sl (ai eO os) os.length 10 .any:=by
      rcases kV with⟨_,rfl⟩|e
      ·simp at pT;omega
      ·exact e
     have ij:=g0
     rw[fi] at ij
     simp[dD,ij,jy,g5,aR,mq,jo,P7,h0,pT]
     simp[tR]
     refine body _ ?_ ?_ ?_ ?_ (by omega)<;>simp[g0,g1,g5,e,fi]
    ·rcases id kV with⟨e0,rfl⟩|e0
     ·have ij:=g0
      rw[e0] at ij
      simp[dD,ij,jy,g5,aR,mq,jo,P7,h0]
      simp[fh]
      refine gH _ _ _ ?_ (fail (by omega)) e2
      simp
     ·have ij:=g0
      rw[e0] at ij
      simp[dD,ij,jy,g5,aR,mq,jo,P7,h0,pT]
      simp[fh]
      refine gH _ _ _ ?_ (fail (by omega)) e2
      simp
  ·have jy:=g1
   rw[e] at jy
   simp[gO,jy,g5,sB]
   by_cases h0:ord[j]<0
   ·simp[dD,jy,g5,aR,mq,hb,h0]
    simp[fh]
    refine gH _ _ _ ?_ (fail (by omega)) e2
    simp
   ·by_cases pT:ord[j]<os.length
    ·have fi:c0=.sl (ai eO os) os.length 10 .any:=by
      rcases kV with⟨_,rfl⟩|e
      ·simp at pT;omega
      ·exact e
     have ij:=g0
     rw[fi] at ij
     simp[dD,ij,jy,g5,aR,mq,hb,h0,pT]
     simp[tR]
     refine body _ ?_ ?_ ?_ ?_ (by omega)<;>simp[g0,g1,g5,e,fi]
    ·rcases id kV with⟨e0,rfl⟩|e0
     ·have ij:=g0
      rw[e0] at ij
      simp[dD,ij,jy,g5,aR,mq,hb,h0]
      simp[fh]
      refine gH _ _ _ ?_ (fail (by omega)) e2
      simp
     ·have ij:=g0
      rw[e0] at ij
      simp[dD,ij,jy,g5,aR,mq,hb,h0,pT]
      simp[fh]
      refine gH _ _ _ ?_ (fail (by omega)) e2
      simp
 ·have EE:j=ord.length:=by omega
  subst EE
  rcases FH S o1 with⟨e,e'⟩|⟨l,f,e⟩|⟨b,e⟩
  all_goals
   have jy:=g1
   rw[e] at jy
  ·have:(ord.length:Int)=0:=by omega
   simp[gO,jy,g5,this]
   refine cH _ _ _ ⟨ord.length,by omega,by omega,?_,?_,?_,o1,e2,FG,hp⟩<;>simp[g0,g1,g5,e,this]
  ·simp[gO,jy,g5]
   refine cH _ _ _ ⟨ord.length,by omega,by omega,?_,?_,?_,o1,e2,FG,hp⟩<;>simp[g0,g1,g5,e]
  ·simp[gO,jy,g5]
   refine cH _ _ _ ⟨ord.length,by omega,by omega,?_,?_,?_,o1,e2,FG,hp⟩<;>simp[g0,g1,g5,e]
theorem arL{os:List Op}{ord:List Int}(ho:os.length≤16)(hlen:ord.length≤1000){c0 c1:AV}(kV:iD 10 eO c0 os)(Oy:∀ (i:Nat) (o:Op),os[i]?=some o→o.e≠-1→(i:Int)∈ord){h:T ah}{nx:Key}(o1:Ord c1 ord ord.length h nx) :
  aO C lf [c0,c1] h nx (apr os ord h nx):=by
 refine S.Dv.call ?_
 simp[Bw]
 simp[Bx]
 simp[By]
 refine ay3 S ho hlen kV (h:=h) (nx:=nx) (c1:=c1) (m:=ord.length) ⟨0,by simp,by omega,by simp,by simp,by simp,o1,Ext.refl _ _,by simp,by simp⟩ ?_ ?_
 ·intro an h' nx' q4 hl e'
  simp[q4]
  exact⟨by rw[hl],e'⟩
 ·rintro an h' nx' ⟨j,hj0,hj,g0,g1,g5,o2,e2,FG,hp⟩
  have nS:j=ord.length:=by omega
  subst nS
  rw[List.take_length] at FG hp
  simp
  simp[zu]
  refine aC4 S ho hlen kV Oy FG (h:=h') (nx:=nx') (c1:=c1) (m:=ord.length) ⟨0,by simp,by omega,by simp[g0],by simp[g1],by simp,o2,Ext.refl _ _⟩ ?_
  rintro Fc h3 bu ⟨k,_,_,_,_,_,_,e3⟩
  simp
  simp[zv]
  exact⟨by rw[IX ⟨FG,Oy,hp⟩],e2.trans e3⟩
def RlI(os:List Op)(ord:List Int)(c0 c1:AV)(h:T ah)(nx:Key)(m:Nat)(an:T AV)(h':T ah)(nx':Key):Prop:=∃ j:Nat,m=os.length-j∧j≤os.length∧aa (K 0) an=some c0∧aa (K 1) an=some c1∧aa (K 5) an=some (I j)∧h'=h∧nx'=nx∧∀ (i:Nat) (o:Op),i<j→os[i]?=some o→o.e≠-1→(i:Int)∈ord
theorem avf{os:List Op}{ord:List Int}(ho:os.length≤16)(hlen:ord.length≤1000){c0 c1:AV}(kV:iD 10 eO c0 os){h:T ah}{nx:Key}(o1:Ord c1 ord ord.length h nx) :
  aO C jE [c0,c1] h nx (apr os ord h nx):=by
 have rh:C.raw jF=true:=S.rw (by decide)
 have rb:C.raw lf=true:=S.rw (by decide)
 refine S.Bz.call ?_
 simp[yE]
 simp[zw]
 simp[zx]
 refine W.di (n:=os.length) (RlI os ord c0 c1 h nx) ⟨0,by simp,by omega,by simp,by simp,by simp,rfl,rfl,fun i o hi=>absurd hi (by omega)⟩ ?_
 rintro m cu h1 bM ⟨j,rfl,hj,g0,g1,g5,rfl,rfl,hen⟩
 refine W.of ?_
 simp[zy]
 by_cases aR:j<os.length
 ·have sB:(j:Int)<os.length:=by omega
  have fi:c0=.sl (ai eO os) os.length 10 .any:=by
   rcases kV with⟨_,rfl⟩|e
   ·simp at aR
   ·exact e
  have ij:=g0
  rw[fi] at ij
  have ec:=cG.at aR
  have hr:=cG.rows os
  have tx:10≤os.length*10-j*10:=by omega
  have next:∀ (tm2:T AV),aa (K 0) tm2=some c0→aa (K 1) tm2=some c1→aa (K 5) tm2=some (I j)→(os[j].e≠-1→(j:Int)∈ord)→mF C (aq (fun tm h' nx'=>∃ m,m<os.length-j∧RlI os ord c0 c1 h1 bM m tm h' nx') (ak 0 (aq (dz C (.seq (.ops lG) .ret) (bb [.tmp (K 4)] (apr os ord h1 bM))) (bb [.tmp (K 4)] (apr os ord h1 bM))))) qJ tm2 h1 bM:=by
   intro tm2 q0 q1 q5 mM
   simp[qJ,q5]
   rw[au (by omega) (by omega)]
   refine⟨os.length-(j+1),by omega,j+1,rfl,by omega,by simp[q0],by simp[q1],by simp,rfl,rfl,?_⟩
   intro i o hi hio IY
   by_cases hij:i=j
   ·subst hij
    rw[Fo aR] at hio
    cases hio
    exact mM IY
   ·exact hen i o (by omega) hio IY
  simp[lH,ij,g5,sB]
  by_cases IY:os[j].e=-1
  ·simp[qK,ij,g5,aR,hr,tx,ec,eO,IY]
   rw[IY] at next
   refine next _ ?_ ?_ ?_ (fun q=>absurd rfl q)<;>simp[g0,g1,g5,fi]
  ·simp[qK,ij,g1,g5,aR,hr,tx,ec,eO,bq IY,rh]
   refine(ajf S hlen o1 (j:Int)).mono ?_
   rintro o h4 mB ⟨rfl,rfl,rfl⟩
   by_cases sC:(j:Int)∈ord
   ·simp[sC]
    refine next _ ?_ ?_ ?_ (fun _=>sC)<;>simp[g0,g1,g5,fi]
   ·simp[sC]
    simp[zz]
    exact⟨by rw[dV (fun L=>sC (L.ended j _ (Fo aR) IY))],Ext.refl _ _⟩
 ·have nS:j=os.length:=by omega
  subst nS
  have fin:∀ tm2:T AV,aa (K 0) tm2=some c0→aa (K 1) tm2=some c1→mF C (aq (dz C .ret (bb [.tmp (K 4)] (apr os ord h1 bM))) (bb [.tmp (K 4)] (apr os ord h1 bM))) lG tm2 h1 bM:=by
   intro tm2 q0 q1
   simp[lG,q0,q1,rb]
   refine(arL S ho hlen kV (fun i o hio=>hen i o (List.getElem?_eq_some_iff.1 hio).1 hio) o1).mono ?_
   rintro o h4 mB ⟨rfl,e4⟩
   simp
   exact⟨rfl,e4⟩
  rcases id kV with⟨e0,e1⟩|e0
  ·have ij:=g0
   rw[e0] at ij
   have:(os.length:Int)=0:=by rw[e1];rfl
   simp[lH,ij,g5,this]
   refine fin _ ?_ ?_<;>simp[g0,g1,e0]
  ·have ij:=g0
   rw[e0] at ij
   simp[lH,ij,g5]
   refine fin _ ?_ ?_<;>simp[g0,g1,e0]
end Ln
/-
 LN: the commands of a model. No condition.
-/
namespace Ln
open Go.Sx Go
def z3(i:Nat)(name:Nat×Nat):Int:=match (aw i).findIdx? fun c=>c.name==name with
 |some t=>t
 |none=>-1
theorem QD(i:Nat):(aw i).length≤3:=by unfold aw;split<;>simp
theorem am3{i:Nat}{name:Nat×Nat}(h:∀ (t:Nat) (ht:t<(aw i).length),(aw i)[t].name≠name):z3 i name=-1∧m7 i name=none:=by
 have h1:(aw i).findIdx? (fun c=>c.name==name)=none:=by
  rw[List.findIdx?_eq_none_iff]
  intro c hc
  obtain⟨t,ht,rfl⟩:=List.getElem_of_mem hc
  simpa using h t ht
 have h2:(aw i).find? (fun c=>c.name==name)=none:=by
  rw[List.find?_eq_none]
  intro c hc
  obtain⟨t,ht,rfl⟩:=List.getElem_of_mem hc
  simpa using h t ht
 exact⟨by unfold z3;rw[h1],h2⟩
theorem am2{i t:Nat}{name:Nat×Nat}(ht:t<(aw i).length)(h:∀ (s:Nat) (hs:s<(aw i).length),s<t→(aw i)[s].name≠name)(he:(aw i)[t].name=name):z3 i name=t∧m7 i name=some (aw i)[t]:=by
 have h1:(aw i).findIdx? (fun c=>c.name==name)=some t:=by
  rw[List.findIdx?_eq_some_iff_getElem]
  exact⟨ht,by simpa using he,fun s hs=>by simpa using h s (by omega) hs⟩
 have h2:(aw i).find? (fun c=>c.name==name)=some (aw i)[t]:=by
  rw[List.find?_eq_some_iff_getElem]
  refine⟨by simpa using he,t,ht,rfl,fun s hs=>?_⟩
  simpa using h s (by omega) hs
 exact⟨by unfold z3;rw[h1],h2⟩
def lg(i:Nat):List Op→Int
 | []=>0
 |o ::l=>match m7 i o.name with
  |none=>6
  |some c=>if o.args.length=c.ar then lg i l else 1
theorem ao3{i:Nat}:∀ {l:List Op},lg i l=0→∀ o∈l,∃ c,m7 i o.name=some c∧o.args.length=c.ar
 | [],_,o,ho=>by simp at ho
 |x ::l,h,o,ho=>by
  unfold lg at h
  cases hc:m7 i x.name with
  |none=>rw[hc] at h;simp at h
  |some c=>
   rw[hc] at h
   simp only at h
   by_cases ha:x.args.length=c.ar
   ·rw[if_pos ha] at h
    rcases JY.1 ho with rfl|ho
    ·exact⟨c,hc,ha⟩
    ·exact ao3 h o ho
   ·rw[if_neg ha] at h;simp at h
variable{C:dm}{X:Kn}(S:Std C X)
include S
theorem Lj{i t:Nat}(ht:t<(aw i).length):List.take 23 (List.drop (t*23) (ai (X.cmd i) (List.range (aw i).length)))=X.cmd i t:=by
 have:=(S.ok.Pf i).at (l:=List.range (aw i).length) (i:=t) (by simpa using ht)
 simpa using this
theorem Lk{i:Nat}:(ai (X.cmd i) (List.range (aw i).length)).length=(aw i).length*23:=by
 have:=(S.ok.Pf i).rows (List.range (aw i).length)
 simpa using this
theorem aEt{i t:Nat}(hi:i<3)(ht:t<(aw i).length)(o:Op){h:T ah}{nx b:Key}{k:CK}(hb:aa b h=some (.cells (eO o) k))(C3:b.toNat<nx.toNat):aO C dI [.agg (X.cmd i t),.ptr b 0] h nx (fun out h' nx'=>out=.ret (.bool (decide ((aw i)[t].name=o.name)))∧Ext h nx h' nx'):=by
 have s1:=kTSu nx
 have h0:=S.ok.aD0 i hi t _ (Fo ht)
 have hl:=(S.ok.Pf i).len t
 have hc:(X.cmd i t).all AV.aK=true:=zr.2 ((S.ok.Pf i).cell t)
 have A8:aa b (av nx (some (.cells (X.cmd i t) .fix)) h)=some (.cells (eO o) k):=by rw[az C3];exact hb
 refine S.vR.call ?_
 simp[rq]
 simp[uH,hc]
 generalize (aw i)[t]=c at *
 rcases hn:c.name with⟨n1,n2⟩
 rcases hm:o.name with⟨m1,m2⟩
 rw[hn] at h0
 have h0':∀ hh,(X.cmd i t)[0]'hh=.str n1 n2:=fun hh=>by
  have q:=Fo hh
  rw[h0] at q;exact(Option.some.inj q).symm
 simp[uI,h0',hl,A8,eO,hm]
 exact E0 h nx _
end Ln
/-
 LN: where a command stands. No condition.
-/
namespace Ln
open Go.Sx Go
variable{C:dm}{X:Kn}(S:Std C X)
include S
abbrev as6(X:Kn)(i:Nat):AV:=.sl (ai (X.cmd i) (List.range (aw i).length)) (aw i).length 23 .any
theorem aAO(i t:Nat)(H:T ah):cn (aY 9998) (X.cmd i t) H=(X.cmd i t,H):=du ((S.ok.Pf i).Fl t)
omit S in
theorem am0{i j:Nat}{name:Nat×Nat}(hj:j<(aw i).length)(h:∀ (s:Nat) (hs:s<(aw i).length),s<j→(aw i)[s].name≠name)(hn:(aw i)[j].name≠name):∀ (s:Nat) (hs:s<(aw i).length),s<j+1→(aw i)[s].name≠name:=by
 intro s hs TB
 by_cases e:s=j
 ·subst e;exact hn
 ·exact h s hs (by omega)
def IxI(i:Nat)(o:Op)(b:Key)(X:Kn)(h:T ah)(nx:Key)(m:Nat)(an:T AV)(h':T ah)(nx':Key):Prop:=∃ j:Nat,m=(aw i).length-j∧j≤(aw i).length∧aa (K 0) an=some (as6 X i)∧aa (K 1) an=some (.fn dI [] [.ptr b 0])∧aa (K 7) an=some (I (aw i).length)∧aa (K 8) an=some (I j)∧Ext h nx h' nx'∧∀ (s:Nat) (hs:s<(aw i).length),s<j→(aw i)[s].name≠o.name
theorem as7{i:Nat}(hi:i<3)(o:Op){h:T ah}{nx b:Key}{k:CK}(hb:aa b h=some (.cells (eO o) k))(C3:b.toNat<nx.toNat):aO C bz [as6 X i,.fn dI [] [.ptr b 0]] h nx (fun out h' nx'=>out=.ret (I (z3 i o.name))∧Ext h nx h' nx'):=by
 have hn3:=QD i
 have rc:C.raw dI=false:=S.nr (by decide)
 refine S.fu.call ?_
 simp[dJ]
 simp[eJ]
 simp[eK]
 refine W.di (n:=(aw i).length) (IxI i o b X h nx) ⟨0,by simp,by omega,by simp,by simp,by simp,by simp,Ext.refl _ _,fun s _ hs=>absurd hs (by omega)⟩ ?_
 rintro m cu h1 bM ⟨j,rfl,hj,g0,g1,g7,g8,e1,sE⟩
 refine W.of ?_
 simp[eL]
 by_cases aR:j<(aw i).length
 ·have sB:(j:Int)<(aw i).length:=by omega
  have ec:=Lj S aR
  have hr:=Lk S (i:=i)
  have hl:=(S.ok.Pf i).len j
  have t23:23≤(aw i).length*23-j*23:=by omega
  have ht:List.take 23 (X.cmd i j)=X.cmd i j:=P8 (by omega)
  simp[c9,g7,g8,sB]
  simp[eM,g8]
  simp[eN,g0,g1,aR,hr,t23,ec,hl,ht,rc,aAO S]
  refine(aEt S hi aR o (by rw[e1.g b C3];exact hb) (by have:=e1.n;omega)).mono ?_
  rintro out h2 aI ⟨rfl,e2⟩
  by_cases hn:(aw i)[j].name=o.name
  ·simp[hn]
   simp[eP]
   exact⟨(am2 aR sE hn).1.symm,e1.trans e2⟩
  ·simp[hn]
   simp[eQ,g8]
   rw[au (by omega) (by omega)]
   exact⟨(aw i).length-(j+1),by omega,j+1,rfl,by omega,by simp[g0],by simp[g1],by simp[g7],by simp,e1.trans e2,am0 aR sE hn⟩
 ·have nS:j=(aw i).length:=by omega
  subst nS
  simp[c9,g7,g8]
  simp[eR]
  exact⟨(am3 (fun s hs=>sE s hs hs)).1.symm,e1⟩
def CmI(i:Nat)(name:Nat×Nat)(X:Kn)(b:Key)(h:T ah)(nx:Key)(m:Nat)(an:T AV)(h':T ah)(nx':Key):Prop:=∃ j:Nat,m=(aw i).length-j∧j≤(aw i).length∧aa (K 1) an=some (.str name.1 name.2)∧aa (K 2) an=some (.ptr b 0)∧aa (K 5) an=some (I j)∧h'=h∧nx'=nx∧∀ (s:Nat) (hs:s<(aw i).length),s<j→(aw i)[s].name≠name
theorem aj3{i:Nat}(hi:i<3)(name:Nat×Nat):Tv C iQ [.agg (X.dec i),.str name.1 name.2] (·=.ret (I (z3 i name))):=by
 intro h nx
 have hn3:=QD i
 have d45:=S.ok.UJ i hi
 have dC:(X.dec i).all AV.aK=true:=zr.2 (S.ok.awj i hi)
 have d36:=S.ok.asL i hi
 have xL:∀ hh,(X.dec i)[36]'hh=as6 X i:=fun hh=>by
  have q:=Fo hh
  rw[d36] at q;exact(Option.some.inj q).symm
 refine S.z4.call ?_
 simp[wE]
 simp[xM,dC]
 simp[xN]
 have hb:aa nx (av nx (some (.cells (X.dec i) .fix)) h)=some (.cells (X.dec i) .fix):=by simp
 have he:=E0 h nx (.cells (X.dec i) .fix)
 generalize av nx (some (.cells (X.dec i) .fix)) h=H at hb he ⊢
 refine W.di (n:=(aw i).length) (CmI i name X nx H nx.succ) ⟨0,by simp,by omega,by simp,by simp,by simp,rfl,rfl,fun s _ hs=>absurd hs (by omega)⟩ ?_
 rintro m cu h1 bM ⟨j,rfl,hj,g1,g2,g5,rfl,rfl,sE⟩
 refine W.of ?_
 simp[xO]
 by_cases aR:j<(aw i).length
 ·have sB:(j:Int)<(aw i).length:=by omega
  have ec:=Lj S aR
  have hr:=Lk S (i:=i)
  have hl:=(S.ok.Pf i).len j
  have t23:23≤(aw i).length*23-j*23:=by omega
  have h0:=S.ok.aD0 i hi j _ (Fo aR)
  have hnm:=fun h=>am2 aR sE h
  have dQ:=fun h=>am0 aR sE h
  generalize (aw i)[j]=c at *
  obtain⟨m1,m2⟩:=name
  rcases hcn:c.name with⟨n1,n2⟩
  rw[hcn] at h0 hnm dQ
  have h0':∀ hh,(X.cmd i j)[0]'hh=.str n1 n2:=fun hh=>by
   have q:=Fo hh
   rw[h0] at q;exact(Option.some.inj q).symm
  simp[pq,g2,g5,hb,xL,d45,sB]
  by_cases hn:n1=m1∧n2=m2
  ·obtain⟨rfl,rfl⟩:=hn
   simp[pr,g1,g2,g5,hb,xL,d45,aR,hr,t23,ec,hl,h0']
   simp[xP,g5]
   exact⟨(hnm rfl).1.symm,he⟩
  ·simp[pr,g1,g2,g5,hb,xL,d45,aR,hr,t23,ec,hl,h0',hn]
   simp[xQ,g5]
   rw[au (by omega) (by omega)]
   exact⟨(aw i).length-(j+1),by omega,j+1,rfl,by omega,by simp[g1],by simp[g2],by simp,rfl,rfl,dQ (by simpa using hn)⟩
 ·have nS:j=(aw i).length:=by omega
  subst nS
  simp[pq,g2,g5,hb,xL,d45]
  simp[xR]
  exact⟨(am3 (fun s hs=>sE s hs hs)).1.symm,he⟩
end Ln
/-
 LN: a history that is judged: the program. No condition.
-/
namespace Ln
open Go.Sx Go
def mu(i:Nat)(l:List Ev):Int:=if bC [] l=0 then lg i (cv 0 l) else hZ (bC [] l)
def tw(os:List Op):Nat→Nat
 |0=>0
 |j+1=>if 0≤(os.getD j default).e then tw os j ||| 2^j else tw os j
theorem apf(os:List Op):∀ j,tw os j<2^j
 |0=>by simp[tw]
 |j+1=>by
  have h:=apf os j
  have h2:2^j<2^(j+1):=Nat.pow_lt_pow_right (by omega) (by omega)
  unfold tw
  split
  ·exact Nat.or_lt_two_pow (by omega) h2
  ·omega
theorem tS{j:Nat}(h:j≤16):2^j≤65536:=Nat.pow_le_pow_right (n:=2) (by omega) h
theorem Q9{n:Nat}(h:n≤65536):loB .i64 (n:Int)=n:=by
 unfold loB full
 show Int.toNat (Int.emod (n:Int) 18446744073709551616)=n
 have:Int.emod (n:Int) 18446744073709551616=(n:Int):=Int.emod_eq_of_lt (by omega) (by omega)
 rw[this];rfl
def jB(X:Kn)(i:Nat)(cO:AV)(s:St)(e:Nat):List AV:=[.sl X.rows 7 45 .any,dE i,cO,I 200,I 50,I 0,I s.k,I s.n,.str 0 0,aB s.kids,I e]
variable{C:dm}{X:Kn}(S:Std C X)
include S
structure BgA(X:Kn)(i:Nat)(os:List Op)(cO:AV)(bm bl bd bj n0:Key)(e:Nat)(tm:T AV)(h:T ah)(nx:Key):Prop where
 g1:aa (K 1) tm=some (dE i)
 g4:aa (K 4) tm=some (.ptr bm 0)
 g7:aa (K 7) tm=some (.ptr bl 0)
 yW:aa (K 10) tm=some cO
 Jx:aa (K 12) tm=some (.ptr bd 0)
 Fb:aa (K 14) tm=some (.ptr bj 0)
 m:aa bm h=some (.cells [.sl X.rows 7 45 .any] .fix)
 l:aa bl h=some (.cells [I 200,I 50] .fix)
 d:aa bd h=some (.cells (X.dec i) .fix)
 j:aa bj h=some (.cells (jB X i cO ⟨0,0,[]⟩ e) .fix)
 lt:bm.toNat<nx.toNat∧bl.toNat<nx.toNat∧bd.toNat<nx.toNat∧bj.toNat<nx.toNat
 ge:n0.toNat≤bj.toNat
 ne:bm≠bj∧bl≠bj∧bd≠bj
def BgL(X:Kn)(i:Nat)(os:List Op)(cO:AV)(bm bl bd bj n0:Key)(h:T ah)(m:Nat)(an:T AV)(h':T ah)(nx':Key):Prop:=∃ j:Nat,m=os.length-j∧j≤os.length∧aa (K 41) an=some cO∧aa (K 42) an=some (I os.length)∧aa (K 43) an=some (I j)∧BgA X i os cO bm bl bd bj n0 (tw os j) an h' nx'∧Ext h n0 h' nx'∧lg i os=lg i (os.drop j)
theorem at9{i:Nat}(hi:i<3){os:List Op}(ho:os.length≤16){cO:AV}(hc:iD 10 eO cO os){bm bl bd bj n0:Key}{h:T ah}{Q:cX}{m:Nat}{tm:T AV}{h1:T ah}{bM:Key}(A:BgL X i os cO bm bl bd bj n0 h m tm h1 bM)
  (gH:∀ an h' nx',aa (K 8) an=some .nilp→aa (K 9) an=some (I (lg i os))→lg i os≠0→Ext h n0 h' nx'→Q .ret an h' nx')
  (cH:∀ an h' nx',BgA X i os cO bm bl bd bj n0 (tw os os.length) an h' nx'→Ext h n0 h' nx'→lg i os=0→Q .norm an h' nx') :
  W C (.loop lQ) (ak 0 Q) tm h1 bM:=by
 have ri:C.raw bz=false:=S.nr (by decide)
 have d45:=S.ok.UJ i hi
 have d36:=S.ok.asL i hi
 have xL:∀ hh,(X.dec i)[36]'hh=as6 X i:=fun hh=>by
  have q:=Fo hh
  rw[d36] at q;exact(Option.some.inj q).symm
 refine W.di (BgL X i os cO bm bl bd bj n0 h) A ?_
 rintro m cu h2 aI ⟨j,rfl,hj,g41,g42,g43,B,e2,pU⟩
 obtain⟨g1,g4,g7,yW,Jx,Fb,Qh,bl2,bd2,Lf,lt,ge,ne⟩:=B
 refine W.of ?_
 simp[lQ]
 by_cases aR:j<os.length
 ·have sB:(j:Int)<os.length:=by omega
  have fi:cO=.sl (ai eO os) os.length 10 .any:=by
   rcases hc with⟨_,rfl⟩|e
   ·simp at aR
   ·exact e
  have aiy:=g41
  rw[fi] at aiy
  have ec:=cG.at aR
  have hr:=cG.rows os
  have tx:10≤os.length*10-j*10:=by omega
  have s2:=kTSu aI
  have Qi:(eO os[j]).all AV.aK=true:=zr.2 (cG.cell _)
  rw[zqt aR] at pU
  have hbg:lg i (os[j] ::os.drop (j+1))=match m7 i os[j].name with|none=>6|some c=>if os[j].args.length=c.ar then lg i (os.drop (j+1)) else 1:=rfl
  rw[hbg] at pU
  have hgd:os.getD j default=os[j]:=by rw[List.getD_eq_getElem?_getD,Fo aR];rfl
  have heb:tw os (j+1)=if 0≤os[j].e then tw os j ||| 2^j else tw os j:=by rw[← hgd];rfl
  have elt:=apf os j
  have p16:=tS (j:=j) (by omega)
  generalize os[j]=o at *
  simp[sw,g42,g43,sB]
  simp[yq,aiy,g43,aR,hr,tx,ec,O0,GI,Qi]
  have e3:=E0 h2 aI (.cells (eO o) .fix)
  have gb3:aa aI (av aI (some (.cells (eO o) .fix)) h2)=some (.cells (eO o) .fix):=by simp
  have bd3:aa bd (av aI (some (.cells (eO o) .fix)) h2)=some (.cells (X.dec i) .fix):=by rw[e3.g bd lt.2.2.1];exact bd2
  generalize hH:av aI (some (.cells (eO o) .fix)) h2=h3 at *
  simp[yr,Jx,bd3,xL,d45,ri]
  refine(as7 S hi o gb3 (by omega)).mono ?_
  rintro out h4 mB ⟨rfl,e4⟩
  simp
  have gb4:aa aI h4=some (.cells (eO o) .fix):=by rw[e4.g aI (by omega)];exact gb3
  have Da:=e3.trans e4
  have bm4:aa bm h4=some (.cells [.sl X.rows 7 45 .any] .fix):=by rw[Da.g bm lt.1];exact Qh
  have bl4:aa bl h4=some (.cells [I 200,I 50] .fix):=by rw[Da.g bl lt.2.1];exact bl2
  have bd4:aa bd h4=some (.cells (X.dec i) .fix):=by rw[Da.g bd lt.2.2.1];exact bd2
  have TA:aa bj h4=some (.cells (jB X i cO ⟨0,0,[]⟩ (tw os j)) .fix):=by rw[Da.g bj lt.2.2.2];exact Lf
  have n24:=Da.n
  have hix:(∃ (t:Nat) (ht:t<(aw i).length),z3 i o.name=t∧m7 i o.name=some (aw i)[t])∨(z3 i o.name=-1∧m7 i o.name=none):=by
   unfold z3 m7
   cases hf:(aw i).findIdx? (fun c=>c.name==o.name) with
   |none=>
    rw[List.findIdx?_eq_none_iff] at hf
    exact .inr ⟨rfl,List.find?_eq_none.2 (fun c hc=>by simpa using hf c hc)⟩
   |some t=>
    rw[List.findIdx?_eq_some_iff_getElem] at hf
    obtain⟨ht,h1,h2⟩:=hf
    refine .inl ⟨t,ht,rfl,?_⟩
    rw[List.find?_eq_some_iff_getElem]
    exact⟨h1,t,ht,rfl,fun s hs=>by simpa using h2 s hs⟩
  have next:∀ (tm2:T AV) (h5:T ah),(∀ k:Key,k=K 1∨k=K 4∨k=K 7∨k=K 10∨k=K 12∨k=K 14∨k=K 41∨k=K 42∨k=K 43→aa k tm2=aa k cu)→aa bj h5=some (.cells (jB X i cO ⟨0,0,[]⟩ (tw os (j+1))) .fix)→(∀ k:Key,k≠bj→aa k h5=aa k h4)→lg i os=lg i (os.drop (j+1))→
    mF C (aq (fun tm h' nx'=>∃ m,m<os.length-j∧BgL X i os cO bm bl bd bj n0 h m tm h' nx') (ak 0 Q)) hJ tm2 h5 mB:=by
   intro tm2 h5 q qj qk qe
   have q43:=(q (K 43) (by simp)).trans g43
   simp[hJ,q43]
   rw[au (by omega) (by omega)]
   refine⟨os.length-(j+1),by omega,j+1,rfl,by omega,?_,?_,by simp,⟨?_,?_,?_,?_,?_,?_,by rw[qk bm ne.1];exact bm4,by rw[qk bl ne.2.1];exact bl4,by rw[qk bd ne.2.2];exact bd4,qj,by omega,ge,ne⟩,?_,qe⟩
   ·simp;exact(q (K 41) (by simp)).trans g41
   ·simp;exact(q (K 42) (by simp)).trans g42
   ·simp;exact(q (K 1) (by simp)).trans g1
   ·simp;exact(q (K 4) (by simp)).trans g4
   ·simp;exact(q (K 7) (by simp)).trans g7
   ·simp;exact(q (K 10) (by simp)).trans yW
   ·simp;exact(q (K 12) (by simp)).trans Jx
   ·simp;exact(q (K 14) (by simp)).trans Fb
   ·exact⟨by have:=e2.n;omega,fun b hb=>by rw[qk b (fun e=>by subst e;omega),Da.g b (by have:=e2.n;omega)];exact e2.g b hb⟩
  have axs:Ext h n0 h4 mB:=e2.trans Da
  rcases hix with⟨t,ht,hx,hc'⟩|⟨hx,hc'⟩
  ·have h1:=S.ok.aD1 i hi t _ (Fo ht)
   have ecr:=Lj S ht
   have hlr:=Lk S (i:=i)
   have hl:=(S.ok.Pf i).len t
   have t23:23≤(aw i).length*23-t*23:=by omega
   rw[hc'] at pU
   simp only at pU
   have hx0:¬ (t:Int)<0:=by omega
   generalize (aw i)[t]=c at *
   obtain⟨d,hd,hD⟩:=h1
   have Dk:∀ hh,(X.cmd i t)[1]'hh=d:=fun hh=>by
    have q:=Fo hh
    rw[hd] at q;exact(Option.some.inj q).symm
   simp[pR,hx,hx0]
   have hA:(aB o.args=.nils∧o.args.length=0)∨∃ l,aB o.args=.sl l o.args.length 4 .any:=by
    cases o.args with
    |nil=>exact .inl ⟨rfl,rfl⟩
    |cons a t=>exact .inr ⟨_,rfl⟩
   have rest:∀ tm2:T AV,(∀ k:Key,k=K 1∨k=K 4∨k=K 7∨k=K 10∨k=K 12∨k=K 14∨k=K 15∨k=K 16∨k=K 41∨k=K 42∨k=K 43→aa k tm2=aa k (av (K 15) (some (I j)) (av (K 16) (some (.ptr aI 0)) cu)))→o.args.length=c.ar→
     mF C (aq (dz C (.cond (.t (K 67)) (.staged pS ⟨[K 68,K 69,K 70,K 71,K 72,K 73,K 74,K 75,K 76],[]⟩) .skip) (ak 1 (aq (dz C (.ops hJ) (aq (fun tm h' nx'=>∃ m,m<os.length-j∧BgL X i os cO bm bl bd bj n0 h m tm h' nx') (ak 0 Q))) (aq (fun tm h' nx'=>∃ m,m<os.length-j∧BgL X i os cO bm bl bd bj n0 h m tm h' nx') (ak 0 Q))))) (ak 1 (aq (dz C (.ops hJ) (aq (fun tm h' nx'=>∃ m,m<os.length-j∧BgL X i os cO bm bl bd bj n0 h m tm h' nx') (ak 0 Q))) (aq (fun tm h' nx'=>∃ m,m<os.length-j∧BgL X i os cO bm bl bd bj n0 h m tm h' nx') (ak 0 Q))))) kE tm2 h4 mB:=by
    intro tm2 q hlen
    rw[if_pos hlen] at pU
    have q15:aa (K 15) tm2=some (I j):=by rw[q (K 15) (by simp)];simp
    have UD:aa (K 16) tm2=some (.ptr aI 0):=by rw[q (K 16) (by simp)];simp
    have Qt:aa (K 14) tm2=some (.ptr bj 0):=by rw[q (K 14) (by simp)];simp[Fb]
    have q9:∀ k:Key,k=K 1∨k=K 4∨k=K 7∨k=K 10∨k=K 12∨k=K 14∨k=K 41∨k=K 42∨k=K 43→aa k tm2=aa k cu:=by
     rintro k (rfl|rfl|rfl|rfl|rfl|rfl|rfl|rfl|rfl)<;>(rw[q _ (by simp)];simp)
    by_cases he:o.e<0
    ·rw[if_neg (by omega)] at heb
     simp[kE,UD,gb4,eO,he]
     refine next _ h4 ?_ (by rw[heb];exact TA) (fun _ _=>rfl) pU
     rintro k (rfl|rfl|rfl|rfl|rfl|rfl|rfl|rfl|rfl)<;>(simp;exact q9 _ (by simp))
    ·rw[if_pos (by omega)] at heb
     simp[kE,UD,gb4,eO,he]
     have hsh:ajj .i64 j=true:=by unfold ajj;exact Nat.ble_eq_true_of_le (by omega)
     have Qz:((2:Int)^j)=((2^j:Nat):Int):=by simp
     have hp2:2^j≤65536:=tS (by omega)
     have hw:bV .i64 ((2:Int)^j)=((2^j:Nat):Int):=by rw[Qz];exact au (by omega) (by omega)
     have hl1:loB .i64 ((2^j:Nat):Int)=2^j:=Q9 hp2
     have Kb:loB .i64 (tw os j:Int)=tw os j:=Q9 (by omega)
     have hor:tw os j ||| 2^j<2^(j+1):=Nat.or_lt_two_pow (by have:2^j<2^(j+1):=Nat.pow_lt_pow_right (by omega) (by omega);omega) (Nat.pow_lt_pow_right (by omega) (by omega))
     have hp3:2^(j+1)≤131072:=Nat.pow_le_pow_right (n:=2) (by omega) (by omega:j+1≤17)
     have hw2:bV .i64 ((tw os j ||| 2^j:Nat):Int)=((tw os j ||| 2^j:Nat):Int):=au (by omega) (by omega)
     simp[pS,Qt,q15,TA,jB,hsh,-Int.natCast_pow,hw,hl1,Kb,hw2]
     refine next _ _ ?_ ?_ (fun k hk=>bZ _ _ _ _ hk) pU
     ·rintro k (rfl|rfl|rfl|rfl|rfl|rfl|rfl|rfl|rfl)<;>(simp;exact q9 _ (by simp))
     ·rw[heb];simp[jB];rw[hw,hl1,hw2]
   rcases hA with⟨ea,ha0⟩|⟨la,ea⟩<;>rcases hD with⟨rfl,hk0⟩|⟨ld,z,rfl⟩
   ·simp[dy,Jx,gb4,bd4,eO,xL,d45,ht,hlr,t23,ecr,hl,Dk,ea]
    refine rest _ ?_ (by omega)
    rintro k (rfl|rfl|rfl|rfl|rfl|rfl|rfl|rfl|rfl|rfl|rfl)<;>simp
   ·by_cases wj:c.ar=0
    ·simp[dy,Jx,gb4,bd4,eO,xL,d45,ht,hlr,t23,ecr,hl,Dk,ea,wj]
     refine rest _ ?_ (by omega)
     rintro k (rfl|rfl|rfl|rfl|rfl|rfl|rfl|rfl|rfl|rfl|rfl)<;>simp
    ·have IU:((0:Int)==(c.ar:Int))=false:=bq (by omega)
     rw[if_neg (by omega)] at pU
     simp[dy,Jx,gb4,bd4,eO,xL,d45,ht,hlr,t23,ecr,hl,Dk,ea,IU]
     simp[kD]
     refine gH _ _ _ ?_ ?_ (by rw[pU];decide) axs
     ·simp
     ·simp[pU]
   ·by_cases wj:o.args.length=0
    ·simp[dy,Jx,gb4,bd4,eO,xL,d45,ht,hlr,t23,ecr,hl,Dk,ea,wj]
     refine rest _ ?_ (by omega)
     rintro k (rfl|rfl|rfl|rfl|rfl|rfl|rfl|rfl|rfl|rfl|rfl)<;>simp
    ·have IU:((o.args.length:Int)==0)=false:=bq (by omega)
     rw[if_neg (by omega)] at pU
     simp[dy,Jx,gb4,bd4,eO,xL,d45,ht,hlr,t23,ecr,hl,Dk,ea,IU]
     simp[kD]
     refine gH _ _ _ ?_ ?_ (by rw[pU];decide) axs
     ·simp
     ·simp[pU]
   ·by_cases wj:o.args.length=c.ar
    ·simp[dy,Jx,gb4,bd4,eO,xL,d45,ht,hlr,t23,ecr,hl,Dk,ea,wj]
     refine rest _ ?_ wj
     rintro k (rfl|rfl|rfl|rfl|rfl|rfl|rfl|rfl|rfl|rfl|rfl)<;>simp
    ·have IU:((o.args.length:Int)==(c.ar:Int))=false:=bq (by omega)
     rw[if_neg wj] at pU
     simp[dy,Jx,gb4,bd4,eO,xL,d45,ht,hlr,t23,ecr,hl,Dk,ea,IU]
     simp[kD]
     refine gH _ _ _ ?_ ?_ (by rw[pU];decide) axs
     ·simp
     ·simp[pU]
  ·rw[hc'] at pU
   simp only at pU
   simp[pR,hx]
   simp[yu]
   refine gH _ _ _ ?_ ?_ (by rw[pU];decide) axs
   ·simp
   ·simp[pU]
 ·have nS:j=os.length:=by omega
  subst nS
  rw[List.drop_length] at pU
  simp[sw,g42,g43]
  exact cH _ _ _ ⟨by simp[g1],by simp[g4],by simp[g7],by simp[yW],by simp[Jx],by simp[Fb],Qh,bl2,bd2,Lf,lt,ge,ne⟩ e2 pU
end Ln
/-
 LN: a history that is judged: the program, all of it. No condition.
-/
namespace Ln
open Go.Sx Go
variable{C:dm}{X:Kn}(S:Std C X)
include S
def axa(mk:AV→List AV)(i:Nat)(l:List Ev)(h:T ah)(nx:Key)(o:Out)(h':T ah)(nx':Key):Prop:=Ext h nx h' nx'∧
 ((mu i l≠0∧o=.ret (.tuple [.nilp,I (mu i l)]))∨
  (mu i l=0∧∃ (b:Key) (cO:AV),o=.ret (.tuple [.ptr b 0,I 0])∧aa b h'=some (.cells (mk cO) .fix)∧iD 10 eO cO (cv 0 l)∧nx.toNat≤b.toNat∧b.toNat<nx'.toNat))
omit S in
theorem NM(i:Nat):∃ k n,bL i=⟨k,n,[]⟩:=by unfold bL;split<;>exact⟨_,_,rfl⟩
theorem at7{i:Nat}(hi:i<3){ev:AV}{l:List Ev}(hv:iD 8 eE ev l)(hl:Tu l){h:T ah}{nx:Key}:aO C jR [X.m,dE i,ev,jG] h nx (axa (fun cO=>jB X i cO (bL i) (tw (cv 0 l) (cv 0 l).length)) i l h nx):=by
 have s1:=kTSu nx
 have s2:=kTSu nx.succ
 have rO:C.raw kY=false:=S.nr (by decide)
 have rD:C.raw wJ=false:=S.nr (by decide)
 have rI:C.raw zi=false:=S.nr (by decide)
 have hz:∀ H,aY 9999 ev H=(ev,H):=fun H=>hv.Fl _ _
 have tG:(cv 0 l).length≤16:=by have:=qg l 0;have:=hl.len;omega
 refine S.Cq.call ?_
 simp[za]
 simp[Ah,Kn.m,jG]
 have e2:=(E0 h nx (.cells [.sl X.rows 7 45 .any] .fix)).trans (E0 _ nx.succ (.cells [I 200,I 50] .fix))
 have Qh:aa nx (av nx.succ (some (.cells [I 200,I 50] .fix)) (av nx (some (.cells [.sl X.rows 7 45 .any] .fix)) h))=some (.cells [.sl X.rows 7 45 .any] .fix):=by rw[az (by omega)];simp
 have bl2:aa nx.succ (av nx.succ (some (.cells [I 200,I 50] .fix)) (av nx (some (.cells [.sl X.rows 7 45 .any] .fix)) h))=some (.cells [I 200,I 50] .fix):=by simp
 generalize av nx.succ (some (.cells [I 200,I 50] .fix)) (av nx (some (.cells [.sl X.rows 7 45 .any] .fix)) h)=h2 at *
 simp[Ai,rO,hz]
 refine(auW S hv hl _ _).mono ?_
 rintro o h3 bu ⟨⟨cO,rfl,hc⟩,e3⟩
 have H5:=e2.trans e3
 have bm3:aa nx h3=some (.cells [.sl X.rows 7 45 .any] .fix):=by rw[e3.g nx (by omega)];exact Qh
 have bl3:aa nx.succ h3=some (.cells [I 200,I 50] .fix):=by rw[e3.g nx.succ (by omega)];exact bl2
 have n3:=e3.n
 simp
 by_cases Qb:bC [] l=0
 ·rw[if_pos Qb] at hc
  have TE:mu i l=lg i (cv 0 l):=by unfold mu;rw[if_pos Qb]
  simp[r9,Qb,hZ]
  have d45:=S.ok.UJ i hi
  have dC:(X.dec i).all AV.aK=true:=zr.2 (S.ok.awj i hi)
  simp[Aj,bm3,rD]
  refine aO.known (S.D7 i hi _ _) ?_
  have s3:=kTSu bu
  have s4:=kTSu bu.succ
  simp[d45,dC]
  have dt:List.drop 45 (X.dec i)=[]:=List.drop_eq_nil_of_le (by omega)
  have e4:=E0 h3 bu (.cells (X.dec i) .fix)
  have bd4:aa bu (av bu (some (.cells (X.dec i) .fix)) h3)=some (.cells (X.dec i) .fix):=by simp
  have bm4:aa nx (av bu (some (.cells (X.dec i) .fix)) h3)=some (.cells [.sl X.rows 7 45 .any] .fix):=by rw[e4.g nx (by omega)];exact bm3
  have bl4:aa nx.succ (av bu (some (.cells (X.dec i) .fix)) h3)=some (.cells [I 200,I 50] .fix):=by rw[e4.g nx.succ (by omega)];exact bl3
  generalize av bu (some (.cells (X.dec i) .fix)) h3=h4 at *
  simp[Ak]
  have Ki:cO.aK=true∧cO.cells=[cO]:=hc.cell
  have hcz:∀ n H,aY n cO H=(cO,H):=fun n H=>hc.Fl n H
  simp[Al,bm4,bl4,Ki.1,Ki.2,hcz]
  have e5:=E0 h4 bu.succ (.cells (jB X i cO ⟨0,0,[]⟩ 0) .fix)
  have ejB:jB X i cO ⟨0,0,[]⟩ 0=[.sl X.rows 7 45 .any,dE i,cO,I 200,I 50,I 0,I 0,I 0,.str 0 0,.nils,I 0]:=rfl
  rw[ejB] at e5
  have s5:=kTSu bu.succ
  have bj5:aa bu.succ (av bu.succ (some (.cells [.sl X.rows 7 45 .any,dE i,cO,I 200,I 50,I 0,I 0,I 0,.str 0 0,.nils,I 0] .fix)) h4)=some (.cells (jB X i cO ⟨0,0,[]⟩ 0) .fix):=by rw[gTSm];rfl
  have bm5:aa nx (av bu.succ (some (.cells [.sl X.rows 7 45 .any,dE i,cO,I 200,I 50,I 0,I 0,I 0,.str 0 0,.nils,I 0] .fix)) h4)=some (.cells [.sl X.rows 7 45 .any] .fix):=by rw[e5.g nx (by omega)];exact bm4
  have bl5:aa nx.succ (av bu.succ (some (.cells [.sl X.rows 7 45 .any,dE i,cO,I 200,I 50,I 0,I 0,I 0,.str 0 0,.nils,I 0] .fix)) h4)=some (.cells [I 200,I 50] .fix):=by rw[e5.g nx.succ (by omega)];exact bl4
  have bd5:aa bu (av bu.succ (some (.cells [.sl X.rows 7 45 .any,dE i,cO,I 200,I 50,I 0,I 0,I 0,.str 0 0,.nils,I 0] .fix)) h4)=some (.cells (X.dec i) .fix):=by rw[e5.g bu (by omega)];exact bd4
  have e25:=(H5.trans e4).trans e5
  generalize av bu.succ (some (.cells [.sl X.rows 7 45 .any,dE i,cO,I 200,I 50,I 0,I 0,I 0,.str 0 0,.nils,I 0] .fix)) h4=h5 at *
  have main:∀ tm5:T AV,aa (K 41) tm5=some cO→aa (K 42) tm5=some (I (cv 0 l).length)→aa (K 43) tm5=some (I 0)→aa (K 1) tm5=some (dE i)→aa (K 4) tm5=some (.ptr nx 0)→aa (K 7) tm5=some (.ptr nx.succ 0)→aa (K 10) tm5=some cO→aa (K 12) tm5=some (.ptr bu 0)→aa (K 14) tm5=some (.ptr bu.succ 0)→
    W C (.loop lQ) (ak 0 (aq (dz C (.seq (.ops pD) (.seq (.seq (.ops pE) (.cond (.t (K 86)) (.seq (.ops yi) .ret) .skip)) (.seq (.ops pF) (.seq (.ops pG) .ret)))) (bb [.tmp (K 8),.tmp (K 9)] (axa (fun cO=>jB X i cO (bL i) (tw (cv 0 l) (cv 0 l).length)) i l h nx))) (bb [.tmp (K 8),.tmp (K 9)] (axa (fun cO=>jB X i cO (bL i) (tw (cv 0 l) (cv 0 l).length)) i l h nx)))) tm5 h5 bu.succ.succ:=by
   intro tm5 q41 q42 q43 q1 q4 q7 A9 q12 Qt
   refine at9 S hi tG hc (h:=h) (n0:=nx) (bm:=nx) (bl:=nx.succ) (bd:=bu) (bj:=bu.succ) (m:=(cv 0 l).length) ⟨0,by simp,by omega,q41,q42,by simpa using q43,⟨q1,q4,q7,A9,q12,Qt,bm5,bl5,bd5,bj5,by omega,by omega,?_⟩,e25,rfl⟩ ?_ ?_
   ·refine⟨?_,?_,?_⟩<;>(intro e;have:=congrArg Key.toNat e;omega)
   ·intro an h' nx' a8 a9 bI e'
    simp[a8,a9]
    exact⟨e',.inl ⟨by rw[TE];exact bI,by rw[TE]⟩⟩
   ·rintro an h' nx' ⟨a1,a4,a7,a10,a12,a14,bm',bl',bd',bj',lt,ge,ne⟩ e' IU
    simp
    simp[pD,a1,a4,a7,bm',bl',rI]
    refine aO.known (S.anA i hi _ _) ?_
    obtain⟨k,n,sC⟩:=NM i
    have es:eS (bL i)=[I k,I n,.str 0 0,.nils]:=by rw[sC];rfl
    have s6:=kTSu nx'
    simp[es]
    have bj6:aa bu.succ (av nx' (some (.cells [I k,I n,.str 0 0,.nils] .fix)) h')=some (.cells (jB X i cO ⟨0,0,[]⟩ (tw (cv 0 l) (cv 0 l).length)) .fix):=by rw[az lt.2.2.2];exact bj'
    simp[pE]
    simp[pF,a14,bj6,jB]
    simp[pG,a14]
    refine⟨?_,.inr ⟨by rw[TE];exact IU,bu.succ,cO,rfl,?_,hc,by omega,by omega⟩⟩
    ·exact⟨by have:=e'.n;omega,fun b hb=>by rw[az (by omega),az (by have:=e'.n;omega)];exact e'.g b hb⟩
    ·simp[jB,sC,aB]
  rcases id hc with⟨ec,eo⟩|ec
  ·have hl0:(cv 0 l).length=0:=by rw[eo];rfl
   have aLe:((cv 0 l).length:Int)=0:=by omega
   rw[aLe] at main
   simp[sb,ec]
   refine main _ ?_ ?_ ?_ ?_ ?_ ?_ ?_ ?_ ?_<;>simp[ec]
  ·simp[sb,ec]
   refine main _ ?_ ?_ ?_ ?_ ?_ ?_ ?_ ?_ ?_<;>simp[ec]
 ·have bI:hZ (bC [] l)≠0:=by
   unfold hZ
   split<;>first|exact absurd ‹_› Qb|decide
  have TE:mu i l=hZ (bC [] l):=by unfold mu;rw[if_neg Qb]
  simp[r9,bq bI]
  simp[Am]
  exact⟨H5,.inl ⟨by rw[TE];exact bI,by rw[TE]⟩⟩
end Ln
/-
 LN: a history that is judged: the reference. No condition.
-/
namespace Ln
open Go.Sx Go
def D8(i:Nat)(name:Nat×Nat)(n:Nat):Int:=match m7 i name with
 |none=>6
 |some c=>if n=c.ar then 0 else 1
def D9:List AV:=[.str 0 0,.nils,I 0,.str 0 0,I 0,.nils,.nils,.nils,I 0,I 0,.str 0 0,I 0,.nils,.nils,.nils,I 0,I 0,.str 0 0,I 0,.nils,.nils,.nils,I 0]
theorem aEz(i:Nat)(name:Nat×Nat):(∃ (t:Nat) (ht:t<(aw i).length),z3 i name=t∧m7 i name=some (aw i)[t])∨(z3 i name=-1∧m7 i name=none):=by
 unfold z3 m7
 cases hf:(aw i).findIdx? (fun c=>c.name==name) with
 |none=>
  rw[List.findIdx?_eq_none_iff] at hf
  exact .inr ⟨rfl,List.find?_eq_none.2 (fun c hc=>by simpa using hf c hc)⟩
 |some t=>
  rw[List.findIdx?_eq_some_iff_getElem] at hf
  obtain⟨ht,h1,h2⟩:=hf
  refine .inl ⟨t,ht,rfl,?_⟩
  rw[List.find?_eq_some_iff_getElem]
  exact⟨h1,t,ht,rfl,fun s hs=>by simpa using h2 s hs⟩
variable{C:dm}{X:Kn}(S:Std C X)
include S
theorem aKt{i:Nat}(hi:i<3)(H:T ah):cn (aY 9998) (X.dec i) H=(X.dec i,H):=du (S.ok.aJY i hi)
def atw(i:Nat)(name:Nat×Nat)(n:Nat)(o:Out):Prop:=∃ c,o=.ret (.tuple [.agg c,I (D8 i name n)])∧c.length=23∧c.all AV.aK=true
theorem aoW{i:Nat}(hi:i<3)(name:Nat×Nat)(n:Nat):Tv C nf [X.m,dE i,.str name.1 name.2,I n] (atw i name n):=by
 intro h nx
 have s1:=kTSu nx
 have s2:=kTSu nx.succ
 have s3:=kTSu nx.succ.succ
 have rD:C.raw nn=false:=S.nr (by decide)
 have rC:C.raw iQ=false:=S.nr (by decide)
 have d45:=S.ok.UJ i hi
 have dC:(X.dec i).all AV.aK=true:=zr.2 (S.ok.awj i hi)
 have dt:List.drop 45 (X.dec i)=[]:=List.drop_eq_nil_of_le (by omega)
 have dk:List.take 45 (X.dec i)=X.dec i:=P8 (by omega)
 have d36:=S.ok.asL i hi
 have xL:∀ hh,(X.dec i)[36]'hh=as6 X i:=fun hh=>by
  have q:=Fo hh
  rw[d36] at q;exact(Option.some.inj q).symm
 refine S.Ha.call ?_
 simp[EY]
 simp[Ea,Kn.m]
 have e2:=(E0 h nx (.cells [.sl X.rows 7 45 .any] .fix)).trans (E0 _ nx.succ (.cells D9 .fix))
 have Qh:aa nx (av nx.succ (some (.cells D9 .fix)) (av nx (some (.cells [.sl X.rows 7 45 .any] .fix)) h))=some (.cells [.sl X.rows 7 45 .any] .fix):=by rw[az (by omega)];simp
 have br2:aa nx.succ (av nx.succ (some (.cells D9 .fix)) (av nx (some (.cells [.sl X.rows 7 45 .any] .fix)) h))=some (.cells D9 .fix):=by simp
 unfold D9 at e2 Qh br2
 generalize hH:av nx.succ _ (av nx (some (.cells [.sl X.rows 7 45 .any] .fix)) h)=h2 at *
 simp[Eb,Qh,rD]
 refine aO.known (S.zk i hi _ _) ?_
 simp[d45,dC,dt]
 have e3:=E0 h2 nx.succ.succ (.cells (X.dec i) .fix)
 have bd3:aa nx.succ.succ (av nx.succ.succ (some (.cells (X.dec i) .fix)) h2)=some (.cells (X.dec i) .fix):=by simp
 have br3:aa nx.succ (av nx.succ.succ (some (.cells (X.dec i) .fix)) h2)=some (.cells D9 .fix):=by rw[e3.g nx.succ (by omega)];exact br2
 generalize av nx.succ.succ (some (.cells (X.dec i) .fix)) h2=h3 at *
 simp[Ec,bd3,d45,dk,rC,aKt S hi]
 refine(aj3 S hi name _ _).mono ?_
 rintro o h4 mB ⟨rfl,e4⟩
 have bd4:aa nx.succ.succ h4=some (.cells (X.dec i) .fix):=by rw[e4.g nx.succ.succ (by omega)];exact bd3
 have br4:aa nx.succ h4=some (.cells D9 .fix):=by rw[e4.g nx.succ (by omega)];exact br3
 have Da:=(e2.trans e3).trans e4
 simp
 have fin:∀ (c:List AV),Ext h nx (av nx.succ (some (.cells c .fix)) h4) mB:=fun c=>Da.put (by omega)
 unfold D9 at br4
 rcases aEz i name with⟨t,ht,hx,hc⟩|⟨hx,hc⟩
 ·have hx0:¬ (t:Int)<0:=by omega
  have h1:=S.ok.aD1 i hi t _ (Fo ht)
  have ecr:=Lj S ht
  have hlr:=Lk S (i:=i)
  have hl:=(S.ok.Pf i).len t
  have Ki:(X.cmd i t).all AV.aK=true:=zr.2 ((S.ok.Pf i).cell t)
  have aEA:List.take 23 (X.cmd i t)=X.cmd i t:=P8 (by omega)
  have aEB:List.drop 23 (X.cmd i t)=[]:=List.drop_eq_nil_of_le (by omega)
  have t23:23≤(aw i).length*23-t*23:=by omega
  have aoZ:D8 i name n=if n=(aw i)[t].ar then 0 else 1:=by unfold D8;rw[hc]
  generalize (aw i)[t]=c at *
  obtain⟨d,hd,hD⟩:=h1
  have Dk:∀ hh,(X.cmd i t)[1]'hh=d:=fun hh=>by
   have q:=Fo hh
   rw[hd] at q;exact(Option.some.inj q).symm
  simp[wN,hx,hx0]
  have AW:n=c.ar→atw i name n (.ret (.tuple [.agg (X.cmd i t),I 0])):=fun e=>⟨_,by rw[aoZ,if_pos e],hl,Ki⟩
  have bad:n≠c.ar→atw i name n (.ret (.tuple [.agg D9,I 1])):=fun e=>⟨_,by rw[aoZ,if_neg e],rfl,rfl⟩
  unfold D9 at bad
  rcases hD with⟨rfl,hk0⟩|⟨ld,z,rfl⟩
  ·by_cases hn:n=0
   ·subst hn
    simp[lE,bd4,xL,d45,ht,hlr,t23,ecr,hl,Dk]
    simp[wO,bd4,br4,xL,d45,ht,hlr,t23,ecr,hl,aEA,Ki,aEB,aAO S]
    exact⟨AW (by omega),fin _⟩
   ·have IU:((0:Int)==(n:Int))=false:=bq (by omega)
    simp[lE,bd4,xL,d45,ht,hlr,t23,ecr,hl,Dk,IU]
    simp[wP,br4]
    exact⟨bad (by omega),fin _⟩
  ·by_cases hn:c.ar=n
   ·simp[lE,bd4,xL,d45,ht,hlr,t23,ecr,hl,Dk,hn]
    simp[wO,bd4,br4,xL,d45,ht,hlr,t23,ecr,hl,aEA,Ki,aEB,aAO S]
    exact⟨AW (by omega),fin _⟩
   ·have IU:((c.ar:Int)==(n:Int))=false:=bq (by omega)
    simp[lE,bd4,xL,d45,ht,hlr,t23,ecr,hl,Dk,IU]
    simp[wP,br4]
    exact⟨bad (by omega),fin _⟩
 ·have aoZ:D8 i name n=6:=by unfold D8;rw[hc]
  simp[wN,hx]
  simp[Ed,br4]
  exact⟨⟨_,by rw[aoZ],rfl,rfl⟩,fin _⟩
end Ln
/-
 LN: a history that is judged: the reference, all of it. No condition.
-/
namespace Ln
open Go.Sx Go
def wB(X:Kn)(i:Nat)(cO:AV)(s:St):List AV:=[.sl X.rows 7 45 .any,dE i,I 200,I 50,cO,I s.k,I s.n,.str 0 0,aB s.kids]
theorem aqG(i:Nat)(o:Op)(l:List Op):lg i (o ::l)=if D8 i o.name o.args.length=0 then lg i l else D8 i o.name o.args.length:=by
 show(match m7 i o.name with|none=>6|some c=>if o.args.length=c.ar then lg i l else 1)=_
 unfold D8
 cases m7 i o.name with
 |none=>rfl
 |some c=>
  simp only
  by_cases h:o.args.length=c.ar
  ·rw[if_pos h,if_pos h,if_pos rfl]
  ·rw[if_neg h,if_neg h,if_neg (by decide)]
variable{C:dm}{X:Kn}(S:Std C X)
include S
def StL(X:Kn)(i:Nat)(os:List Op)(cO:AV)(bm bl n0:Key)(h:T ah)(m:Nat)(an:T AV)(h':T ah)(nx':Key):Prop:=∃ j:Nat,m=os.length-j∧j≤os.length∧aa (K 1) an=some (dE i)∧aa (K 4) an=some (.ptr bm 0)∧aa (K 7) an=some (.ptr bl 0)∧aa (K 10) an=some cO∧aa (K 14) an=some (I j)∧
 aa bm h'=some (.cells [.sl X.rows 7 45 .any] .fix)∧aa bl h'=some (.cells [I 200,I 50] .fix)∧bm.toNat<nx'.toNat∧bl.toNat<nx'.toNat∧Ext h n0 h' nx'∧lg i os=lg i (os.drop j)
theorem Su{i:Nat}(hi:i<3){os:List Op}(ho:os.length≤16){cO:AV}(hc:iD 10 eO cO os){bm bl n0:Key}{h:T ah}{Q:cX}{m:Nat}{tm:T AV}{h1:T ah}{bM:Key}(A:StL X i os cO bm bl n0 h m tm h1 bM)
  (gH:∀ an h' nx',aa (K 8) an=some .nilp→aa (K 9) an=some (I (lg i os))→lg i os≠0→Ext h n0 h' nx'→Q .ret an h' nx')
  (cH:∀ an h' nx',StL X i os cO bm bl n0 h 0 an h' nx'→lg i os=0→Q .norm an h' nx') :
  W C (.loop uR) (ak 0 Q) tm h1 bM:=by
 have rF:C.raw nf=false:=S.nr (by decide)
 refine W.di (StL X i os cO bm bl n0 h) A ?_
 rintro m cu h2 aI ⟨j,rfl,hj,g1,g4,g7,yW,Fb,Qh,bl2,ltm,ltl,e2,pU⟩
 refine W.of ?_
 simp[uR]
 by_cases aR:j<os.length
 ·have sB:(j:Int)<os.length:=by omega
  have fi:cO=.sl (ai eO os) os.length 10 .any:=by
   rcases hc with⟨_,rfl⟩|e
   ·simp at aR
   ·exact e
  have KI:=yW
  rw[fi] at KI
  have ec:=cG.at aR
  have hr:=cG.rows os
  have tx:10≤os.length*10-j*10:=by omega
  have s2:=kTSu aI
  rw[zqt aR,aqG] at pU
  have hA:(aB os[j].args=.nils∧os[j].args.length=0)∨∃ l,aB os[j].args=.sl l os[j].args.length 4 .any:=by
   cases os[j].args with
   |nil=>exact .inl ⟨rfl,rfl⟩
   |cons a t=>exact .inr ⟨_,rfl⟩
  generalize os[j]=o at *
  simp[nD,KI,Fb,sB]
  have fin:∀ (tm2:T AV) (h3:T ah) (bu:Key),(∀ k:Key,k=K 1∨k=K 4∨k=K 7∨k=K 10∨k=K 14→aa k tm2=aa k cu)→aa (K 16) tm2=some (I (D8 i o.name o.args.length))→Ext h2 aI h3 bu→
    mF C (aq (dz C (.cond (.t (K 59)) (.seq (.ops sj) .ret) .skip) (ak 1 (aq (dz C (.ops lR) (aq (fun tm h' nx'=>∃ m,m<os.length-j∧StL X i os cO bm bl n0 h m tm h' nx') (ak 0 Q))) (aq (fun tm h' nx'=>∃ m,m<os.length-j∧StL X i os cO bm bl n0 h m tm h' nx') (ak 0 Q))))) (ak 1 (aq (dz C (.ops lR) (aq (fun tm h' nx'=>∃ m,m<os.length-j∧StL X i os cO bm bl n0 h m tm h' nx') (ak 0 Q))) (aq (fun tm h' nx'=>∃ m,m<os.length-j∧StL X i os cO bm bl n0 h m tm h' nx') (ak 0 Q))))) lS tm2 h3 bu:=by
   intro tm2 h3 bu q UD e3
   have n3:=e3.n
   by_cases kV:D8 i o.name o.args.length=0
   ·rw[if_pos kV] at pU
    rw[kV] at UD
    have Qt:=(q (K 14) (by simp)).trans Fb
    simp[lS,UD]
    simp[lR,Qt]
    rw[au (by omega) (by omega)]
    refine⟨os.length-(j+1),by omega,j+1,rfl,by omega,?_,?_,?_,?_,by simp,by rw[e3.g bm ltm];exact Qh,by rw[e3.g bl ltl];exact bl2,by omega,by omega,?_,pU⟩
    ·simp;exact(q (K 1) (by simp)).trans g1
    ·simp;exact(q (K 4) (by simp)).trans g4
    ·simp;exact(q (K 7) (by simp)).trans g7
    ·simp;exact(q (K 10) (by simp)).trans yW
    ·exact e2.trans e3
   ·rw[if_neg kV] at pU
    simp[lS,UD,bq kV]
    simp[sj,UD]
    refine gH _ _ _ ?_ ?_ (by rw[pU];exact kV) (e2.trans e3)
    ·simp
    ·simp[pU]
  have ext:∀ (c:List AV) (h3:T ah) (bu:Key),Ext h2 aI.succ h3 bu→Ext h2 aI (av aI (some (.cells c .fix)) h3) bu:=fun c h3 bu e3=>⟨by have:=e3.n;omega,fun b hb=>by rw[az hb];exact e3.g b (by omega)⟩
  rcases hA with⟨ea,hn⟩|⟨la,ea⟩
  ·have ff:=aoW S hi o.name 0 h2 aI.succ
   simp[Kn.m] at ff
   rw[hn] at fin
   simp[uT,g1,g4,KI,Fb,Qh,aR,hr,tx,ec,eO,ea,rF]
   refine ff.mono ?_
   rintro out h3 bu ⟨⟨c,rfl,aBo,Ki⟩,e3⟩
   have hcd:List.drop 23 c=[]:=List.drop_eq_nil_of_le (by omega)
   simp[aBo,Ki]
   refine fin _ _ _ ?_ ?_ (ext c h3 bu e3)
   ·rintro k (rfl|rfl|rfl|rfl|rfl)<;>simp
   ·simp
  ·have ff:=aoW S hi o.name o.args.length h2 aI.succ
   simp[Kn.m] at ff
   simp[uT,g1,g4,KI,Fb,Qh,aR,hr,tx,ec,eO,ea,rF]
   refine ff.mono ?_
   rintro out h3 bu ⟨⟨c,rfl,aBo,Ki⟩,e3⟩
   have hcd:List.drop 23 c=[]:=List.drop_eq_nil_of_le (by omega)
   simp[aBo,Ki]
   refine fin _ _ _ ?_ ?_ (ext c h3 bu e3)
   ·rintro k (rfl|rfl|rfl|rfl|rfl)<;>simp
   ·simp
 ·have nS:j=os.length:=by omega
  subst nS
  rw[List.drop_length] at pU
  have fin:∀ tm2:T AV,aa (K 1) tm2=aa (K 1) cu→aa (K 4) tm2=aa (K 4) cu→aa (K 7) tm2=aa (K 7) cu→aa (K 10) tm2=aa (K 10) cu→aa (K 14) tm2=aa (K 14) cu→Q .norm tm2 h2 aI:=fun tm2 a b c d e=>cH _ _ _ ⟨os.length,by omega,by omega,a.trans g1,b.trans g4,c.trans g7,d.trans yW,e.trans Fb,Qh,bl2,ltm,ltl,e2,by rw[pU,List.drop_length]⟩ pU
  rcases id hc with⟨e0,e1⟩|e0
  ·have KI:=yW
   rw[e0] at KI
   have:(os.length:Int)=0:=by rw[e1];rfl
   simp[nD,KI,Fb,this]
   refine fin _ ?_ ?_ ?_ ?_ ?_<;>simp[KI,Fb,this]
  ·have KI:=yW
   rw[e0] at KI
   simp[nD,KI,Fb]
   refine fin _ ?_ ?_ ?_ ?_ ?_<;>simp[KI,Fb]
theorem Um{i:Nat}(hi:i<3){ev:AV}{l:List Ev}(hv:iD 8 eE ev l)(hl:Tu l){h:T ah}{nx:Key}:aO C gy [X.m,dE i,ev,jG] h nx (axa (fun cO=>wB X i cO (bL i)) i l h nx):=by
 have s1:=kTSu nx
 have s2:=kTSu nx.succ
 have rO:C.raw qp=false:=S.nr (by decide)
 have rD:C.raw nn=false:=S.nr (by decide)
 have rI:C.raw zj=false:=S.nr (by decide)
 have hz:∀ H,aY 9999 ev H=(ev,H):=fun H=>hv.Fl _ _
 have tG:(cv 0 l).length≤16:=by have:=qg l 0;have:=hl.len;omega
 refine S.D6.call ?_
 simp[Ck]
 simp[CC,Kn.m,jG]
 have e2:=(E0 h nx (.cells [.sl X.rows 7 45 .any] .fix)).trans (E0 _ nx.succ (.cells [I 200,I 50] .fix))
 have Qh:aa nx (av nx.succ (some (.cells [I 200,I 50] .fix)) (av nx (some (.cells [.sl X.rows 7 45 .any] .fix)) h))=some (.cells [.sl X.rows 7 45 .any] .fix):=by rw[az (by omega)];simp
 have bl2:aa nx.succ (av nx.succ (some (.cells [I 200,I 50] .fix)) (av nx (some (.cells [.sl X.rows 7 45 .any] .fix)) h))=some (.cells [I 200,I 50] .fix):=by simp
 generalize av nx.succ (some (.cells [I 200,I 50] .fix)) (av nx (some (.cells [.sl X.rows 7 45 .any] .fix)) h)=h2 at *
 simp[CD,rO,hz]
 refine(avt S hv hl _ _).mono ?_
 rintro o h3 bu ⟨⟨cO,rfl,hc⟩,e3⟩
 have H5:=e2.trans e3
 have bm3:aa nx h3=some (.cells [.sl X.rows 7 45 .any] .fix):=by rw[e3.g nx (by omega)];exact Qh
 have bl3:aa nx.succ h3=some (.cells [I 200,I 50] .fix):=by rw[e3.g nx.succ (by omega)];exact bl2
 have n3:=e3.n
 simp
 by_cases Qb:bC [] l=0
 ·rw[if_pos Qb] at hc
  have TE:mu i l=lg i (cv 0 l):=by unfold mu;rw[if_pos Qb]
  simp[uU,Qb,hZ]
  have d45:=S.ok.UJ i hi
  have dC:(X.dec i).all AV.aK=true:=zr.2 (S.ok.awj i hi)
  simp[CE,bm3,rD]
  refine aO.known (S.zk i hi _ _) ?_
  have s3:=kTSu bu
  simp[d45,dC]
  have dt:List.drop 45 (X.dec i)=[]:=List.drop_eq_nil_of_le (by omega)
  have e4:=E0 h3 bu (.cells (X.dec i) .fix)
  have bm4:aa nx (av bu (some (.cells (X.dec i) .fix)) h3)=some (.cells [.sl X.rows 7 45 .any] .fix):=by rw[e4.g nx (by omega)];exact bm3
  have bl4:aa nx.succ (av bu (some (.cells (X.dec i) .fix)) h3)=some (.cells [I 200,I 50] .fix):=by rw[e4.g nx.succ (by omega)];exact bl3
  have Da:=H5.trans e4
  generalize av bu (some (.cells (X.dec i) .fix)) h3=h4 at *
  have Ki:cO.aK=true∧cO.cells=[cO]:=hc.cell
  have hcz:∀ n H,aY n cO H=(cO,H):=fun n H=>hc.Fl n H
  simp[CG]
  simp[CH]
  refine Su S hi tG hc (h:=h) (n0:=nx) (bm:=nx) (bl:=nx.succ) (m:=(cv 0 l).length) ⟨0,by simp,by omega,by simp,by simp,by simp,by simp,by simp,bm4,bl4,by omega,by omega,Da,rfl⟩ ?_ ?_
  ·intro an h' nx' a8 a9 bI e'
   simp[a8,a9]
   exact⟨e',.inl ⟨by rw[TE];exact bI,by rw[TE]⟩⟩
  ·rintro an h' nx' ⟨j,_,_,a1,a4,a7,a10,a14,bm',bl',ltm,ltl,e',_⟩ IU
   simp
   simp[AA,a1,a4,a7,bm',bl',rI]
   refine aO.known (S.anB i hi _ _) ?_
   obtain⟨k,n,sC⟩:=NM i
   have es:eS (bL i)=[I k,I n,.str 0 0,.nils]:=by rw[sC];rfl
   have s6:=kTSu nx'
   have s7:=kTSu nx'.succ
   simp[es]
   have bm6:aa nx (av nx' (some (.cells [I k,I n,.str 0 0,.nils] .fix)) h')=some (.cells [.sl X.rows 7 45 .any] .fix):=by rw[az ltm];exact bm'
   have bl6:aa nx.succ (av nx' (some (.cells [I k,I n,.str 0 0,.nils] .fix)) h')=some (.cells [I 200,I 50] .fix):=by rw[az ltl];exact bl'
   simp[AB]
   simp[AD,a1,a4,a7,a10,bm6,bl6,Ki.1,Ki.2,hcz]
   refine⟨?_,.inr ⟨by rw[TE];exact IU,nx'.succ,cO,rfl,?_,hc,by have:=e'.n;omega,by omega⟩⟩
   ·exact⟨by have:=e'.n;omega,fun b hb=>by rw[az (by have:=e'.n;omega),az (by have:=e'.n;omega)];exact e'.g b hb⟩
   ·simp[wB,sC,aB]
 ·have bI:hZ (bC [] l)≠0:=by
   unfold hZ
   split<;>first|exact absurd ‹_› Qb|decide
  have TE:mu i l=hZ (bC [] l):=by unfold mu;rw[if_neg Qb]
  simp[uU,bq bI]
  simp[CI]
  exact⟨H5,.inl ⟨by rw[TE];exact bI,by rw[TE]⟩⟩
end Ln
/-
 LN: a call takes place: the program. No condition.
-/
namespace Ln
open Go.Sx Go
theorem aJL(s:St):∀ y∈eS s,Rm y:=by
 intro y hy
 simp[eS] at hy
 rcases hy with rfl|rfl|rfl|rfl
 ·exact eD _ _
 ·exact eD _ _
 ·exact sZ _ _
 ·exact dB _
theorem C8(s:St)(H:T ah):cn (aY 9998) (eS s) H=(eS s,H):=du (aJL s)
theorem xm(s:St):(eS s).all AV.aK=true:=by simp[eS,(bc s.kids).1]
theorem lenS(s:St):(eS s).length=4:=rfl
theorem vD(s:St):List.take 4 (eS s)=eS s:=rfl
theorem GH(s:St):List.drop 4 (eS s)=[]:=rfl
def ap5(X:Kn)(c:gE)(o:Op)(s:St)(out:Out):Prop:=∃ u:St,out=.ret (.tuple [.agg (eS u),.bool (X.take c o s).isSome])∧∀ t,X.take c o s=some t→u=t
structure ajS(mi:Nat)(os:List Op)(x:Nat)(o:Op)(c:gE):Prop where
 get:os[x]?=some o
 name:o.name=c.name
 ar:o.args.length=c.ar
 qm:c.qm=mi
variable{C:dm}{X:Kn}(S:Std C X)
include S
theorem asv{mi:Nat}{os:List Op}{cO:AV}(hc:iD 10 eO cO os){x:Nat}{o:Op}{c:gE}(hx:ajS mi os x o c){s s0:St}(hs:gM mi s){e:Nat}{h:T ah}{nx bj:Key}(hb:aa bj h=some (.cells (jB X mi cO s0 e) .fix))(C3:bj.toNat<nx.toNat) :
  aO C dR [.ptr bj 0,I x,.agg (eS s)] h nx (fun out h' nx'=>ap5 X c o s out∧Ext h nx h' nx'):=by
 obtain⟨hxo,hn,Pa,rfl⟩:=hx
 obtain⟨AZ,hox⟩:=List.getElem?_eq_some_iff.1 hxo
 have s1:=kTSu nx
 have s2:=kTSu nx.succ
 have s3:=kTSu nx.succ.succ
 have rC:C.raw B3=false:=S.nr (by decide)
 have rH:C.raw wA=false:=S.nr (by decide)
 have rN:C.raw yQ=false:=S.nr (by decide)
 have fi:cO=.sl (ai eO os) os.length 10 .any:=by
  rcases hc with⟨_,rfl⟩|e
  ·simp at AZ
  ·exact e
 subst fi
 have ec:=cG.at AZ
 have hr:=cG.rows os
 have tx:10≤os.length*10-x*10:=by omega
 have Qi:(eO os[x]).all AV.aK=true:=zr.2 (cG.cell _)
 rw[hox] at ec Qi
 have scC:=S.asw c s o.args hs Pa
 have scH:=S.UG c s o.args o.res hs Pa
 have scN:=S.amJ c s o.args o.res hs Pa
 have Gx:X.take c o s=if X.LI c s o.args≠0∨X.LH c s o.args=false then none
  else if 0≤o.e∧(X.od c s o.args o.res≠0∨X.oa c s o.args o.res=false) then none
  else if X.tO c s o.args o.res≠0 then none else some (X.ql c s o.args o.res):=rfl
 refine S.nY.call ?_
 simp[kR]
 simp[mX,xm,lenS]
 have e2:=(E0 h nx (.cells (eS s) .fix)).trans (E0 _ nx.succ (.cells [I 0,I 0,.str 0 0,.nils] .fix))
 have bs2:aa nx (av nx.succ (some (.cells [I 0,I 0,.str 0 0,.nils] .fix)) (av nx (some (.cells (eS s) .fix)) h))=some (.cells (eS s) .fix):=by rw[az (by omega)];simp
 have b62:aa nx.succ (av nx.succ (some (.cells [I 0,I 0,.str 0 0,.nils] .fix)) (av nx (some (.cells (eS s) .fix)) h))=some (.cells [I 0,I 0,.str 0 0,.nils] .fix):=by simp
 have Lf:aa bj (av nx.succ (some (.cells [I 0,I 0,.str 0 0,.nils] .fix)) (av nx (some (.cells (eS s) .fix)) h))=some (.cells (jB X c.qm (.sl (ai eO os) os.length 10 .any) s0 e) .fix):=by rw[e2.g bj C3];exact hb
 generalize av nx.succ (some (.cells [I 0,I 0,.str 0 0,.nils] .fix)) (av nx (some (.cells (eS s) .fix)) h)=h2 at *
 simp[mY,Lf,jB,AZ,hr,tx,ec,GI,O0,Qi]
 have e3:=E0 h2 nx.succ.succ (.cells (eO o) .fix)
 have bo3:aa nx.succ.succ (av nx.succ.succ (some (.cells (eO o) .fix)) h2)=some (.cells (eO o) .fix):=by simp
 have bs3:aa nx (av nx.succ.succ (some (.cells (eO o) .fix)) h2)=some (.cells (eS s) .fix):=by rw[e3.g nx (by omega)];exact bs2
 have b63:aa nx.succ (av nx.succ.succ (some (.cells (eO o) .fix)) h2)=some (.cells [I 0,I 0,.str 0 0,.nils] .fix):=by rw[e3.g nx.succ (by omega)];exact b62
 have Oj:aa bj (av nx.succ.succ (some (.cells (eO o) .fix)) h2)=some (.cells (jB X c.qm (.sl (ai eO os) os.length 10 .any) s0 e) .fix):=by rw[e3.g bj (by omega)];exact Lf
 have H5:=e2.trans e3
 generalize av nx.succ.succ (some (.cells (eO o) .fix)) h2=h3 at *
 have af:∀ n H,aY n (aB o.args) H=(aB o.args,H):=dB _
 have done:∀ (c6:List AV),Ext h nx (av nx.succ (some (.cells c6 .fix)) h3) nx.succ.succ.succ:=fun c6=>H5.put (by omega)
 simp[mZ,Oj,jB,bo3,bs3,eO,hn,rC,vD,lenS,C8,af]
 refine aO.known (scC _ _) ?_
 simp
 have tr:X.take c o s=none→ap5 X c o s (.ret (.tuple [.agg [I 0,I 0,.str 0 0,.nils],.bool false])):=fun e=>⟨⟨0,0,[]⟩,by rw[e];rfl,by rw[e];simp⟩
 by_cases h1:X.LI c s o.args=0
 ·cases h2:X.LH c s o.args with
  |false=>
   have ht:X.take c o s=none:=by rw[Gx,if_pos (.inr h2)]
   simp[eG,h1]
   simp[ir,b63]
   exact⟨tr ht,done _⟩
  |true=>
   have jP:X.take c o s=if 0≤o.e∧(X.od c s o.args o.res≠0∨X.oa c s o.args o.res=false) then none else if X.tO c s o.args o.res≠0 then none else some (X.ql c s o.args o.res):=by
    rw[Gx,if_neg];rw[h1,h2];simp
   have s4:=kTSu nx.succ.succ.succ
   simp[eG,h1]
   have last:∀ tm2:T AV,aa (K 0) tm2=some (.ptr bj 0)→aa (K 5) tm2=some (.ptr nx 0)→aa (K 6) tm2=some (.ptr nx.succ 0)→aa (K 8) tm2=some (.ptr nx.succ.succ 0)→(X.take c o s=if X.tO c s o.args o.res≠0 then none else some (X.ql c s o.args o.res))→
     dz C (.seq (.staged iu ⟨[K 83,K 84,K 85,K 86,K 87,K 88,K 89,K 90,K 91,K 92,K 93,K 94,K 95,K 96,K 97,K 98,K 99,K 100,K 101,K 102,K 82,K 103,K 104,K 13,K 10],[]⟩) (.seq (.ops gT) .ret)) (bb [.cell (K 6) true 4,.tmp (K 7)] fun out h' nx'=>ap5 X c o s out∧Ext h nx h' nx') tm2 h3 nx.succ.succ.succ:=by
    intro tm2 q0 q5 q6 q8 ht
    simp
    simp[iu,q0,q5,q8,Oj,jB,bo3,bs3,eO,hn,rN,vD,lenS,C8,af]
    refine aO.known (scN _ _) ?_
    simp[xm,lenS,GH]
    have b64:aa nx.succ (av nx.succ.succ.succ (some (.cells (eS (X.ql c s o.args o.res)) .fix)) h3)=some (.cells [I 0,I 0,.str 0 0,.nils] .fix):=by rw[az (by omega)];exact b63
    simp[gT,q6,b64,xm,lenS,vD,C8]
    refine⟨⟨X.ql c s o.args o.res,?_,?_⟩,?_⟩
    ·rw[ht]
     by_cases he:X.tO c s o.args o.res=0
     ·rw[if_neg (by simpa using he),bt he];rfl
     ·rw[if_pos he,bq he];rfl
    ·intro t hts
     rw[ht] at hts
     split at hts
     ·cases hts
     ·exact Option.some.inj hts
    ·exact⟨by have:=H5.n;omega,fun b hb=>by rw[az (by omega),az (by omega)];exact H5.g b hb⟩
   simp only[aL,aM] at last
   by_cases he:o.e<0
   ·rw[if_neg (by omega)] at jP
    simp[iv,bo3,eO,he]
    refine last _ ?_ ?_ ?_ ?_ jP<;>simp
   ·simp[iv,bo3,eO,he]
    simp[m6,Oj,jB,bo3,bs3,eO,hn,rH,vD,lenS,C8,af]
    refine aO.known (scH _ _) ?_
    simp
    by_cases PV:X.od c s o.args o.res=0
    ·cases h4:X.oa c s o.args o.res with
     |false=>
      rw[if_pos ⟨by omega,.inr h4⟩] at jP
      simp[eH,PV]
      simp[iw,b63]
      exact⟨tr jP,done _⟩
     |true=>
      rw[if_neg (by rw[PV,h4];simp)] at jP
      simp[eH,PV]
      refine last _ ?_ ?_ ?_ ?_ jP<;>simp
    ·rw[if_pos ⟨by omega,.inl PV⟩] at jP
     simp[eH,bq PV]
     simp[iw,b63]
     exact⟨tr jP,done _⟩
 ·have ht:X.take c o s=none:=by rw[Gx,if_pos (.inl h1)]
  simp[eG,bq h1]
  simp[ir,b63]
  exact⟨tr ht,done _⟩
end Ln
