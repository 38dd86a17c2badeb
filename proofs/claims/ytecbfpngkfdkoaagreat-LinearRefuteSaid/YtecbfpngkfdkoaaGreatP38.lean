/- A part of the proof. No condition. -/
import Derived.Test.YtecbfpngkfdkoaaGreatP37
set_option linter.unusedSimpArgs false
set_option linter.unusedVariables false
set_option linter.unusedSectionVars false
namespace Ln
open Go.Sx Go
theorem ayL(z:Cf St):List.drop 5 (eC z)=[]:=rfl
theorem Rg(X:Kn)(i:Nat)(os:List Op)(c:Cf St)(j:Nat):(bH X i os).step c j=if wZ os j c.1=true then(X.take (cm i (os.getD j default)) (os.getD j default) c.2).map (fun s=>(j,(c.1+2^j,s))) else none:=rfl
theorem az3(s:St):AV.beq (.agg (eS s)) (.agg (eS s))=true:=beq_refl _ (by simp[eS,AV.lits,AV.gf,xL,I])
variable{C:cD}{X:Kn}(S:Std C X)
def SpI(X:Kn)(i:Nat)(os:List Op)(cells:List AV)(c:Cf St)(bj:Key)(h:T ag)(nx:Key)(m:Nat)(tm':T AV)(h':T ag)(nx':Key):Prop:=∃ (j:Nat) (c5:AV),m=os.length-j∧j≤os.length∧aa (K 0) tm'=some (.ptr bj 0)∧aa (K 3) tm'=some (.ptr nx 0)∧aa (K 6) tm'=some (I j)∧aa (K 5) tm'=some c5∧
 App c5 (aj eC (((bH X i os).ib c j).map (·.2))) (((bH X i os).ib c j).map (·.2)).length 5 h' nx' nx.succ∧aa bj h'=some (.cells cells .fix)∧aa nx h'=some (.cells (eC c) .fix)∧Ext h nx h' nx'∧nx.toNat<nx'.toNat
include S
theorem U3{i:Nat}(hi:i<3){os:List Op}(nq:jR i os=0)(ho:os.length≤16){cO:AV}(hc:jN 10 eO cO os){s0:St}{c:Cf St}(hd:c.1<65536)(hs:dR i c.2){h:T ag}{nx bj:Key}(hb:aa bj h=some (.cells (wB X i cO s0) .fix))(Iq:bj.toNat<nx.toNat) :
  aI C eZ [.ptr bj 0,.agg (eC c)] h nx (fun o h' nx'=>∃ cR,o=.ret cR∧jN 5 eC cR (((bH X i os).steps c).map (·.2))∧Ext h nx h' nx'):=by
 have rO:C.raw kx=false:=S.nr (by decide)
 have rT:C.raw ky=false:=S.nr (by decide)
 have rB:C.raw gG=false:=S.nr (by decide)
 have s1:=kTSu nx
 refine S.Ap.call ?_
 simp[w5]
 have ac:=(aZ c.2.kids).1
 simp[xT,eC,ac]
 simp[xU]
 simp[xV]
 have ec:[I c.1,I c.2.k,I c.2.n,.str 0 0,aC c.2.kids]=eC c:=rfl
 rw[ec]
 have e0:=E0 h nx (.cells (eC c) .fix)
 refine W.dQ (n:=os.length) (SpI X i os (wB X i cO s0) c bj h nx) ⟨0,.nils,by simp,by omega,by simp,by simp,by simp,by simp,App.nil _,by rw[e0.g bj Iq];exact hb,by simp,e0,by omega⟩ ?_
 rintro m dn h1 bN ⟨j,c5,rfl,hj,g0,g3,g6,g5,hA,bj1,bc1,e1,lt1⟩
 refine W.of ?_
 simp[xW]
 have wBl:(wB X i cO s0).length=9:=rfl
 by_cases bz:j<os.length
 ·have uA:(j:Int)<os.length:=by omega
  have Cr:cO=.sl (aj eO os) os.length 10 .any:=by
   rcases hc with⟨_,rfl⟩|e
   ·simp at bz
   ·exact e
  subst Cr
  have af:∀ n H,aO n (aC c.2.kids) H=(aC c.2.kids,H):=dp _
  have hco:=Sr hi nq (Pe bz)
  have hgd:=nC bz
  have dL:=tT (bH X i os) c j
  have hsj:=Rg X i os c j
  rw[hgd] at hsj
  have next:∀ (ay:T AV) (h2:T ag) (aH:Key) (c6:AV) (us:List (Cf St)),aa (K 0) ay=some (.ptr bj 0)→aa (K 3) ay=some (.ptr nx 0)→aa (K 6) ay=some (I j)→aa (K 5) ay=some c6→us=((bH X i os).ib c (j+1)).map (·.2)→App c6 (aj eC us) us.length 5 h2 aH nx.succ→aa bj h2=some (.cells (wB X i (.sl (aj eO os) os.length 10 .any) s0) .fix)→aa nx h2=some (.cells (eC c) .fix)→Ext h nx h2 aH→nx.toNat<aH.toNat→
    mX C (av (fun tm h' nx'=>∃ m,m<os.length-j∧SpI X i os (wB X i (.sl (aj eO os) os.length 10 .any) s0) c bj h nx m tm h' nx') (al 0 (av (eP C (.seq (.ops kW) .ret) (bB [.tmp (K 4)] fun o h' nx'=>∃ cR,o=.ret cR∧jN 5 eC cR (((bH X i os).steps c).map (·.2))∧Ext h nx h' nx')) (bB [.tmp (K 4)] fun o h' nx'=>∃ cR,o=.ret cR∧jN 5 eC cR (((bH X i os).steps c).map (·.2))∧Ext h nx h' nx')))) pM ay h2 aH:=by
   intro ay h2 aH c6 us q0 q3 q6 q5 hus hA2 b2 bc2 e2 lt2
   subst hus
   simp[pM,q6]
   rw[aq (by omega) (by omega)]
   exact⟨os.length-(j+1),by omega,j+1,c6,rfl,by omega,by simp[q0],by simp[q3],by simp,by simp[q5],hA2,b2,bc2,e2,lt2⟩
  simp[kX,g0,g6,bj1,wB,uA]
  simp[xX,g0,g3,g6,bc1,eC,rO]
  refine(as3 S ho hc bz hd bj1 (by omega)).mono ?_
  rintro o h2 aH ⟨rfl,e2⟩
  have n2:=e2.n
  have b2:aa bj h2=some (.cells (wB X i (.sl (aj eO os) os.length 10 .any) s0) .fix):=by rw[e2.g bj (by omega)];exact bj1
  have bc2:aa nx h2=some (.cells (eC c) .fix):=by rw[e2.g nx lt1];exact bc1
  have hA2:=hA.ext e2
  have e12:=e1.trans e2
  cases kb:wZ os j c.1 with
  |false=>
   rw[kb] at hsj
   simp
   refine next _ _ _ c5 _ ?_ ?_ ?_ ?_ (by rw[dL,hsj];simp) hA2 b2 bc2 e12 (by omega)<;>simp[g0,g3,g5,g6]
  |true=>
   rw[kb,if_pos rfl] at hsj
   simp
   have s2:=kTSu aH
   simp[xY,g0,g3,g6,bc2,eC,rT,af]
   refine(awt S hc hco hs b2 (by omega)).mono ?_
   rintro out h3 bF ⟨⟨u,rfl,hu⟩,e3⟩
   have s3:=kTSu bF
   have n3:=e3.n
   simp[Kb,lenS,anA]
   have e4:=E0 h3 bF (.cells (eS u) .fix)
   have e34:=e3.trans e4
   have b4:aa bj (au bF (some (.cells (eS u) .fix)) h3)=some (.cells (wB X i (.sl (aj eO os) os.length 10 .any) s0) .fix):=by rw[e34.g bj (by omega)];exact b2
   have bc4:aa nx (au bF (some (.cells (eS u) .fix)) h3)=some (.cells (eC c) .fix):=by rw[e34.g nx (by omega)];exact bc2
   have bu4:aa bF (au bF (some (.cells (eS u) .fix)) h3)=some (.cells (eS u) .fix):=by simp
   have hA4:=hA2.ext e34
   have e14:=e12.trans e34
   generalize au bF (some (.cells (eS u) .fix)) h3=h4 at *
   cases ht:X.take (cm i os[j]) os[j] c.2 with
   |none=>
    rw[ht] at hsj
    simp
    simp[pN]
    refine next _ _ _ c5 _ ?_ ?_ ?_ ?_ (by rw[dL,hsj];simp) hA4 b4 bc4 e14 (by omega)<;>simp[g0,g3,g5,g6]
   |some t=>
    rw[ht] at hsj
    have:=hu t ht
    subst this
    simp
    simp[pN]
    have hp:0<2^j∧2^j≤65536:=⟨Nat.two_pow_pos j,kn (by omega)⟩
    simp[-appendTo,xZ,g0,g3,g5,g6,bc4,bu4,eC,lenS,Ei,rB]
    refine(aks S (by omega)).mono ?_
    rintro o h5 Ut ⟨rfl,rfl,rfl⟩
    have hus:((bH X i os).ib c (j+1)).map (·.2)=((bH X i os).ib c j).map (·.2) ++ [(c.1+2^j,u)]:=by rw[dL,hsj];simp
    generalize 2^j=p at hp hus ⊢
    have hw:cu .i64 ((c.1:Int)+(p:Int))=(c.1:Int)+(p:Int):=aq (by omega) (by omega)
    have s5:=kTSu bF.succ
    have s6:=kTSu bF.succ.succ
    have e5:=E0 h5 bF.succ (.cells (eC (c.1+p,u)) .fix)
    have b5:aa bj (au bF.succ (some (.cells (eC (c.1+p,u)) .fix)) h5)=some (.cells (wB X i (.sl (aj eO os) os.length 10 .any) s0) .fix):=by rw[e5.g bj (by omega)];exact b4
    have bc5:aa nx (au bF.succ (some (.cells (eC (c.1+p,u)) .fix)) h5)=some (.cells (eC c) .fix):=by rw[e5.g nx (by omega)];exact bc4
    have aRe:((bH X i os).ib c j).length≤j:=by
     have:=List.length_filterMap_le ((bH X i os).step c) (List.range j)
     rw[List.length_range] at this
     exact this
    obtain⟨c6,h6,nx6,ha,hA6,n6,k6,_⟩:=(hA4.ext e5).Fm ig (by omega) (by rw[List.length_map];omega) (c.1+p,u)
    have hz:=GD (c.1+p,u)
    have ec6:eC (c.1+p,u)=[I ((c.1:Int)+(p:Int)),I u.k,I u.n,.str 0 0,aC u.kids]:=rfl
    have acu:=(aZ u.kids).1
    have afu:∀ n H,aO n (aC u.kids) H=(aC u.kids,H):=dp _
    rw[ec6] at ha b5 bc5 e5 k6
    have q1:AV.beq (I c.1) (I c.1)=true:=beq_refl _ rfl
    have q2:=az3 u
    simp[eS] at q2
    simp[-appendTo,hw,eS,eC,g6,bc4,bu4,afu,ha,acu,q1,q2]
    refine next _ _ _ c6 _ ?_ ?_ ?_ ?_ hus.symm hA6 (by rw[k6 bj (by omega)];exact b5) (by rw[k6 nx (by omega)];exact bc5) ⟨by have:=e14.n;omega,fun b hb=>by rw[k6 b (by omega),e5.g b (by omega)];exact e14.g b hb⟩ (by omega)
    all_goals simp[g0,g3,g6]
 ·have qL:j=os.length:=by omega
  subst qL
  rw[show((bH X i os).ib c os.length)=(bH X i os).steps c from Rh (bH X i os) c] at hA
  have fr:=hA.GM ig 9998
  have fin:∀ (ay:T AV),aa (K 5) ay=some c5→eP C (.seq (.ops kW) .ret) (bB [.tmp (K 4)] fun o h' nx'=>∃ cR,o=.ret cR∧jN 5 eC cR (((bH X i os).steps c).map (·.2))∧Ext h nx h' nx') ay h1 bN:=by
   intro ay q5
   simp
   simp[kW,q5]
   exact⟨fr.1,by omega,fun b hb=>by rw[fr.2 b (by omega)];exact e1.g b hb⟩
  simp only[bp,bE] at fin
  rcases id hc with⟨UH,KY⟩|UH
  ·have:(os.length:Int)=0:=by rw[KY];rfl
   simp[kX,g0,g6,bj1,wB,UH,this]
   refine fin _ ?_
   simp[g5]
  ·simp[kX,g0,g6,bj1,wB,UH]
   refine fin _ ?_
   simp[g5]
end Ln
/-
 LN: whether a configuration is in a row: the reference. No condition.
-/
namespace Ln
open Go.Sx Go
theorem asV{α:Type}[DecidableEq α]{l:List α}{x:α}{j:Nat}(hj:j<l.length)(h:x∉l.take j)(hx:l[j]≠x):x∉l.take (j+1):=by
 rw[zqu hj,List.mem_append,List.mem_singleton]
 rintro(q|q)
 ·exact h q
 ·exact hx q.symm
variable{C:cD}{X:Kn}(S:Std C X)
def HsI(l:List (Cf St))(x:Cf St)(c0:AV)(h:T ag)(nx:Key)(m:Nat)(tm':T AV)(h':T ag)(nx':Key):Prop:=∃ j:Nat,m=l.length-j∧j≤l.length∧aa (K 0) tm'=some c0∧aa (K 3) tm'=some (.ptr nx 0)∧aa (K 5) tm'=some (I j)∧aa nx h'=some (.cells (eC x) .fix)∧Ext h nx h' nx'∧nx.toNat<nx'.toNat∧x∉l.take j
include S
theorem Sl{l:List (Cf St)}(hl:l.length≤10000)(hk:∀ y∈l,y.2.kids.length≤3){x:Cf St}(hx:x.2.kids.length≤3){c0:AV}{h:T ag}{nx:Key}(hR:Rd 5 c0 (aj eC l) l.length h nx) :
  aI C gD [c0,.agg (eC x)] h nx (fun o h' nx'=>o=.ret (.bool (decide (x∈l)))∧Ext h nx h' nx'):=by
 have rS:C.raw nJ=false:=S.nr (by decide)
 have s1:=kTSu nx
 have ac:=(aZ x.2.kids).1
 have ec:[I x.1,I x.2.k,I x.2.n,.str 0 0,aC x.2.kids]=eC x:=rfl
 have e0:=E0 h nx (.cells (eC x) .fix)
 refine S.J7.call ?_
 simp[IS]
 simp[Ht,Nw,uI]
 simp[Hu]
 refine W.dQ (n:=l.length) (HsI l x c0 h nx) ⟨0,by simp,by omega,by simp,by simp,by simp,by simp,e0,by omega,by simp⟩ ?_
 rintro m dn h1 bN ⟨j,rfl,hj,g0,g3,g5,bx,e1,lt1,iI⟩
 refine W.of ?_
 simp[Hv]
 have hR1:=hR.ext e1
 by_cases bz:j<l.length
 ·have uA:(j:Int)<l.length:=by omega
  have hr:=ig.rows l
  have tx:5≤l.length*5-j*5:=by omega
  have ecj:=ig.at bz
  have hkj:=hk _ (Dn bz)
  have hsm:=nA S hkj hx h1 bN
  have step:x∉l.take j→l[j]≠x→x∉l.take (j+1):=asV bz
  have yes:l[j]=x→x∈l:=fun e=>e ▸ Dn bz
  rcases hR1 with⟨e,KY,e2'⟩|⟨f,e⟩|⟨b,k,e,hb,Iq,_⟩
  ·omega
  ·have Pl:=g0
   rw[e] at Pl
   simp[kT,Pl,g5,uA]
   simp[zC,Pl,g3,g5,bz,hr,tx,ecj,bx,zD,uI,rS,GD]
   refine hsm.mono ?_
   rintro o h2 aH ⟨rfl,e2⟩
   have n2:=e2.n
   have bx2:aa nx h2=some (.cells (eC x) .fix):=by rw[e2.g nx lt1];exact bx
   by_cases hjx:l[j]=x
   ·simp[hjx]
    simp[zE]
    exact⟨yes hjx,e1.trans e2⟩
   ·simp[hjx]
    simp[zF,g5]
    rw[aq (by omega) (by omega)]
    exact⟨l.length-(j+1),by omega,j+1,rfl,by omega,by simp[g0,e],by simp[g3],by simp,bx2,e1.trans e2,by omega,step iI hjx⟩
  ·have Pl:=g0
   rw[e] at Pl
   simp[kT,Pl,g5,uA]
   simp[zC,Pl,g3,g5,bz,hr,tx,ecj,bx,zD,uI,rS,GD,hb]
   refine hsm.mono ?_
   rintro o h2 aH ⟨rfl,e2⟩
   have n2:=e2.n
   have bx2:aa nx h2=some (.cells (eC x) .fix):=by rw[e2.g nx lt1];exact bx
   by_cases hjx:l[j]=x
   ·simp[hjx]
    simp[zE]
    exact⟨yes hjx,e1.trans e2⟩
   ·simp[hjx]
    simp[zF,g5]
    rw[aq (by omega) (by omega)]
    exact⟨l.length-(j+1),by omega,j+1,rfl,by omega,by simp[g0,e],by simp[g3],by simp,bx2,e1.trans e2,by omega,step iI hjx⟩
 ·have qL:j=l.length:=by omega
  subst qL
  rw[List.take_length] at iI
  rcases hR1 with⟨e,KY,e2'⟩|⟨f,e⟩|⟨b,k,e,_⟩
  all_goals
   have Pl:=g0
   rw[e] at Pl
  ·have:(l.length:Int)=0:=by omega
   simp[kT,Pl,g5,this]
   simp[tQ]
   exact⟨iI,e1⟩
  ·simp[kT,Pl,g5]
   simp[tQ]
   exact⟨iI,e1⟩
  ·simp[kT,Pl,g5]
   simp[tQ]
   exact⟨iI,e1⟩
end Ln
/-
 LN: what can be reached: the reference, one round. No condition.
-/
namespace Ln
open Go.Sx Go
theorem _root_.Go.Sx.jN.rd{α:Type}{z:Nat}{enc:α→List AV}{c:AV}{l:List α}(g:jN z enc c l)(h:T ag)(nx:Key):Rd z c (aj enc l) l.length h nx:=by
 rcases g with⟨e,rfl⟩|e
 ·exact .inl ⟨e,rfl,rfl⟩
 ·exact .inr (.inl ⟨_,e⟩)
theorem VM(l:List (Cf St))(c:Cf St)(r:List (Cf St)):iQ l (c ::r)=if (oY l c).length>1024 then none else iQ (oY l c) r:=rfl
theorem as0(z:Cf St)(H:T ag):bY (aO 9999) (eC z) H=(eC z,H):=dj (ig.D3 _)
variable{C:cD}{X:Kn}(S:Std C X)
def RiI(l r:List (Cf St))(i:Nat)(c6:AV)(bj:Key)(ob:Option Key)(h:T ag)(nx:Key)(m:Nat)(tm':T AV)(h':T ag)(nx':Key):Prop:=∃ (k:Nat) (l':List (Cf St)) (c4:AV) (tc:Option Key),m=r.length-k∧k≤r.length∧aa (K 0) tm'=some (.ptr bj 0)∧aa (K 4) tm'=some c4∧aa (K 5) tm'=some (I i)∧aa (K 6) tm'=some c6∧aa (K 7) tm'=some (I k)∧
 Gr 5 c4 (aj eC l') l'.length h' nx' tc∧l'.length≤1024∧iQ l r=iQ l' (r.drop k)∧(∀ x∈l',x.2.kids.length≤3)∧tO h nx ob h' nx' tc
include S
theorem asz{l r:List (Cf St)}(hr:∀ x∈r,x.2.kids.length≤3)(Q1:r.length≤16){i:Nat}{c6:AV}(hc6:jN 5 eC c6 r){bj:Key}{ob:Option Key}{h:T ag}{nx:Key}{Q:dN}{m:Nat}{tm:T AV}{h1:T ag}{bN:Key}(A:RiI l r i c6 bj ob h nx m tm h1 bN)
  (oW:∀ tm' h' nx' tc,aa (K 2) tm'=some .nils→aa (K 3) tm'=some (.bool false)→iQ l r=none→tO h nx ob h' nx' tc→Q .ret tm' h' nx')
  (eK:∀ tm' h' nx' (l':List (Cf St)) c4 tc,aa (K 0) tm'=some (.ptr bj 0)→aa (K 4) tm'=some c4→aa (K 5) tm'=some (I i)→Gr 5 c4 (aj eC l') l'.length h' nx' tc→iQ l r=some l'→(∀ x∈l',x.2.kids.length≤3)→tO h nx ob h' nx' tc→Q .norm tm' h' nx') :
  W C (.loop qd) (al 2 Q) tm h1 bN:=by
 have rH:C.raw gD=true:=S.rw (by decide)
 refine W.dQ (RiI l r i c6 bj ob h nx) A ?_
 rintro m dn h2 aH ⟨k,l',c4,tc,rfl,hk,g0,g4,g5,g6,g7,G,hl,Ca,wQ,F⟩
 refine W.of ?_
 simp[qd]
 have hR6:Rd 5 c6 (aj eC r) r.length h2 aH:=hc6.rd _ _
 by_cases SA:k<r.length
 ·have hki:(k:Int)<r.length:=by omega
  have hx:=hr _ (Dn SA)
  rw[zqt SA,VM] at Ca
  simp[↓hR6.ln,qf,g6,g7,hki]
  simp[↓hR6.ix ig SA,yn,g4,g6,g7,rH]
  refine(Sl S (by omega) wQ hx G.rd).mono ?_
  rintro o h3 bF ⟨rfl,e3⟩
  generalize hxe:r[k]=x at *
  have F3:=F.trans (tO.pr e3 tc)
  have G3:=G.ext e3
  -- behind the atJ
  have next:∀ (ay:T AV) (h4:T ag) (DE:Key) (c5:AV) (o4:Option Key),aa (K 0) ay=some (.ptr bj 0)→aa (K 4) ay=some c5→aa (K 5) ay=some (I i)→aa (K 6) ay=some c6→aa (K 7) ay=some (I k)→Gr 5 c5 (aj eC (oY l' x)) (oY l' x).length h4 DE o4→tO h nx ob h4 DE o4→
    mX C (av (eP C (.cond (.t (K 52)) (.seq (.ops nU) .ret) .skip) (al 3 (av (eP C (.ops j0) (av (fun tm h' nx'=>∃ m,m<r.length-k∧RiI l r i c6 bj ob h nx m tm h' nx') (al 2 Q))) (av (fun tm h' nx'=>∃ m,m<r.length-k∧RiI l r i c6 bj ob h nx m tm h' nx') (al 2 Q))))) (al 3 (av (eP C (.ops j0) (av (fun tm h' nx'=>∃ m,m<r.length-k∧RiI l r i c6 bj ob h nx m tm h' nx') (al 2 Q))) (av (fun tm h' nx'=>∃ m,m<r.length-k∧RiI l r i c6 bj ob h nx m tm h' nx') (al 2 Q))))) lu ay h4 DE:=by
   intro ay h4 DE c5 o4 q0 q4 q5 q6 q7 G4 F4
   by_cases hlen:(oY l' x).length>1024
   ·have hli:(1024:Int)<(oY l' x).length:=by omega
    rw[if_pos hlen] at Ca
    simp[↓G4.rd.ln,lu,q4,hli]
    simp[nU]
    refine oW _ _ _ o4 ?_ ?_ Ca F4<;>simp
   ·have hli:¬ (1024:Int)<(oY l' x).length:=by omega
    rw[if_neg hlen] at Ca
    simp[↓G4.rd.ln,lu,q4,hli]
    simp[j0,q7]
    rw[aq (by omega) (by omega)]
    exact⟨r.length-(k+1),by omega,k+1,oY l' x,c5,o4,rfl,by omega,by simp[q0],by simp[q4],by simp[q5],by simp[q6],by simp,G4,by omega,Ca,U4 wQ hx,F4⟩
  by_cases hxm:x∈l'
  ·have ea:oY l' x=l':=by unfold oY;rw[if_pos hxm]
   rw[ea] at next
   simp[hxm]
   refine next _ _ _ c4 tc ?_ ?_ ?_ ?_ ?_ G3 F3<;>simp[g0,g4,g5,g6,g7]
  ·have ea:oY l' x=l' ++ [x]:=by unfold oY;rw[if_neg hxm]
   rw[ea] at next
   have s3:=kTSu bF
   have e4:=E0 h3 bF (.cells (eC x) .fix)
   obtain⟨c5,h5,Ut,o5,ha,G5,F5⟩:=(G3.ext e4).Fm ig (by decide) (by decide) (by omega) x
   have F45:=(F3.trans (tO.pr e4 tc)).trans F5
   simp[hxm]
   simp[-appendTo,↓(hc6.rd h3 bF).ix ig SA,hxe,yo,g4,g6,g7,ha,Nw,uI,zD,ayL,as0]
   refine next _ _ _ c5 o5 ?_ ?_ ?_ ?_ ?_ G5 F45<;>simp[g0,g4,g5,g6,g7]
 ·have hke:k=r.length:=by omega
  subst hke
  rw[List.drop_length] at Ca
  have Ca:iQ l r=some l':=Ca
  simp[↓hR6.ln,qf,g6,g7]
  refine eK _ _ _ l' c4 tc ?_ ?_ ?_ G Ca wQ F<;>simp[g0,g4,g5]
end Ln
/-
 LN: what can be reached: the reference, all rounds. No condition.
-/
namespace Ln
open Go.Sx Go
theorem Ah{i:Nat}{s:St}(h:dR i s):s.kids.length≤3:=Nat.le_trans h (akb i)
variable{C:cD}{X:Kn}(S:Std C X)
def RoI(X:Kn)(mi:Nat)(os:List Op)(cells:List AV)(c0:Cf St)(bj:Key)(h:T ag)(nx:Key)(m:Nat)(tm':T AV)(h':T ag)(nx':Key):Prop:=∃ (i:Nat) (l:List (Cf St)) (c4:AV) (tc:Option Key),m=1024-i∧i≤l.length∧aa (K 0) tm'=some (.ptr bj 0)∧aa (K 4) tm'=some c4∧aa (K 5) tm'=some (I i)∧
 Gr 5 c4 (aj eC l) l.length h' nx' tc∧Kept (bH X mi os) i l∧l[0]?=some c0∧bfs (bH X mi os) (1025-i) i l=bfs (bH X mi os) 1025 0 [c0]∧(∀ x∈l,dR mi x.2)∧tO h nx none h' nx' tc
include S
theorem IB{i:Nat}(hi:i<3){os:List Op}(nq:jR i os=0){c:Cf St}(hs:dR i c.2):∀ x∈(bH X i os).steps c,dR i x.2.2:=by
 intro x hx
 obtain⟨k,c'⟩:=x
 obtain⟨h1,_,_,h4⟩:=IC hx
 have hk:k<os.length:=h1
 have h4:X.take (cm i (os.getD k default)) (os.getD k default) c.2=some c'.2:=h4
 rw[nC hk] at h4
 have hco:=Sr hi nq (Pe hk)
 have:=S.ok.take (cm i os[k]) os[k] c.2 c'.2 (by rw[hco.tN];exact hs) hco.ar h4
 rw[hco.tN] at this
 exact this
theorem aqp{i:Nat}(hi:i<3){os:List Op}(nq:jR i os=0)(ho:os.length≤16){cO:AV}(hc:jN 10 eO cO os){s0:St}{c0:Cf St}{h:T ag}{nx bj:Key}(hb:aa bj h=some (.cells (wB X i cO s0) .fix))(Iq:bj.toNat<nx.toNat){Q:dN}{m:Nat}{tm:T AV}{h1:T ag}{bN:Key}(A:RoI X i os (wB X i cO s0) c0 bj h nx m tm h1 bN)
  (oW:∀ tm' h' nx' tc,aa (K 2) tm'=some .nils→aa (K 3) tm'=some (.bool false)→bfs (bH X i os) 1025 0 [c0]=none→tO h nx none h' nx' tc→Q .ret tm' h' nx')
  (eK:∀ tm' h' nx' (l:List (Cf St)) c4 tc,aa (K 4) tm'=some c4→Gr 5 c4 (aj eC l) l.length h' nx' tc→bfs (bH X i os) 1025 0 [c0]=some l→Kept (bH X i os) l.length l→l[0]?=some c0→(∀ x∈l,dR i x.2)→tO h nx none h' nx' tc→Q .norm tm' h' nx') :
  W C (.loop pG) (al 0 Q) tm h1 bN:=by
 have rT:C.raw eZ=false:=S.nr (by decide)
 have hSo:=anf X i os
 have hn:(bH X i os).n≤16:=ho
 have h16:2^(bH X i os).n≤65536:=kn hn
 refine W.dQ (RoI X i os (wB X i cO s0) c0 bj h nx) A ?_
 rintro m dn h2 aH ⟨j,l,c4,tc,rfl,hj,g0,g4,g5,G,kp,h0,uq,wQ,F⟩
 refine W.of ?_
 simp[pG]
 have hR:=G.rd
 have hl:=kp.len
 have nF:=F.n
 by_cases bz:j<l.length
 ·have uA:(j:Int)<l.length:=by omega
  have hcj:l[j]?=some l[j]:=Pe bz
  have KJ:=Dn bz
  have bO:=kp.lt _ KJ
  have Uu:=wQ _ KJ
  rw[show 1025-j=(1024-j)+1 by omega,asy hcj] at uq
  simp[↓hR.ln,pH,g4,g5,uA]
  simp[↓hR.ix ig bz,xM,g0,g4,g5,rT,GD]
  have b2:aa bj h2=some (.cells (wB X i cO s0) .fix):=by rw[F.g bj Iq (by simp)];exact hb
  refine(U3 S hi nq ho hc (by omega) Uu b2 (by omega)).mono ?_
  rintro o h3 bF ⟨cR,rfl,hcR,e3⟩
  simp
  simp[xN]
  have dL:=IB S hi nq Uu
  have hrk:∀ x∈((bH X i os).steps l[j]).map (·.2),dR i x.2:=by
   intro x hx
   obtain⟨y,hy,rfl⟩:=Fa.1 hx
   exact dL y hy
  have Q1:(((bH X i os).steps l[j]).map (·.2)).length≤16:=by
   rw[List.length_map]
   have h1:=List.length_filterMap_le ((bH X i os).step l[j]) (List.range (bH X i os).n)
   rw[List.length_range] at h1
   exact Nat.le_trans h1 hn
  have G3:=G.ext e3
  have F3:=F.trans (tO.pr e3 tc)
  have knx:=fun l' h=>kp.next hSo hcj (l':=l') h
  have r0:iQ l (((bH X i os).steps l[j]).map (·.2))=iQ l ((((bH X i os).steps l[j]).map (·.2)).drop 0):=by simp
  generalize hr:((bH X i os).steps l[j]).map (·.2)=r at *
  refine asz S (l:=l) (r:=r) (fun x hx=>Ah (hrk x hx)) Q1 (i:=j) hcR (bj:=bj) (ob:=tc) (h:=h3) (nx:=bF) (m:=r.length) ⟨0,l,c4,tc,by simp,by omega,by simp[g0],by simp[g4],by simp[g5],by simp,by simp,G3,hl,r0,fun x hx=>Ah (wQ x hx),tO.refl _ _ _⟩ ?_ ?_
  ·intro tm' h' nx' o' q2 q3 hn1 F4
   rw[hn1] at uq
   simp
   exact oW _ _ _ o' q2 q3 uq.symm (F3.trans F4)
  ·intro tm' h' nx' l' c5 o5 q0 q4 q5 G5 Ca hk5 F5
   rw[Ca] at uq
   obtain⟨⟨t,et⟩,_,_,_,hor⟩:=Cb Ca
   simp
   simp[vX,q5]
   rw[aq (by omega) (by omega)]
   refine⟨1024-(j+1),by omega,j+1,l',c5,o5,rfl,by rw[et,zqf];omega,by simp[q0],by simp[q4],by simp,G5,knx l' Ca,by rw[et,List.getElem?_append_left (by omega)];exact h0,?_,?_,F3.trans F5⟩
   ·rw[show 1025-(j+1)=1024-j by omega];exact uq
   ·intro x hx
    rcases hor x hx with hx|hx
    ·exact wQ x hx
    ·exact hrk x hx
 ·have qL:j=l.length:=by omega
  subst qL
  rw[av4 (by omega)] at uq
  simp[↓hR.ln,pH,g4,g5]
  refine eK _ _ _ l c4 tc ?_ G uq.symm kp h0 wQ F
  simp[g4]
end Ln
/-
 LN: parts of rows that are read; rows put together. No condition.
-/
namespace Go.Sx
open Go
section
variable{z:Nat}{c:AV}{α:Type}{enc:α→List AV}{us:List α}{h:T ag}{nx:Key}
theorem Rd.ixS(F:Flat z enc)(g:Rd z c (aj enc us) us.length h nx){i:Nat}(hi:i<us.length){C:cD}{Q:dN}{ds:List Key}{ak:List (Nat×Key×ag)}{L:List aM}{tm:T AV}{n2 k1 k2 d1 d2:Key}{a b:Nat}{gu:Option (Key×Bool)}(h1:aa k1 tm=some c)(h2:aa k2 tm=some (I i))
  (hg:cx gu tm=some true) (hg2:cx gu (au d1 (some (Ll z i c)) tm)=some true) :
  wpS C Q ⟨ds,[]⟩ (.L a ⟨some d1,.indexL z (.t k1) (.t k2),gu⟩ ::.L b ⟨some d2,.load true z (.t d1),gu⟩ ::L) ak tm h n2=wpS C Q ⟨ds,[]⟩ L ak (au d2 (some (.agg (enc us[i]))) (au d1 (some (Ll z i c)) tm)) h n2:=by
 have hr:=F.rows us
 have he:=F.at hi
 have hl:=F.len us[i]
 have tx:z≤us.length*z-i*z:=by
  rw[← Nat.sub_mul]
  exact Nat.le_mul_of_pos_left z (by omega)
 have tk:List.take z (enc us[i])=enc us[i]:=Pu (by omega)
 rcases g with⟨_,_,e⟩|⟨f,rfl⟩|⟨b,k,rfl,hb,_,_⟩
 ·omega
 ·simp only[Ll] at hg2
  simp[h1,h2,hi,hr,tx,he,hl,tk,Ll,hg]
  rw[he] at hg2
  rw[hg2]
  simp[hl,tk]
 ·simp only[Ll] at hg2
  simp[h1,h2,hi,hr,tx,he,hl,tk,Ll,hb,hg]
  rw[Nat.zero_add] at hg2
  rw[hg2]
  simp[hb,hr,tx,he]
def loV(z k:Nat):AV→AV
 |.slice b off _ _=>.slice b off k z
 |.sl cs len _ fl=>.sl (List.take (k*z) cs) k z (bif decide (k=len) then fl else .any)
 |c=>c
def hiV(z k:Nat):AV→AV
 |.slice b off len _=>.slice b (off+k*z) (len-k) z
 |.sl cs len _ fl=>.sl (List.take ((len-k)*z) (List.drop (k*z) cs)) (len-k) z fl
 |c=>c
theorem Rd.aEf(F:Flat z enc)(g:Rd z c (aj enc us) us.length h nx){k:Nat}(hk:k≤us.length){C:cD}{Q:dN}{L:List J}{tm:T AV}{n2 k1 k2 k3 d1 d2:Key}{s c':AV}{h':T ag}{n':Key}(ha:appendTo z s (aj enc (us.take k)) k h n2=.val c' h' n')
  (h1:aa k1 tm=some c) (h2:aa k2 tm=some (I k)) (h3:aa k3 (au d1 (some (loV z k c)) tm)=some s) :
  mX C Q (⟨some d1,.sliceL z (.t k1) none (some (.t k2)),none⟩ ::⟨some d2,.append z (.t k3) (.t d1),none⟩ ::L) tm h n2=mX C Q L (au d2 (some c') (au d1 (some (loV z k c)) tm)) h' n':=by
 have hr:=F.rows us
 have Ny:=F.take us k
 have hkz:k*z≤us.length*z:=Nat.mul_le_mul_right z hk
 have hz:bY (aO 9999) (aj enc (us.take k)) h=(aj enc (us.take k),h):=dj (F.Gp _)
 rcases g with⟨rfl,e1,e2⟩|⟨f,rfl⟩|⟨b,kk,rfl,hb,_,_⟩
 ·have e0:us=[]:=zqr e2
  subst e0
  have:k=0:=by simpa using hk
  subst this
  simp only[loV] at h3 ⊢
  simp[-appendTo] at ha
  simp[-appendTo,h1,h2,h3,ha]
 ·simp only[loV] at h3 ⊢
  rw[Ny] at h3 ⊢
  simp[-appendTo,h1,h2,hk,hr,hkz,Ny,h3,ha]
 ·simp only[loV] at h3 ⊢
  simp[-appendTo,h1,h2,hk,hb,hr,hkz,Ny,h3,hz,ha]
theorem Rd.aEg(F:Flat z enc)(g:Rd z c (aj enc us) us.length h nx){k:Nat}(hk:k≤us.length){C:cD}{Q:dN}{L:List J}{tm:T AV}{n2 k1 k2 k3 d1 d2:Key}{s c':AV}{h':T ag}{n':Key}(ha:appendTo z s (aj enc (us.drop k)) (us.length-k) h n2=.val c' h' n')
  (h1:aa k1 tm=some c) (h2:aa k2 tm=some (I k)) (h3:aa k3 (au d1 (some (hiV z k c)) tm)=some s) :
  mX C Q (⟨some d1,.sliceL z (.t k1) (some (.t k2)) none,none⟩ ::⟨some d2,.append z (.t k3) (.t d1),none⟩ ::L) tm h n2=mX C Q L (au d2 (some c') (au d1 (some (hiV z k c)) tm)) h' n':=by
 have hr:=F.rows us
 have hdr:=F.drop us k
 have hrd:=F.rows (us.drop k)
 rw[List.length_drop] at hrd
 have hkz:k*z≤us.length*z:=Nat.mul_le_mul_right z hk
 have axU:(us.length-k)*z=us.length*z-k*z:=Nat.sub_mul _ _ _
 have Ny:List.take ((us.length-k)*z) (aj enc (us.drop k))=aj enc (us.drop k):=Pu (by omega)
 have hz:bY (aO 9999) (aj enc (us.drop k)) h=(aj enc (us.drop k),h):=dj (F.Gp _)
 rcases g with⟨rfl,e1,e2⟩|⟨f,rfl⟩|⟨b,kk,rfl,hb,_,_⟩
 ·have e0:us=[]:=zqr e2
  subst e0
  have:k=0:=by simpa using hk
  subst this
  simp only[hiV] at h3 ⊢
  simp[-appendTo] at ha
  simp[-appendTo,h1,h2,h3,ha]
 ·simp only[hiV] at h3 ⊢
  rw[hdr,Ny] at h3 ⊢
  have bO:¬ us.length<k:=by omega
  simp[-appendTo,h1,h2,hk,hr,hrd,hdr,Ny,h3,ha]
 ·simp only[hiV] at h3 ⊢
  rw[Nat.zero_add] at h3 ⊢
  simp[-appendTo,h1,h2,hk,hb,hr,hrd,hdr,Ny,h3,hz,ha]
end
theorem asZ{z k:Nat}{new:List AV}{h:T ag}{nx:Key}(hn:new.length=k*z)(hk:k≤1048576):∃ c' h' nx' tc,appendTo z .nils new k h nx=.val c' h' nx'∧Gr z c' new k h' nx' tc∧tO h nx none h' nx' tc:=by
 have s1:=kTSu nx
 by_cases h0:k=0
 ·subst h0
  have:new=[]:=zqr (by omega)
  subst this
  exact⟨.nils,h,nx,none,by simp,Gr.nil _ _ _,tO.refl _ _ _⟩
 ·exact⟨.slice nx 0 k z,au nx (some (.cells new .part)) h,nx.succ,some nx,by simp[h0,hk],.inr (.inl ⟨nx,.part,rfl,rfl,by simp,by omega,hn,.inl rfl⟩),by omega,fun b hb _=>ax hb,.inr ⟨nx,rfl,fh _⟩⟩
theorem Gr.add0{z:Nat}{c:AV}{l:List AV}{len:Nat}{h:T ag}{nx:Key}{ob:Option Key}(g:Gr z c l len h nx ob)(hl:len≤1048576):∃ h',appendTo z c [] 0 h nx=.val c h' nx∧∀ b:Key,aa b h'=aa b h:=by
 rcases g with⟨rfl,rfl,rfl,rfl⟩|⟨b,k,rfl,rfl,h2,h3,h4,hk⟩|⟨t,rfl,rfl,h2,h3⟩
 ·exact⟨h,by simp,fun _=>rfl⟩
 ·rcases hk with rfl|rfl
  ·exact⟨h,by simp[h2,hl],fun _=>rfl⟩
  ·refine⟨au b (some (.cells l .fix)) h,by simp[h2,hl,h4],fun x=>?_⟩
   by_cases e:x=b
   ·subst e;simp[h2]
   ·rw[bG _ _ _ _ e]
 ·exact⟨h,by simp,fun _=>rfl⟩
theorem Gr.akt{z m:Nat}{c:AV}{l new:List AV}{len:Nat}{h:T ag}{nx:Key}{ob:Option Key}(g:Gr z c l len h nx ob)(hw:Cd z=false)(hz:0<z)(hs:∀ x∈l,Sg x)(hn:new.length=m*z)(hl:len+m≤1048576)(hc:new.all AV.aN=true) :
  ∃ c' h' nx' tc,appendTo z c new m h nx=.val c' h' nx'∧Gr z c' (l++new) (len+m) h' nx' tc∧tO h nx ob h' nx' tc:=by
 by_cases hm:m=0
 ·subst hm
  have:new=[]:=zqr (by omega)
  subst this
  obtain⟨h',e,hk⟩:=g.add0 (by omega)
  exact⟨c,h',nx,ob,e,by rw[List.append_nil];exact g.ew (fh _) (fun b _=>hk b),fh _,fun b _ _=>hk b,.inl rfl⟩
 ·exact g.add hw hz (by omega) hs hn hl hc
end Go.Sx
/-
 LN: configurations in order: the reference. No condition.
-/
namespace Ln
open Go.Sx Go
variable{C:cD}{X:Kn}(S:Std C X)
def LtI(out:List (Cf St))(x:Cf St)(j:Nat)(c4 c8:AV)(h:T ag)(nx:Key)(m:Nat)(tm':T AV)(h':T ag)(nx':Key):Prop:=∃ k:Nat,m=k∧k≤out.length∧aa (K 4) tm'=some c4∧aa (K 8) tm'=some c8∧aa (K 9) tm'=some (I j)∧aa (K 10) tm'=some (I k)∧Ext h nx h' nx'∧∀ q (hq:q<out.length),k≤q→Ma x out[q]
include S
theorem aqz{l out:List (Cf St)}(ho:out.length≤1024)(wQ:∀ y∈out,y.2.kids.length≤3){j:Nat}(hj:j<l.length)(hx:l[j].2.kids.length≤3){c4 c8:AV}{h:T ag}{nx:Key}(R4:Rd 5 c4 (aj eC l) l.length h nx)(R8:Rd 5 c8 (aj eC out) out.length h nx){Q:dN}{m:Nat}{tm:T AV}{h1:T ag}{bN:Key}(A:LtI out l[j] j c4 c8 h nx m tm h1 bN)
  (eK:∀ tm' h' nx' (k:Nat),k≤out.length→aa (K 4) tm'=some c4→aa (K 8) tm'=some c8→aa (K 9) tm'=some (I j)→aa (K 10) tm'=some (I k)→Ext h nx h' nx'→(∀ q (hq:q<out.length),k≤q→Ma l[j] out[q])→(k=0∨∃ hq:k-1<out.length,¬ Ma l[j] out[k-1])→Q .norm tm' h' nx') :
  W C (.loop qG) (al 6 Q) tm h1 bN:=by
 have rL:C.raw iU=false:=S.nr (by decide)
 refine W.dQ (LtI out l[j] j c4 c8 h nx) A ?_
 rintro m dn h2 aH ⟨k,rfl,hk,g4,g8,g9,DQ,e2,bO⟩
 refine W.of ?_
 simp[qG]
 cases m with
 |zero=>
  simp[oH,DQ]
  refine eK _ _ _ 0 (by omega) ?_ ?_ ?_ ?_ e2 bO (.inl rfl)<;>simp[g4,g8,g9,DQ]
 |succ k=>
  have SA:k<out.length:=by omega
  have xR:(0:Int)<(k:Int)+1:=by omega
  have hw:cu .i64 (k:Int)=k:=aq (by omega) (by omega)
  have R4':=R4.ext e2
  have R8':=R8.ext e2
  have hl:=ant S hx (wQ _ (Dn SA)) h2 aH
  simp[↓R4'.ixS ig hj,↓R8'.ixS ig SA,oH,g4,g8,g9,DQ,xR,hw,rL,GD]
  refine hl.mono ?_
  rintro o h3 bF ⟨⟨v,rfl,hv⟩,e3⟩
  cases v with
  |false=>
   simp
   refine eK _ _ _ (k+1) hk ?_ ?_ ?_ ?_ (e2.trans e3) bO (.inr ⟨by omega,fun q=>?_⟩)
   ·simp[g4]
   ·simp[g8]
   ·simp[g9]
   ·simp[DQ]
   ·have:=hv.2 q
    cases this
  |true=>
   simp
   simp[wI,DQ,hw]
   refine⟨k,by omega,k,rfl,by omega,by simp[g4],by simp[g8],by simp[g9],by simp,e2.trans e3,fun q hq hkq=>?_⟩
   by_cases e:q=k
   ·subst e;exact hv.1 rfl
   ·exact bO q hq (by omega)
end Ln
/-
 LN: what can be reached, in order: the reference. No condition.
-/
namespace Ln
open Go.Sx Go
theorem _root_.Go.Sx.tO.cut{h h' h2:T ag}{nx nx' n2:Key}{o8 o6:Option Key}(a:tO h nx none h' nx' o8)(b:tO h' nx' none h2 n2 o6):tO h nx none h2 n2 o6:=by
 have n1:=a.n
 refine⟨Nat.le_trans a.n b.n,fun x hx _=>?_,?_⟩
 ·rw[b.g x (by omega) (by simp)];exact a.g x hx (by simp)
 ·rcases b.o with e|⟨y,e,hy⟩
  ·exact .inl e
  ·exact .inr ⟨y,e,by omega⟩
theorem _root_.Go.Sx.Rd.frm{z:Nat}{c:AV}{l:List AV}{len:Nat}{h h':T ag}{nx nx':Key}{ob:Option Key}(g:Rd z c l len h nx)(e:tO h nx none h' nx' ob):Rd z c l len h' nx':=
 g.ext ⟨e.n,fun b hb=>e.g b hb (by simp)⟩
theorem _root_.Go.Sx.Gr.GM{z:Nat}{c:AV}{α:Type}{enc:α→List AV}(F:Flat z enc){us:List α}{h:T ag}{nx:Key}{ob:Option Key}(g:Gr z c (aj enc us) us.length h nx ob)(n:Nat):jN z enc (aO (n+1) c h).1 us∧∀ b:Key,ob≠some b→aa b (aO (n+1) c h).2=aa b h:=by
 rcases g with⟨rfl,e1,e2,_⟩|⟨b,k,rfl,rfl,hb,_,hl,hk⟩|⟨t,rfl,rfl,_⟩
 ·exact⟨.inl ⟨rfl,zqr e2⟩,fun _ _=>rfl⟩
 ·rcases hk with rfl|rfl
  ·rw[Gn hb hl (F.Gp us)]
   exact⟨.inr rfl,fun x hx=>bG _ _ _ _ (fun e=>hx (by rw[e]))⟩
  ·rw[Dx hb hl (F.Gp us)]
   exact⟨.inr rfl,fun x hx=>bG _ _ _ _ (fun e=>hx (by rw[e]))⟩
 ·exact⟨.inr rfl,fun _ _=>rfl⟩
theorem PS{α:Type}{l:List α}{j:Nat}(hj:j<l.length)(x:α):x∈l.take (j+1)↔x=l[j]∨x∈l.take j:=by
 rw[zqu hj,List.mem_append,List.mem_singleton]
 exact or_comm
variable{C:cD}{X:Kn}(S:Std C X)
def SoI(l:List (Cf St))(c4:AV)(h:T ag)(nx:Key)(m:Nat)(tm':T AV)(h':T ag)(nx':Key):Prop:=∃ (j:Nat) (out:List (Cf St)) (c8:AV) (o8:Option Key),m=l.length-j∧j≤l.length∧aa (K 4) tm'=some c4∧aa (K 8) tm'=some c8∧aa (K 9) tm'=some (I j)∧Gr 5 c8 (aj eC out) out.length h' nx' o8∧out.length=j∧out.Pairwise Ma∧(∀ x,x∈out↔x∈l.take j)∧tO h nx none h' nx' o8
include S
theorem aqy{l:List (Cf St)}(hl:l.length≤1024)(hn:l.Nodup)(wQ:∀ y∈l,y.2.kids.length≤3){c4:AV}{h:T ag}{nx:Key}(R4:Rd 5 c4 (aj eC l) l.length h nx){Q:dN}{m:Nat}{tm:T AV}{h1:T ag}{bN:Key}(A:SoI l c4 h nx m tm h1 bN)
  (eK:∀ tm' h' nx' (out:List (Cf St)) c8 o8,aa (K 8) tm'=some c8→Gr 5 c8 (aj eC out) out.length h' nx' o8→out.Pairwise Ma→(∀ x,x∈out↔x∈l)→tO h nx none h' nx' o8→Q .norm tm' h' nx') :
  W C (.loop pL) (al 4 Q) tm h1 bN:=by
 refine W.dQ (SoI l c4 h nx) A ?_
 rintro m dn h2 aH ⟨j,out,c8,o8,rfl,hj,g4,g8,g9,G8,hol,hpw,ej,F2⟩
 refine W.of ?_
 simp[pL]
 have R4':=R4.frm F2
 by_cases bz:j<l.length
 ·have uA:(j:Int)<l.length:=by omega
  have hxl:=wQ _ (Dn bz)
  have aIh:∀ y∈out,y.2.kids.length≤3:=fun y hy=>wQ y (List.mem_of_mem_take ((ej y).1 hy))
  simp[↓R4'.ln,nK,g4,g9,uA]
  simp[↓G8.rd.ln,we,g8]
  refine aqz S (l:=l) (out:=out) (by omega) aIh bz hxl R4' G8.rd (m:=out.length) ⟨out.length,rfl,fh _,by simp[g4],by simp[g8],by simp[g9],by simp,Ext.refl _ _,fun q hq hle=>by omega⟩ ?_
  intro tm' h3 bF k hk q4 q8 q9 Sk e3 bO QJ
  have hxo:l[j]∉out:=by
   rw[ej]
   intro hc
   obtain⟨i,hi,e⟩:=List.getElem_of_mem hc
   rw[List.getElem_take] at e
   rw[zqy] at hi
   have:=(List.getElem_inj hn).1 e
   omega
  have aIi:=azZ hk hpw hxo bO QJ
  have aEd:∀ x,x∈out.take k++l[j] ::out.drop k↔x∈l.take (j+1):=fun x=>by rw[awm,PS bz,ej]
  have aIj:=R4'.ext e3
  have G83:=G8.ext e3
  have F3:=F2.trans (tO.pr e3 o8)
  have hr8:=ig.rows (out.take k)
  rw[zqy,Nat.min_eq_left hk] at hr8
  obtain⟨c11,h4,DE,o11,ha1,G11,F4⟩:=asZ (h:=h3) (nx:=bF) hr8 (by omega)
  have hlk:(out.take k).length=k:=by rw[zqy,Nat.min_eq_left hk]
  have s4:=kTSu DE
  have e5:=E0 h4 DE (.cells (eC l[j]) .fix)
  have R44:=aIj.frm F4
  have aIl:Gr 5 c11 (aj eC (out.take k)) (out.take k).length (au DE (some (.cells (eC l[j]) .fix)) h4) DE.succ o11:=by rw[hlk];exact G11.ext e5
  have F5:=F4.trans (tO.pr e5 o11)
  obtain⟨c12,h6,nx6,o12,ha2,G12,F6'⟩:=aIl.Fm ig (by decide) (by decide) (by rw[hlk];omega) l[j]
  have F6:=F5.trans F6'
  have R86:=G83.rd.frm F6
  have hrd:=ig.rows (out.drop k)
  rw[List.length_drop] at hrd
  have aIm:(out.take k ++ [l[j]]).length+(out.length-k)≤1048576:=by rw[zqf,hlk];simp;omega
  obtain⟨c13,h7,nx7,o13,ha3,G13,F7'⟩:=G12.akt (by decide) (by decide) (ig.Gp _) hrd aIm (ig.awn _)
  have F7:=F3.cut (F6.trans F7')
  have er:aj eC (out.take k ++ [l[j]])++aj eC (out.drop k)=aj eC (out.take k++l[j] ::out.drop k):=by rw[← kU];simp
  have el:(out.take k ++ [l[j]]).length+(out.length-k)=(out.take k++l[j] ::out.drop k).length:=by simp;omega
  rw[er,el] at G13
  simp
  simp[wg]
  simp[-appendTo,↓G83.rd.aEf ig hk ha1,wh,q8,Sk]
  simp[-appendTo,↓R44.ix ig bz,wi,q4,q9,ha2,Nw,uI,zD,ayL,as0]
  simp[-appendTo,↓R86.aEg ig hk ha3,wj,q8,Sk]
  simp[wk,q9]
  rw[aq (by omega) (by omega)]
  have hll:(out.take k++l[j] ::out.drop k).length=j+1:=by simp;omega
  exact⟨l.length-(j+1),by omega,j+1,_,c13,o13,rfl,by omega,by simp[q4],by simp,by simp,G13,hll,aIi,aEd,F7⟩
 ·have qL:j=l.length:=by omega
  subst qL
  rw[List.take_length] at ej
  simp[↓R4'.ln,nK,g4,g9]
  refine eK _ _ _ out c8 o8 ?_ G8 hpw ej F2
  simp[g8]
end Ln
/-
 LN: what can be reached: the reference, all of it. No condition.
-/
namespace Ln
open Go.Sx Go
def aAH(X:Kn)(i:Nat)(os:List Op)(s0:St)(h:T ag)(nx:Key)(o:Out)(h':T ag)(nx':Key):Prop:=Ext h nx h' nx'∧((bfs (bH X i os) 1025 0 [(0,s0)]=none∧o=.ret (.tuple [.nils,.bool false]))∨
 ∃ (l out:List (Cf St)) (cR:AV),bfs (bH X i os) 1025 0 [(0,s0)]=some l∧Kept (bH X i os) l.length l∧l[0]?=some (0,s0)∧(∀ x∈l,dR i x.2)∧out.Pairwise Ma∧(∀ x,x∈out↔x∈l)∧jN 5 eC cR out∧o=.ret (.tuple [cR,.bool true]))
variable{C:cD}{X:Kn}(S:Std C X)
include S
theorem arZ{i:Nat}(hi:i<3){os:List Op}(nq:jR i os=0)(ho:os.length≤16){cO:AV}(hc:jN 10 eO cO os){s0:St}(hs:dR i s0){h:T ag}{nx bj:Key}(hb:aa bj h=some (.cells (wB X i cO s0) .fix))(Iq:bj.toNat<nx.toNat) :
  aI C jq [.ptr bj 0] h nx (aAH X i os s0 h nx):=by
 have s1:=kTSu nx
 refine S.Ar.call ?_
 simp[w8]
 simp[x9]
 have ac:=(aZ s0.kids).1
 simp[ya,hb,wB,ac]
 have ec:[I 0,I s0.k,I s0.n,.str 0 0,aC s0.kids]=eC (0,s0):=rfl
 rw[ec]
 simp[yb]
 have e1:=E0 h nx (.cells (eC (0,s0)) .fix)
 have G1:Gr 5 (.slice nx 0 1 5) (aj eC [(0,s0)]) [((0,s0):Cf St)].length (au nx (some (.cells (eC (0,s0)) .fix)) h) nx.succ (some nx):=.inr (.inl ⟨nx,.fix,rfl,rfl,by simp[pK],by omega,rfl,.inr rfl⟩)
 have F1:tO h nx none (au nx (some (.cells (eC (0,s0)) .fix)) h) nx.succ (some nx):=⟨by omega,fun b hb _=>e1.g b hb,.inr ⟨nx,rfl,fh _⟩⟩
 refine aqp S hi nq ho hc (s0:=s0) (c0:=(0,s0)) (h:=h) (nx:=nx) (bj:=bj) hb Iq (m:=1024) ⟨0,[(0,s0)],.slice nx 0 1 5,some nx,by simp,by simp,by simp,by simp,by simp,G1,Kept.start (by omega),rfl,rfl,by simpa using hs,F1⟩ ?_ ?_
 ·intro tm' h' nx' tc q2 q3 uq F
  simp[q2,q3]
  exact⟨⟨F.n,fun b hb=>F.g b hb (by simp)⟩,.inl ⟨uq,rfl⟩⟩
 ·intro tm' h' nx' l c4 tc q4 G uq kp h0 wQ F
  simp
  simp[wq]
  simp[wu]
  refine aqy S kp.len kp.nodup (fun y hy=>Ah (wQ y hy)) G.rd (m:=l.length) ⟨0,[],.nils,none,by simp,by omega,by simp[q4],by simp,by simp,Gr.nil _ _ _,rfl,by simp,by simp,tO.refl _ _ _⟩ ?_
  intro ay h2 aH out c8 o8 q8 G8 hpw ej F2
  have fr:=G8.GM ig 9998
  have FF:=F2.n
  have FN:=F.n
  simp
  simp[wv,q8]
  refine⟨⟨by omega,fun b hb=>?_⟩,.inr ⟨l,out,_,uq,kp,h0,wQ,hpw,ej,fr.1,rfl⟩⟩
  have bU:o8≠some b:=F2.ne (by omega) (by simp)
  rw[fr.2 b bU,F2.g b (by omega) (by simp),F.g b hb (by simp)]
end Ln
/-
 LN: the first way to an end: the reference, one call. No condition.
-/
namespace Ln
open Go.Sx Go
theorem _root_.Go.Sx.Rd.app{z:Nat}{c:AV}{α:Type}{enc:α→List AV}{us:List α}{h:T ag}{nx:Key}(F:Flat z enc)(g:Rd z c (aj enc us) us.length h nx){C:cD}{Q:dN}{L:List J}{tm:T AV}{n2 k1 k3 d:Key}{s c':AV}{h':T ag}{n':Key}(ha:appendTo z s (aj enc us) us.length h n2=.val c' h' n')
  (h1:aa k1 tm=some c) (h3:aa k3 tm=some s):mX C Q (⟨some d,.append z (.t k3) (.t k1),none⟩ ::L) tm h n2=mX C Q L (au d (some c') tm) h' n':=by
 have hr:=F.rows us
 have Ny:List.take (us.length*z) (aj enc us)=aj enc us:=Pu (by omega)
 have hz:bY (aO 9999) (aj enc us) h=(aj enc us,h):=dj (F.Gp _)
 rcases g with⟨rfl,e1,e2⟩|⟨f,rfl⟩|⟨b,kk,rfl,hb,_,_⟩
 ·have e0:us=[]:=zqr e2
  subst e0
  simp[-appendTo] at ha
  simp[-appendTo,h1,h3,ha]
 ·simp[-appendTo,h1,h3,ha]
 ·simp[-appendTo,h1,h3,hb,hr,Ny,hz,ha]
theorem _root_.Go.Sx.Gr.own{z:Nat}{c:AV}{l:List AV}{len:Nat}{h:T ag}{nx:Key}{ob:Option Key}(g:Gr z c l len h nx ob){b:Key}{o n z':Nat}(e:c=.slice b o n z'):ob=some b:=by
 rcases g with⟨rfl,_⟩|⟨b',k,rfl,rfl,_⟩|⟨t,rfl,rfl,_⟩
 ·cases e
 ·cases e;rfl
 ·cases e
variable{C:cD}{X:Kn}(S:Std C X)
include S
end Ln
/-
 LN: Find: the reference. No condition.
-/
namespace Ln
open Go.Sx Go
theorem _root_.Go.Sx.azV{n:Nat}{b:Key}{len sz:Nat}{l:List AV}{H:T ag}(hg:aa b H=some (.cells l .ro))(hl:l.length=len*sz)(hs:∀ x∈l,Sg x):aO (n+1) (.slice b 0 len sz) H=(.sl l len sz .any,H):=by
 simp only[aO,J8,hg,List.drop_zero]
 rw[if_pos (by omega),Pu (by omega),dj hs]
theorem _root_.Go.Sx.Rd.GM{z:Nat}{c:AV}{α:Type}{enc:α→List AV}(F:Flat z enc){us:List α}{h:T ag}{nx n0:Key}(g:Rd z c (aj enc us) us.length h nx)(hn:∀ b o n z',c=.slice b o n z'→n0.toNat≤b.toNat)(n:Nat) :
  jN z enc (aO (n+1) c h).1 us∧∀ b:Key,b.toNat<n0.toNat→aa b (aO (n+1) c h).2=aa b h:=by
 rcases g with⟨rfl,e1,e2⟩|⟨f,rfl⟩|⟨b,k,rfl,hb,_,hl⟩
 ·exact⟨.inl ⟨rfl,zqr e2⟩,fun _ _=>rfl⟩
 ·exact⟨.inr rfl,fun _ _=>rfl⟩
 ·have h0:=hn b _ _ _ rfl
  cases k with
  |part=>
   rw[Gn hb hl (F.Gp us)]
   exact⟨.inr rfl,fun x hx=>ax (by omega)⟩
  |fix=>
   rw[Dx hb hl (F.Gp us)]
   exact⟨.inr rfl,fun x hx=>ax (by omega)⟩
  |ro=>
   rw[azV hb hl (F.Gp us)]
   exact⟨.inr rfl,fun x hx=>rfl⟩
variable{C:cD}{X:Kn}(S:Std C X)
include S
end Ln
/-
 LN: proofs, plainly: lists of configurations that are closed. No condition.
-/
namespace Ln
open Go.Sx Go
abbrev Ci:=Int×St
def eD(c:Ci):List AV:=[I c.1,I c.2.k,I c.2.n,.str 0 0,aC c.2.kids]
theorem dF:Flat 5 eD where
 len _:=rfl
 D3 x y hy:=by
  simp[eD] at hy
  rcases hy with rfl|rfl|rfl|rfl|rfl
  ·exact dS _ _
  ·exact dS _ _
  ·exact dS _ _
  ·exact qK _ _
  ·exact dp _
 cell x y hy:=by
  simp[eD] at hy
  rcases hy with rfl|rfl|rfl|rfl|rfl<;>first|rfl|exact(aZ _).1
 lits x:=by simp[eD,AV.gf,AV.lits,xL,I]
theorem U2(z:Ci)(H:T ag):bY (aO 9998) (eD z) H=(eD z,H):=dj (dF.D3 _)
theorem asw(z:Ci)(H:T ag):bY (aO 9999) (eD z) H=(eD z,H):=dj (dF.D3 _)
theorem B9(z:Ci):List.take 5 (eD z)=eD z:=rfl
theorem Ao(z:Ci):(eD z).length=5:=rfl
theorem asx(z:Ci):(eD z).all AV.aN=true:=vV.2 (dF.cell z)
def jJ(c:Ci):Cf St:=(c.1.toNat,c.2)
def R2(c:Cf St):Ci:=((c.1:Int),c.2)
theorem ane(c:Cf St):jJ (R2 c)=c:=by simp[jJ,R2]
theorem aj9(c:Cf St):eD (R2 c)=eC c:=rfl
theorem Mv{c:Ci}(h:0≤c.1):eC (jJ c)=eD c:=by simp[eC,eD,jJ];omega
theorem Mr:∀ {l:List Ci},(∀ c∈l,0≤c.1)→aj eC (l.map jJ)=aj eD l
 | [],_=>rfl
 |c ::l,h=>by
  rw[zqx,cY,cY,Mv (h c (by simp)),Mr fun x hx=>h x (by simp[hx])]
theorem UB:∀ l:List (Cf St),aj eD (l.map R2)=aj eC l
 | []=>rfl
 |c ::l=>by rw[zqx,cY,cY,aj9,UB l]
def D9(a b:Ci):Prop:=a.1<b.1∨a.1=b.1∧wV a.2 b.2<0
theorem aka{a b c:Ci}(h:D9 a b)(k:D9 b c):D9 a c:=by
 rcases h with h|⟨h1,h2⟩<;>rcases k with k|⟨k1,k2⟩
 ·exact .inl (by omega)
 ·exact .inl (by omega)
 ·exact .inl (by omega)
 ·exact .inr ⟨by omega,Fk h2 k2⟩
theorem LU{a b:Ci}(ha:0≤a.1)(hb:0≤b.1):Ma (jJ a) (jJ b)↔D9 a b:=by
 unfold Ma D9 jJ
 constructor
 ·rintro(h|⟨h,k⟩)
  ·exact .inl (by simp at h;omega)
  ·exact .inr ⟨by simp at h;omega,k⟩
 ·rintro(h|⟨h,k⟩)
  ·exact .inl (by simp;omega)
  ·exact .inr ⟨by simp;omega,k⟩
def cZ(n:Nat)(l:List Ci):Prop:=∀ (q:Nat) (hq:q<l.length),0≤l[q].1∧l[q].1<((2^n:Nat):Int)∧∀ _:0<q,D9 l[q-1] l[q]
def ny(n:Nat)(l:List Ci)(j:Nat):Prop:=∀ (q:Nat) (hq:q<l.length),q<j→0≤l[q].1∧l[q].1<((2^n:Nat):Int)∧∀ _:0<q,D9 l[q-1] l[q]
theorem ny.zero(n:Nat)(l:List Ci):ny n l 0:=fun q hq h=>absurd h (by omega)
theorem ny.all{n:Nat}{l:List Ci}(h:ny n l l.length):cZ n l:=fun q hq=>h q hq hq
theorem ny.step{n:Nat}{l:List Ci}{j:Nat}(h:ny n l j)(hj:j<l.length)(h1:0≤l[j].1)(h2:l[j].1<((2^n:Nat):Int))(h3:∀ _:0<j,D9 l[j-1] l[j]):ny n l (j+1):=by
 intro q hq hqj
 by_cases e:q=j
 ·subst e;exact⟨h1,h2,h3⟩
 ·exact h q hq (by omega)
theorem cZ.pos{n:Nat}{l:List Ci}(h:cZ n l):∀ c∈l,0≤c.1:=by
 intro c hc
 obtain⟨i,hi,rfl⟩:=List.getElem_of_mem hc
 exact(h i hi).1
theorem cZ.lt{n:Nat}{l:List Ci}(h:cZ n l):∀ c∈l.map jJ,c.1<2^n:=by
 intro c hc
 obtain⟨x,hx,rfl⟩:=Fa.1 hc
 obtain⟨i,hi,rfl⟩:=List.getElem_of_mem hx
 have:=h i hi
 show l[i].1.toNat<_
 omega
theorem cZ.up{n:Nat}{l:List Ci}(h:cZ n l):∀ (d i:Nat) (hj:i+d+1<l.length),D9 (l[i]'(by omega)) l[i+d+1]
 |0,i,hj=>by
  have:=(h (i+1) hj).2.2 (by omega)
  simpa using this
 |d+1,i,hj=>by
  have h1:=cZ.up h d i (by omega)
  have h2:=(h (i+(d+1)+1) hj).2.2 (by omega)
  have e:i+(d+1)+1-1=i+d+1:=by omega
  simp only[e] at h2
  exact aka h1 h2
theorem cZ.sorted{n:Nat}{l:List Ci}(h:cZ n l):(l.map jJ).Pairwise Ma:=by
 rw[List.pairwise_iff_getElem]
 intro i j hi hj hij
 simp only[List.length_map] at hi hj
 simp only[List.getElem_map]
 rw[LU (h i hi).1 (h j hj).1]
 have:=h.up (j-i-1) i (by omega)
 have e:i+(j-i-1)+1=j:=by omega
 simp only[e] at this
 exact this
def Ix(S:Sys St)(c0:Cf St)(l:List (Cf St)):Prop:=c0∈l∧∀ c∈l,S.acc c.1=false∧∀ x∈S.steps c,x.2∈l
open Classical in
noncomputable def vQ(S:Sys St)(c0:Cf St)(l:List Ci):Int:=if cZ S.n l then(if Ix S c0 (l.map jJ) then 0 else 18) else 1
theorem U0{S:Sys St}{c0:Cf St}{l:List Ci}(h:¬ cZ S.n l):vQ S c0 l=1:=by unfold vQ;rw[if_neg h]
theorem LR{S:Sys St}{c0:Cf St}{l:List Ci}(h:cZ S.n l)(k:¬ Ix S c0 (l.map jJ)):vQ S c0 l=18:=by unfold vQ;rw[if_pos h,if_neg k]
theorem am8{S:Sys St}{c0:Cf St}{l:List Ci}(h:cZ S.n l)(k:Ix S c0 (l.map jJ)):vQ S c0 l=0:=by unfold vQ;rw[if_pos h,if_pos k]
def Sq(S:Sys St)(l:List Ci)(j:Nat):Prop:=∀ q (hq:q<l.length),q<j→S.acc (jJ l[q]).1=false∧∀ x∈S.steps (jJ l[q]),x.2∈l.map jJ
noncomputable def Kn.wT(X:Kn)(i:Nat)(l:List Ev)(p:List Ci):Int:=if nw i l=0 then vQ (bH X i (cU 0 l)) (0,cd i) p else nw i l
end Ln
/-
 LN: Refute: the reference. No condition.
-/
namespace Ln
open Go.Sx Go
structure RgA(X:Kn)(i:Nat)(os:List Op)(cO c3:AV)(bj n0:Key)(h0:T ag)(tm:T AV)(h:T ag)(nx:Key):Prop where
 k3:aa (K 3) tm=some c3
 cF:aa (K 11) tm=some (.ptr bj 0)
 vj:aa bj h=some (.cells (wB X i cO (cd i)) .fix)
 lt:bj.toNat<nx.toNat
 e:Ext h0 n0 h nx
theorem RgA.ext{X:Kn}{i:Nat}{os:List Op}{cO c3:AV}{bj n0:Key}{h0:T ag}{tm tm':T AV}{h h':T ag}{nx nx':Key}(A:RgA X i os cO c3 bj n0 h0 tm h nx)(e:Ext h nx h' nx')(h3:aa (K 3) tm'=aa (K 3) tm)(h11:aa (K 11) tm'=aa (K 11) tm):RgA X i os cO c3 bj n0 h0 tm' h' nx':=
 ⟨h3.trans A.k3,h11.trans A.cF,by rw[e.g bj A.lt];exact A.vj,by have:=e.n;have:=A.lt;omega,A.e.trans e⟩
def GoI(X:Kn)(i:Nat)(os:List Op)(cO c3:AV)(bj n0:Key)(h0:T ag)(l:List Ci)(m:Nat)(tm':T AV)(h':T ag)(nx':Key):Prop:=∃ j:Nat,m=l.length-j∧j≤l.length∧RgA X i os cO c3 bj n0 h0 tm' h' nx'∧aa (K 13) tm'=some (I j)∧ny os.length l j
variable{C:cD}{X:Kn}(S:Std C X)
include S
theorem aj8{i:Nat}{os:List Op}(ho:os.length≤16){cO:AV}(hcO:jN 10 eO cO os){l:List Ci}(hl:l.length≤10000)(hk:∀ y∈l,y.2.kids.length≤3){c3:AV}(hc:jN 5 eD c3 l){bj n0:Key}{Q:dN}{tm:T AV}{h0 h1:T ag}{bN:Key}{m:Nat}(A:GoI X i os cO c3 bj n0 h0 l m tm h1 bN)
  (oW:∀ tm' h' nx',aa (K 10) tm'=some (I 1)→¬ cZ os.length l→Ext h0 n0 h' nx'→Q .ret tm' h' nx')
  (eK:∀ tm' h' nx',RgA X i os cO c3 bj n0 h0 tm' h' nx'→cZ os.length l→Q .norm tm' h' nx') :
  W C (.loop sc) (al 0 Q) tm h1 bN:=by
 have rB:C.raw gG=false:=S.nr (by decide)
 have rL:C.raw iU=false:=S.nr (by decide)
 have hr:=dF.rows l
 refine W.dQ (GoI X i os cO c3 bj n0 h0 l) A ?_
 rintro m dn h2 aH ⟨j,rfl,hj,B,g13,hf⟩
 refine W.of ?_
 simp[sc]
 by_cases bz:j<l.length
 ·have uA:(j:Int)<l.length:=by omega
  have Hr:c3=.sl (aj eD l) l.length 5 .any:=by
   rcases hc with⟨_,rfl⟩|e
   ·simp at bz
   ·exact e
  have g3:=B.k3
  rw[Hr] at g3
  have tx:5≤l.length*5-j*5:=by omega
  have ec:=dF.at bz
  have hkj:=hk _ (Dn bz)
  have ed0:(eD l[j])[0]?=some (I l[j].1):=rfl
  have hO:∀ (tm:T AV) (hh:T ag) (k:Key),aa k tm=some cO→lightOp C.orc (.lenL (.t k)) tm hh=some (I os.length):=by
   intro tm hh k hk
   rcases id hcO with⟨rfl,rfl⟩|rfl<;>simp[hk]
  have wB4:(wB X i cO (cd i))[4]?=some cO:=rfl
  simp[mC,g3,g13,uA]
  have bad:∀ (ay:T AV) (h':T ag) (nx':Key),Ext h2 aH h' nx'→¬ cZ os.length l→
    mX C (av (eP C .ret (al 1 (av (eP C (.ops js) (av (fun tm h' nx'=>∃ m,m<l.length-j∧GoI X i os cO c3 bj n0 h0 l m tm h' nx') (al 0 Q))) (av (fun tm h' nx'=>∃ m,m<l.length-j∧GoI X i os cO c3 bj n0 h0 l m tm h' nx') (al 0 Q))))) (al 1 (av (eP C (.ops js) (av (fun tm h' nx'=>∃ m,m<l.length-j∧GoI X i os cO c3 bj n0 h0 l m tm h' nx') (al 0 Q))) (av (fun tm h' nx'=>∃ m,m<l.length-j∧GoI X i os cO c3 bj n0 h0 l m tm h' nx') (al 0 Q))))) sd ay h' nx':=by
   intro ay h' nx' e' iI
   simp[sd]
   refine oW _ _ _ ?_ iI (B.e.trans e')
   simp
  have next:∀ (ay:T AV) (h':T ag) (nx':Key),(∀ k:Key,k=K 3∨k=K 11∨k=K 13→aa k ay=aa k dn)→Ext h2 aH h' nx'→ny os.length l (j+1)→
    mX C (av (fun tm h' nx'=>∃ m,m<l.length-j∧GoI X i os cO c3 bj n0 h0 l m tm h' nx') (al 0 Q)) js ay h' nx':=by
   intro ay h' nx' q e' hf'
   have q13:=(q (K 13) (by simp)).trans g13
   simp[js,q13]
   rw[aq (by omega) (by omega)]
   exact⟨l.length-(j+1),by omega,j+1,rfl,by omega,B.ext e' (by simpa using q _ (by simp)) (by simpa using q _ (by simp)),by simp,hf'⟩
  by_cases akr:l[j].1<0
  ·have iI:¬ cZ os.length l:=fun h=>by have:=(h j bz).1;omega
   simp[se,g3,g13,bz,hr,tx,ec,ed0,Ao,akr]
   exact bad _ _ _ (Ext.refl _ _) iI
  ·obtain⟨a,ha⟩:=Int.eq_ofNat_of_zero_le (show 0≤l[j].1 by omega)
   have IT:=ed0
   rw[ha] at IT
   have PR:¬ (a:Int)<0:=by omega
   have xR:0<2^os.length:=Nat.two_pow_pos _
   simp[se,g3,g13,bz,hr,tx,ec,IT,Ao,PR,B.cF,B.vj,↓hO,wB4,rB]
   refine(aks S ho).mono ?_
   rintro o h3 bF ⟨rfl,rfl,rfl⟩
   have hp2:2^os.length≤65536:=kn ho
   have bqa:AV.beq (I (a:Int)) (I (a:Int))=true:=beq_refl _ rfl
   by_cases hz:a<2^os.length
   ·have hz':(a:Int)<((2^os.length:Nat):Int):=by omega
    have hf1:ny os.length l (j+1)↔∀ _:0<j,D9 l[j-1] l[j]:=⟨fun h=>(h j bz (by omega)).2.2,fun h=>hf.step bz (by omega) (by rw[ha];exact hz') h⟩
    by_cases hj0:j=0
    ·have Nx:¬ 0<j:=by omega
     simp[IT,bqa,g13,Nx,-Int.natCast_pow,hz']
     refine next _ _ _ ?_ (Ext.refl _ _) (hf1.2 fun h=>absurd h Nx)
     rintro k (rfl|rfl|rfl)<;>simp
    ·have Nx:0<j:=by omega
     have hj1:j-1<l.length:=by omega
     have w1:cu .i64 ((j:Int)-1)=((j-1:Nat):Int):=by rw[aq (by omega) (by omega)];omega
     have tx1:5≤l.length*5-(j-1)*5:=by omega
     have ec1:=dF.at hj1
     have hk1:=hk _ (Dn hj1)
     have hp1:=(hf (j-1) hj1 (by omega)).1
     have S7:0≤l[j].1:=by omega
     have hls:=ant S (a:=jJ l[j-1]) (b:=jJ l[j]) hk1 hkj h3 bF
     rw[Mv hp1,Mv S7] at hls
     simp[IT,bqa,g3,g13,Nx,-Int.natCast_pow,hz',w1,hj1,bz,hr,tx,tx1,ec,ec1,B9,Ao,rL,U2]
     refine hls.mono ?_
     rintro o h4 DE ⟨⟨v,rfl,hv⟩,e4⟩
     have hv2:v=true↔D9 l[j-1] l[j]:=hv.trans (LU hp1 S7)
     cases v with
     |true=>
      simp
      refine next _ _ _ ?_ e4 (hf1.2 fun _=>hv2.1 rfl)
      rintro k (rfl|rfl|rfl)<;>simp
     |false=>
      have iI:¬ cZ os.length l:=fun h=>by
       have:=hv2.2 ((h j bz).2.2 Nx)
       cases this
      simp
      exact bad _ _ _ e4 iI
   ·have hz':¬ (a:Int)<((2^os.length:Nat):Int):=by omega
    have iI:¬ cZ os.length l:=fun h=>by have:=(h j bz).2.1;rw[ha] at this;exact hz' this
    simp[IT,bqa,-Int.natCast_pow,hz']
    exact bad _ _ _ (Ext.refl _ _) iI
 ·have qL:j=l.length:=by omega
  subst qL
  have hlx:∀ x:Prop,(c3=.nils→(l.length:Int)=0→x)→(c3=.sl (aj eD l) l.length 5 .any→x)→x:=fun x h1 h2=>by
   rcases hc with⟨e1,e2⟩|e
   ·exact h1 e1 (by rw[e2];rfl)
   ·exact h2 e
  refine hlx _ (fun e e2=>?_) (fun e=>?_)
  ·have g3:=B.k3
   rw[e] at g3
   simp[mC,g3,g13,e2]
   refine eK _ _ _ (B.ext (Ext.refl _ _) ?_ ?_) hf.all<;>simp
  ·have g3:=B.k3
   rw[e] at g3
   simp[mC,g3,g13]
   refine eK _ _ _ (B.ext (Ext.refl _ _) ?_ ?_) hf.all<;>simp
end Ln
/-
 LN: Refute: the reference, all of it. No condition.
-/
namespace Ln
open Go.Sx Go
def GiI(X:Kn)(i:Nat)(os:List Op)(cO c3:AV)(bj n0:Key)(h0:T ag)(l:List Ci)(j:Nat)(ns:List (Cf St))(cR:AV)(m:Nat)(tm':T AV)(h':T ag)(nx':Key):Prop:=∃ q:Nat,m=ns.length-q∧q≤ns.length∧RgA X i os cO c3 bj n0 h0 tm' h' nx'∧aa (K 14) tm'=some (I j)∧aa (K 15) tm'=some cR∧aa (K 16) tm'=some (I q)∧∀ x∈ns.take q,x∈l.map jJ
def GlI(X:Kn)(i:Nat)(os:List Op)(cO c3:AV)(bj n0:Key)(h0:T ag)(l:List Ci)(m:Nat)(tm':T AV)(h':T ag)(nx':Key):Prop:=∃ j:Nat,m=l.length-j∧j≤l.length∧RgA X i os cO c3 bj n0 h0 tm' h' nx'∧aa (K 14) tm'=some (I j)∧Sq (bH X i os) l j
variable{C:cD}{X:Kn}(S:Std C X)
include S
theorem auU{i:Nat}(hi:i<3){os:List Op}{cO:AV}{l:List Ci}(hl:l.length≤10000)(wQ:∀ y∈l,dR i y.2)(hf:cZ os.length l){c3:AV}(hc:jN 5 eD c3 l){bj n0:Key}{h0:T ag}{j:Nat}{ns:List (Cf St)}(hns:ns.length≤16)(hnk:∀ x∈ns,dR i x.2){cR:AV}(hR:jN 5 eC cR ns){Q:dN}{tm:T AV}{h1:T ag}{bN:Key}{m:Nat}(A:GiI X i os cO c3 bj n0 h0 l j ns cR m tm h1 bN)
  (oW:∀ tm' h' nx',aa (K 10) tm'=some (I 18)→¬ (∀ x∈ns,x∈l.map jJ)→Ext h0 n0 h' nx'→Q .ret tm' h' nx')
  (eK:∀ tm' h' nx',RgA X i os cO c3 bj n0 h0 tm' h' nx'→aa (K 14) tm'=some (I j)→(∀ x∈ns,x∈l.map jJ)→Q .norm tm' h' nx') :
  W C (.loop sI) (al 4 Q) tm h1 bN:=by
 have rH:C.raw gD=true:=S.rw (by decide)
 refine W.dQ (GiI X i os cO c3 bj n0 h0 l j ns cR) A ?_
 rintro m dn h2 aH ⟨q,rfl,hq,B,E9,g15,g16,x4⟩
 refine W.of ?_
 simp[sI]
 have R:Rd 5 cR (aj eC ns) ns.length h2 aH:=hR.rd _ _
 by_cases hql:q<ns.length
 ·have hqi:(q:Int)<ns.length:=by omega
  have hk3:∀ y∈l.map jJ,y.2.kids.length≤3:=by
   intro y hy
   obtain⟨x,hx,rfl⟩:=Fa.1 hy
   exact Ah (wQ x hx)
  have R3:Rd 5 c3 (aj eC (l.map jJ)) (l.map jJ).length h2 aH:=by
   rw[Mr hf.pos,List.length_map];exact hc.rd _ _
  have hh:=Sl S (l:=l.map jJ) (by simpa using hl) hk3 (x:=ns[q]) (Ah (hnk _ (Dn hql))) R3
  simp[↓R.ln,qx,g15,g16,hqi]
  simp[↓R.ix ig hql,yU,B.k3,g15,g16,rH]
  refine hh.mono ?_
  rintro o h3 bF ⟨rfl,e3⟩
  by_cases hm:ns[q]∈l.map jJ
  ·simp[hm]
   simp[yV,g16]
   rw[aq (by omega) (by omega)]
   refine⟨ns.length-(q+1),by omega,q+1,rfl,by omega,B.ext e3 ?_ ?_,by simp[E9],by simp[g15],by simp,?_⟩
   ·simp
   ·simp
   ·intro x hx
    rw[zqu hql,List.mem_append,List.mem_singleton] at hx
    rcases hx with hx|rfl
    ·exact x4 x hx
    ·exact hm
  ·simp[hm]
   simp[yW]
   refine oW _ _ _ ?_ (fun h=>hm (h _ (Dn hql))) (B.e.trans e3)
   simp
 ·have hqe:q=ns.length:=by omega
  subst hqe
  rw[List.take_length] at x4
  simp[↓R.ln,qx,g15,g16]
  refine eK _ _ _ (B.ext (Ext.refl _ _) ?_ ?_) ?_ x4<;>simp[E9]
theorem aqo{i:Nat}(hi:i<3){os:List Op}(nq:jR i os=0)(ho:os.length≤16){cO:AV}(hcO:jN 10 eO cO os){l:List Ci}(hl:l.length≤10000)(wQ:∀ y∈l,dR i y.2)(hf:cZ os.length l){c3:AV}(hc:jN 5 eD c3 l){bj n0:Key}{h0:T ag}{Q:dN}{tm:T AV}{h1:T ag}{bN:Key}{m:Nat}(A:GlI X i os cO c3 bj n0 h0 l m tm h1 bN)
  (oW:∀ tm' h' nx',aa (K 10) tm'=some (I 18)→¬ (∀ c∈l.map jJ,(bH X i os).acc c.1=false∧∀ x∈(bH X i os).steps c,x.2∈l.map jJ)→Ext h0 n0 h' nx'→Q .ret tm' h' nx')
  (eK:∀ tm' h' nx',(∀ c∈l.map jJ,(bH X i os).acc c.1=false∧∀ x∈(bH X i os).steps c,x.2∈l.map jJ)→Ext h0 n0 h' nx'→Q .norm tm' h' nx') :
  W C (.loop sJ) (al 2 Q) tm h1 bN:=by
 have rA:C.raw gK=false:=S.nr (by decide)
 have rS:C.raw eZ=false:=S.nr (by decide)
 have hr:=dF.rows l
 refine W.dQ (GlI X i os cO c3 bj n0 h0 l) A ?_
 rintro m dn h2 aH ⟨j,rfl,hj,B,E9,hg⟩
 refine W.of ?_
 simp[sJ]
 by_cases bz:j<l.length
 ·have uA:(j:Int)<l.length:=by omega
  have Hr:c3=.sl (aj eD l) l.length 5 .any:=by
   rcases hc with⟨_,rfl⟩|e
   ·simp at bz
   ·exact e
  have g3:=B.k3
  rw[Hr] at g3
  have tx:5≤l.length*5-j*5:=by omega
  have xR:=hf.pos _ (Dn bz)
  have ec:=dF.at bz
  rw[← Mv xR] at ec
  have bO:=hf.lt (jJ l[j]) (Fa.2 ⟨_,Dn bz,rfl⟩)
  have hd:(jJ l[j]).1<65536:=JJ bO (kn ho)
  have hs:dR i (jJ l[j]).2:=wQ _ (Dn bz)
  have ej:jJ l[j]∈l.map jJ:=Fa.2 ⟨_,Dn bz,rfl⟩
  have hgs:∀ (a1:(bH X i os).acc (jJ l[j]).1=false) (a2:∀ x∈(bH X i os).steps (jJ l[j]),x.2∈l.map jJ),Sq (bH X i os) l (j+1):=by
   intro a1 a2 q hq hqj
   by_cases e:q=j
   ·subst e;exact⟨a1,a2⟩
   ·exact hg q hq (by omega)
  generalize jJ l[j]=c at *
  have ec0:(eC c)[0]?=some (I c.1):=rfl
  simp[ly,g3,E9,uA]
  simp[yX,B.cF,g3,E9,bz,hr,tx,ec,uI,ec0,rA]
  refine(amK S ho hcO hd B.vj).mono ?_
  rintro o h3 bF ⟨rfl,rfl,rfl⟩
  cases KP:HF os c.1 with
  |true=>
   have iI:¬ (∀ c∈l.map jJ,(bH X i os).acc c.1=false∧∀ x∈(bH X i os).steps c,x.2∈l.map jJ):=fun h=>by
    have:=(h c ej).1
    have e:(bH X i os).acc c.1=HF os c.1:=rfl
    rw[e,KP] at this;cases this
   simp
   simp[yY]
   refine oW _ _ _ ?_ iI B.e
   simp
  |false=>
   have aB7:(bH X i os).acc c.1=false:=KP
   simp
   simp[yZ,B.cF,g3,E9,bz,hr,tx,ec,uI,zD,rS,GD]
   refine(U3 S hi nq ho hcO hd hs B.vj B.lt).mono ?_
   rintro o h4 DE ⟨cR,rfl,hR,e4⟩
   have hlen:(((bH X i os).steps c).map (·.2)).length≤16:=by
    rw[List.length_map]
    have:((bH X i os).steps c).length≤(List.range os.length).length:=List.length_filterMap_le _ _
    rw[List.length_range] at this
    omega
   have hnk:∀ x∈((bH X i os).steps c).map (·.2),dR i x.2:=by
    intro x hx
    obtain⟨y,hy,rfl⟩:=Fa.1 hx
    exact IB S hi nq hs y hy
   simp
   simp[y0]
   refine auU S hi hl wQ hf hc (cO:=cO) (os:=os) (bj:=bj) (n0:=n0) (h0:=h0) (j:=j) hlen hnk hR (m:=(((bH X i os).steps c).map (·.2)).length) ⟨0,by simp,by omega,B.ext e4 ?_ ?_,by simp[E9],by simp,by simp,by simp⟩ ?_ ?_
   ·simp
   ·simp
   ·intro tm' h' nx' Sk iI e'
    simp
    refine oW _ _ _ Sk (fun h=>iI fun x hx=>?_) e'
    obtain⟨y,hy,rfl⟩:=Fa.1 hx
    exact(h c ej).2 y hy
   ·intro tm' h' nx' B' q14 oV
    simp
    simp[y7,q14]
    rw[aq (by omega) (by omega)]
    refine⟨l.length-(j+1),by omega,j+1,rfl,by omega,B'.ext (Ext.refl _ _) ?_ ?_,by simp,hgs aB7 fun x hx=>oV _ (Fa.2 ⟨x,hx,rfl⟩)⟩<;>simp
 ·have qL:j=l.length:=by omega
  subst qL
  have hlx:∀ x:Prop,(c3=.nils→(l.length:Int)=0→x)→(c3=.sl (aj eD l) l.length 5 .any→x)→x:=fun x h1 h2=>by
   rcases hc with⟨e1,e2⟩|e
   ·exact h1 e1 (by rw[e2];rfl)
   ·exact h2 e
  have Fc:∀ c∈l.map jJ,(bH X i os).acc c.1=false∧∀ x∈(bH X i os).steps c,x.2∈l.map jJ:=by
   intro c hc2
   obtain⟨x,hx,rfl⟩:=Fa.1 hc2
   obtain⟨q,hq,rfl⟩:=List.getElem_of_mem hx
   exact hg q hq hq
  have g3:=B.k3
  refine hlx _ (fun e e2=>?_) (fun e=>?_)
  ·rw[e] at g3
   simp[ly,g3,E9,e2]
   exact eK _ _ _ Fc B.e
  ·rw[e] at g3
   simp[ly,g3,E9]
   exact eK _ _ _ Fc B.e
end Ln
/-
 LN: Refute: the reference's answer. No condition.
-/
namespace Ln
open Go.Sx Go
variable{C:cD}{X:Kn}(S:Std C X)
include S
theorem aj7{i:Nat}(hi:i<3){ev:AV}{l:List Ev}(hv:jN 8 eE ev l)(hl:Few l){c3:AV}{p:List Ci}(hp:p.length≤10000)(wQ:∀ y∈p,dR i y.2)(Mq:jN 5 eD c3 p){h:T ag}{nx:Key} :
  aI C km [X.m,dO i,ev,c3,kj] h nx (fun o h' nx'=>o=.ret (I (X.wT i l p))∧Ext h nx h' nx'):=by
 have s1:=kTSu nx
 have s2:=kTSu nx.succ
 have rb:C.raw gT=false:=S.nr (by decide)
 have rH:C.raw gD=true:=S.rw (by decide)
 have hz:∀ H,aO 9999 ev H=(ev,H):=fun H=>hv.D3 _ _
 have rW:(cU 0 l).length≤16:=by have:=qW l 0;have:=hl.len;omega
 have hk3:∀ y∈p,y.2.kids.length≤3:=fun y hy=>Ah (wQ y hy)
 refine S.B6.call ?_
 simp[zv]
 simp[Ai,Kn.m,kj]
 have e2:=(E0 h nx (.cells [.sl X.rows 7 45 .any] .fix)).trans (E0 _ nx.succ (.cells [I 200,I 50] .fix))
 have bm2:aa nx (au nx.succ (some (.cells [I 200,I 50] .fix)) (au nx (some (.cells [.sl X.rows 7 45 .any] .fix)) h))=some (.cells [.sl X.rows 7 45 .any] .fix):=by rw[ax (by omega)];simp
 have bl2:aa nx.succ (au nx.succ (some (.cells [I 200,I 50] .fix)) (au nx (some (.cells [.sl X.rows 7 45 .any] .fix)) h))=some (.cells [I 200,I 50] .fix):=by simp
 generalize au nx.succ (some (.cells [I 200,I 50] .fix)) (au nx (some (.cells [.sl X.rows 7 45 .any] .fix)) h)=h2 at *
 simp[Aj,bm2,bl2,rb,hz]
 refine(UD S hi hv hl).mono ?_
 rintro o h3 bF ⟨e3,hR⟩
 have Ph:=e2.trans e3
 have n3:=e3.n
 rcases hR with⟨bU,rfl⟩|⟨Af,bj,cO,rfl,Sj,hc,bj0,bjn⟩
 ·have Fj:X.wT i l p=nw i l:=by unfold Kn.wT;rw[if_neg bU]
  rw[Fj]
  simp
  simp[rY,bq bU]
  simp[Ak]
  exact Ph
 ·obtain⟨Po,nq⟩:=BU Af
  have Fj:X.wT i l p=vQ (bH X i (cU 0 l)) (0,cd i) p:=by unfold Kn.wT;rw[if_pos Af]
  rw[Fj]
  simp
  simp[rY]
  simp[Al]
  refine aj8 S rW hc hp hk3 Mq (i:=i) (bj:=bj) (n0:=nx) (h0:=h) (m:=p.length) ⟨0,by simp,by omega,⟨by simp,by simp,Sj,bjn,Ph⟩,by simp,ny.zero _ _⟩ ?_ ?_
  ·intro tm' h' nx' Sk iI e'
   have hr:vQ (bH X i (cU 0 l)) (0,cd i) p=1:=U0 iI
   rw[hr]
   simp[Sk]
   exact e'
  ·intro tm' h' nx' B hf
   have KP:=(aZ (cd i).kids).1
   have ec:[I 0,I (cd i).k,I (cd i).n,.str 0 0,aC (cd i).kids]=eC (0,cd i):=rfl
   have aHY:∀ y∈p.map jJ,y.2.kids.length≤3:=by
    intro y hy
    obtain⟨x,hx,rfl⟩:=Fa.1 hy
    exact hk3 x hx
   have R3:Rd 5 c3 (aj eC (p.map jJ)) (p.map jJ).length h' nx':=by
    rw[Mr hf.pos,List.length_map];exact Mq.rd _ _
   have hh:=Sl S (l:=p.map jJ) (by simpa using hp) aHY (x:=(0,cd i)) (Ah (R5 hi)) R3
   rw[← ec] at hh
   simp
   simp[Am,B.k3,B.cF,B.vj,wB,KP,rH]
   refine hh.mono ?_
   rintro o h4 DE ⟨rfl,e4⟩
   have B4:=B.ext e4 (tm':=tm') rfl rfl
   by_cases ej:(0,cd i)∈p.map jJ
   ·simp[ej]
    simp[xI]
    refine aqo S hi nq rW hc hp wQ hf Mq (bj:=bj) (n0:=nx) (h0:=h) (m:=p.length) ⟨0,by simp,by omega,B4.ext (Ext.refl _ _) ?_ ?_,by simp,fun q hq h=>absurd h (by omega)⟩ ?_ ?_
    ·simp
    ·simp
    ·intro ay h5 Ut Sk iI e'
     have hr:vQ (bH X i (cU 0 l)) (0,cd i) p=18:=LR hf fun Sm=>iI Sm.2
     rw[hr]
     simp[Sk]
     exact e'
    ·intro ay h5 Ut oV e'
     have hr:vQ (bH X i (cU 0 l)) (0,cd i) p=0:=am8 hf ⟨ej,oV⟩
     rw[hr]
     simp
     simp[xJ]
     exact e'
   ·have hr:vQ (bH X i (cU 0 l)) (0,cd i) p=18:=LR hf fun Sm=>ej Sm.1
    rw[hr]
    simp[ej]
    simp[xK]
    exact B4.e
end Ln
/-
 LN: numbers, names, limits; events of the program. No condition.
-/
namespace Ln
open Go.Sx Go
def qX(n:Int):Prop:=-9223372036854775808≤n∧n<9223372036854775808
def aro(n:Int)(m:Nat):Nat:=(if n<0 then -(n+1) else n).toNat%m
theorem IU{m:Nat}(h:0<m)(n:Int):aro n m<m:=Nat.mod_lt _ h
def Mb(n:Int):Nat:=aro n 3
variable{C:cD}{X:Kn}(S:Std C X)
include S
theorem ud{n:Int}(hn:qX n){m:Nat}(hm:0<m)(HH:m≤1000000){h:T ag}{nx:Key}:aI C bQ [I n,I m] h nx (fun o h' nx'=>o=.ret (I (aro n m))∧h'=h∧nx'=nx):=by
 obtain⟨h1,h2⟩:=hn
 have LW:((m:Int)==0)=false:=bq (by omega)
 refine S.CD.call ?_
 simp[zJ]
 simp[Av]
 have fin:∀ (ay:T AV) (k:Nat),(k:Int)<9223372036854775808→aro n m=k%m→aa (K 0) ay=some (I k)→aa (K 1) ay=some (I m)→eP C (.seq (.ops sm) .ret) (bB [.tmp (K 4)] fun o h' nx'=>o=.ret (I (aro n m))∧h'=h∧nx'=nx) ay h nx:=by
  intro ay k hk e q0 q1
  have bO:k%m<m:=Nat.mod_lt _ hm
  have ht:Int.tmod (k:Int) (m:Int)=((k%m:Nat):Int):=rfl
  have hw:cu .i64 ((k%m:Nat):Int)=((k%m:Nat):Int):=aq (by omega) (by omega)
  rw[e]
  simp
  simp[-Int.natCast_emod,sm,q0,q1,LW,ht,hw]
  exact Int.natCast_emod k m
 simp only[bp,bE] at fin
 by_cases bO:n<0
 ·obtain⟨k,hk⟩:=Int.eq_ofNat_of_zero_le (a:=-(n+1)) (by omega)
  have e:aro n m=k%m:=by unfold aro;rw[if_pos bO,hk];rfl
  have w1:cu .i64 (n+1)=n+1:=aq (by omega) (by omega)
  have w2:cu .i64 (-(n+1))=k:=by rw[aq (by omega) (by omega),hk]
  simp[sn,bO]
  simp[Aw,w1,w2]
  refine fin _ k (by omega) e ?_ ?_<;>simp
 ·obtain⟨k,hk⟩:=Int.eq_ofNat_of_zero_le (a:=n) (by omega)
  have e:aro n m=k%m:=by unfold aro;rw[if_neg bO,hk];rfl
  simp[sn,bO]
  refine fin _ k (by omega) e ?_ ?_
  ·simp[hk]
  ·simp
theorem aqU{h:T ag}{nx:Key}:aI C kE [] h nx (fun o h' nx'=>o=.ret (.sl [dO 0,dO 1,dO 2] 3 1 .any)∧Ext h nx h' nx'):=by
 have s1:=kTSu nx
 refine S.CE.call ?_
 simp[zK]
 simp[Ax]
 have fz:=fun(H:T ag) (hg:aa nx H=some (ag.cells [dO 0,dO 1,dO 2] CK.fix))=>Dx (n:=9998) (len:=3) (sz:=1) hg rfl (by intro x hx;simp at hx;rcases hx with rfl|rfl|rfl<;>exact qK _ _)
 simp[jS] at fz
 simp[Ay,fz,jS]
 exact E0 _ _ _
theorem LI{n:Int}(hn:qX n){h:T ag}{nx:Key}:aI C fg [I n] h nx (fun o h' nx'=>o=.ret (dO (Mb n))∧Ext h nx h' nx'):=by
 have rM:C.raw kE=false:=S.nr (by decide)
 have rA:C.raw bQ=false:=S.nr (by decide)
 refine S.HI.call ?_
 simp[FC]
 simp[Em]
 simp[En,rM]
 refine(aqU S).mono ?_
 rintro o h1 bN ⟨rfl,e1⟩
 simp[rA]
 refine(ud S hn (m:=3) (by omega) (by omega)).mono ?_
 rintro o h2 aH ⟨rfl,rfl,rfl⟩
 have bO:=IU (m:=3) (by omega) n
 have hi:Mb n=aro n 3:=rfl
 rw[hi]
 generalize aro n 3=k at *
 have hk:k=0∨k=1∨k=2:=by omega
 rcases hk with rfl|rfl|rfl<;>simp<;>exact e1
theorem Ir{h:T ag}{nx:Key}:aI C eJ [] h nx (fun o h' nx'=>o=.ret kj∧Ext h nx h' nx'):=by
 refine S.CG.call ?_
 simp[zL]
 simp[Az]
 simp[AA,kj]
 exact E0 _ _ _
theorem uc(n:Int){h:T ag}{nx:Key}:aI C fQ [I n] h nx (fun o h' nx'=>o=.ret (.agg (eU ⟨0,n⟩))∧Ext h nx h' nx'):=by
 refine S.CH.call ?_
 simp[zM]
 simp[AB]
 simp[AD,eU]
 exact E0 _ _ _
end Ln
/-
 LN: events of the program. No condition.
-/
namespace Ln
open Go.Sx Go
variable{C:cD}{X:Kn}(S:Std C X)
def EvI(l:List Ev)(c0:AV)(h:T ag)(nx:Key)(m:Nat)(tm':T AV)(h':T ag)(nx':Key):Prop:=∃ (j:Nat) (c3:AV),m=l.length-j∧j≤l.length∧aa (K 0) tm'=some c0∧aa (K 3) tm'=some c3∧aa (K 4) tm'=some (I j)∧App c3 (aj eE (l.take j)) (l.take j).length 8 h' nx' nx∧Ext h nx h' nx'
include S
theorem arq{l:List Ev}(hl:l.length≤1000){c0:AV}(hc:jN 8 eE c0 l){h:T ag}{nx:Key}:aI C kF [c0] h nx (fun o h' nx'=>∃ cR,o=.ret cR∧jN 8 eE cR l∧Ext h nx h' nx'):=by
 refine S.CW.call ?_
 simp[zS]
 simp[Bi]
 simp[Bj]
 simp[Bk]
 refine W.dQ (n:=l.length) (EvI l c0 h nx) ⟨0,.nils,by simp,by omega,by simp,by simp,by simp,App.nil _,Ext.refl _ _⟩ ?_
 rintro m dn h1 bN ⟨j,c3,rfl,hj,g0,g3,g4,hA,e1⟩
 refine W.of ?_
 simp[Bl]
 have hR:Rd 8 c0 (aj eE l) l.length h1 bN:=hc.rd _ _
 by_cases bz:j<l.length
 ·have uA:(j:Int)<l.length:=by omega
  have Cr:c0=.sl (aj eE l) l.length 8 .any:=by
   rcases hc with⟨_,rfl⟩|e
   ·simp at bz
   ·exact e
  subst Cr
  have ec:=fe.at bz
  have hr:=fe.rows l
  have tx:8≤l.length*8-j*8:=by omega
  have n1:=e1.n
  have s1:=kTSu bN
  have KP:=aZ l[j].args
  have e2:=E0 h1 bN (.cells (eE l[j]) .fix)
  have bO:(l.take j).length=j:=by rw[zqy,Nat.min_eq_left (by omega)]
  obtain⟨c6,h6,nx6,ha,hA6,n6,k6,_⟩:=(hA.ext e2).Fm fe (by omega) (by omega) l[j]
  have ee:eE l[j]=[I l[j].kind,I l[j].client,.str l[j].name.1 l[j].name.2,aC l[j].args,I l[j].res.k,I l[j].res.n,.str 0 0,.nils]:=rfl
  have af:∀ n H,aO n (aC l[j].args) H=(aC l[j].args,H):=dp _
  rw[← zqu bz] at hA6
  rw[ee] at ec ha e2 k6
  simp[sQ,g0,g4,uA]
  simp[-appendTo,Bm,g0,g3,g4,bz,hr,tx,ec,KP.1,KP.2,af,ha]
  simp[Bn,g4]
  rw[aq (by omega) (by omega)]
  exact⟨l.length-(j+1),by omega,j+1,c6,rfl,by omega,by simp[g0],by simp,by simp,hA6,by omega,fun b hb=>by rw[k6 b hb,e2.g b (by omega)];exact e1.g b hb⟩
 ·have qL:j=l.length:=by omega
  subst qL
  rw[List.take_length] at hA
  have fr:=hA.GM fe 9998
  simp[↓hR.ln,sQ,g0,g4]
  simp[Bo,g3]
  exact⟨fr.1,e1.n,fun b hb=>by rw[fr.2 b hb];exact e1.g b hb⟩
end Ln
/-
 LN: the generator of histories: its data. No condition.
-/
namespace Ln
open Go.Sx Go
def QR(c:AV)(len:Nat)(h:T ag)(nx:Key)(oQ:Option Key):Prop:=(c=.nils∧len=0∧oQ=none)∨
 (∃ (b:Key) (off:Nat) (q:List Int),oQ=some b∧c=.slice b off len 1∧aa b h=some (.cells (aj eI q) .part)∧q.length=off+len∧b.toNat<nx.toNat)∨
 (∃ (t:Key) (q:List Int),oQ=some t∧c=.sl (aj eI q) len 1 (.tok t)∧q.length=len∧aa t h=some .tok∧t.toNat<nx.toNat)
section
variable{c:AV}{len:Nat}{h h':T ag}{nx nx':Key}{oQ:Option Key}
theorem QR.lt(g:QR c len h nx oQ):∀ b,oQ=some b→b.toNat<nx.toNat:=by
 intro b hb
 rcases g with⟨_,_,e⟩|⟨b',off,q,e,_,_,_,h4⟩|⟨t,q,e,_,_,_,h4⟩
 ·rw[hb] at e;cases e
 ·rw[hb] at e;cases e;exact h4
 ·rw[hb] at e;cases e;exact h4
theorem QR.ew(g:QR c len h nx oQ)(hn:nx.toNat≤nx'.toNat)(hk:∀ b,oQ=some b→aa b h'=aa b h):QR c len h' nx' oQ:=by
 rcases g with g|⟨b,off,q,e,h1,h2,h3,h4⟩|⟨t,q,e,h1,h2,h3,h4⟩
 ·exact .inl g
 ·exact .inr (.inl ⟨b,off,q,e,h1,by rw[hk b e];exact h2,h3,by omega⟩)
 ·exact .inr (.inr ⟨t,q,e,h1,h2,by rw[hk t e];exact h3,by omega⟩)
theorem QR.ext(g:QR c len h nx oQ)(e:Ext h nx h' nx'):QR c len h' nx' oQ:=g.ew e.n fun b hb=>e.g b (g.lt b hb)
theorem QR.add(g:QR c len h nx oQ)(hl:len+1≤1048576)(x:Int):∃ c' h' nx' o',appendTo 1 c [I x] 1 h nx=.val c' h' nx'∧QR c' (len+1) h' nx' o'∧tO h nx oQ h' nx' o'∧c'.aN=true∧c'.cells=[c']:=by
 have s1:=kTSu nx
 have hw:Cd 1=false:=rfl
 rcases g with⟨rfl,rfl,rfl⟩|⟨b,off,q,rfl,rfl,h2,h3,h4⟩|⟨t,q,rfl,rfl,h2,h3,h4⟩
 ·exact⟨.slice nx 0 1 1,au nx (some (.cells (aj eI [x]) .part)) h,nx.succ,some nx,by simp[aj,eI],.inr (.inl ⟨nx,0,[x],rfl,rfl,by simp,rfl,by omega⟩),⟨by omega,fun b hb _=>ax hb,.inr ⟨nx,rfl,fh _⟩⟩,rfl,rfl⟩
 ·have hr:(aj eI q).length=off+len:=by rw[uJ,h3]
  have hd:List.drop off (aj eI q)=aj eI (q.drop off):=by have:=ans.drop q off;simpa using this
  refine⟨.sl (aj eI (q.drop off ++ [x])) (len+1) 1 (.tok nx),au nx (some .tok) (au b none h),nx.succ,some nx,?_,.inr (.inr ⟨nx,_,rfl,rfl,by simp;omega,by simp,by omega⟩),⟨by omega,fun y hy hk=>?_,.inr ⟨nx,rfl,fh _⟩⟩,rfl,rfl⟩
  ·simp[hl,h2,hr,hd,hw,kU,pK,eI]
  ·rw[ax hy,bG]
   rintro rfl
   exact hk rfl
 ·refine⟨.sl (aj eI (q ++ [x])) (len+1) 1 (.tok nx),au nx (some .tok) (au t none h),nx.succ,some nx,?_,.inr (.inr ⟨nx,_,rfl,rfl,by simp;omega,by simp,by omega⟩),⟨by omega,fun y hy hk=>?_,.inr ⟨nx,rfl,fh _⟩⟩,rfl,rfl⟩
  ·simp[hl,h3,kU,pK,eI]
  ·rw[ax hy,bG]
   rintro rfl
   exact hk rfl
theorem QR.ln(g:QR c len h nx oQ){C:cD}{Q:dN}{L:List J}{tm:T AV}{h2:T ag}{n2 k1 d1:Key}(h1:aa k1 tm=some c):mX C Q (⟨some d1,.lenL (.t k1),none⟩ ::L) tm h2 n2=mX C Q L (au d1 (some (I len)) tm) h2 n2:=by
 rcases g with⟨rfl,rfl,_⟩|⟨b,off,q,_,rfl,_⟩|⟨t,q,_,rfl,_⟩<;>simp[h1]
theorem QR.head(g:QR c len h nx oQ)(hl:0<len):∃ (z:Int) (v:AV),∀ {C:cD} {Q:dN} {L:List J} {tm:T AV} {n2 k1 d1 d2:Key},aa k1 tm=some c→mX C Q (⟨some d1,.indexL 1 (.t k1) (.v (.int .i64 (.lit 0))),none⟩ ::⟨some d2,.load false 1 (.t d1),none⟩ ::L) tm h n2=mX C Q L (au d2 (some (I z)) (au d1 (some v) tm)) h n2:=by
 rcases g with⟨rfl,rfl,_⟩|⟨b,off,q,_,rfl,h2,h3,_⟩|⟨t,q,_,rfl,h2,_⟩
 ·omega
 ·have hr:off<q.length:=by omega
  have hg:=Vi hr
  refine⟨q[off],.ptr b off,fun h1=>?_⟩
  simp[h1,hl,h2,hr,uJ]
 ·have hr:0<q.length:=by omega
  have hd:=Ra hr
  have Q1:(aj eI q).length=q.length:=uJ _
  refine⟨q[0],.cref [I q[0]],fun h1=>?_⟩
  simp at hd
  have tl:1≤q.length:=hr
  simp[h1,hl,Q1,hd,tl]
theorem QR.tail(g:QR c len h nx oQ)(hl:0<len):∃ c',QR c' (len-1) h nx oQ∧c'.aN=true∧c'.cells=[c']∧∀ {C:cD} {Q:dN} {L:List J} {tm:T AV} {h2:T ag} {n2 k1 d1:Key},aa k1 tm=some c→mX C Q (⟨some d1,.sliceL 1 (.t k1) (some (.v (.int .i64 (.lit 1)))) none,none⟩ ::L) tm h2 n2=mX C Q L (au d1 (some c') tm) h2 n2:=by
 rcases g with⟨rfl,rfl,_⟩|⟨b,off,q,rfl,rfl,h2,h3,h4⟩|⟨t,q,rfl,rfl,h2,h3,h4⟩
 ·omega
 ·refine⟨.slice b (off+1) (len-1) 1,.inr (.inl ⟨b,off+1,q,rfl,rfl,h2,by omega,h4⟩),rfl,rfl,fun h1=>?_⟩
  have Rb:1≤len:=hl
  simp[h1,Rb]
 ·have hd:List.drop 1 (aj eI q)=aj eI q.tail:=by have:=ans.drop q 1;simpa using this
  have Rb:1≤len:=hl
  have hql:q.tail.length=len-1:=by rw[List.length_tail,h2]
  refine⟨.sl (aj eI q.tail) (len-1) 1 (.tok t),.inr (.inr ⟨t,q.tail,rfl,rfl,hql,h3,h4⟩),rfl,rfl,fun h1=>?_⟩
  have hr1:(aj eI q.tail).length=len-1:=by rw[uJ,hql]
  have ht:List.take (len-1) (aj eI q.tail)=aj eI q.tail:=Pu (by omega)
  have hr0:len≤(aj eI q.tail).length+1:=by omega
  simp[h1,Rb,hd,hr0,ht]
end
end Ln
/-
 LN: the generator of histories: a call takes place. No condition.
-/
namespace Ln
open Go.Sx Go
structure GS where
 n:Int
 d:Nat→Int
 o:Nat→Bool
 lt:Nat→Bool
 a:Nat→Int
 s:Nat→Nat×Nat
def ko{α:Type}(f:Nat→α)(c:Nat)(v:α):Nat→α:=fun i=>if i=c then v else f i
@[simp] theorem aDz{α:Type}(f:Nat→α)(c:Nat)(v:α):ko f c v c=v:=by simp[ko]
@[simp] theorem aHr{α:Type}(f:Nat→α){c i:Nat}(v:α)(h:i≠c):ko f c v i=f i:=by simp[ko,h]
def gB(m:Nat×Nat)(cL cQ:AV)(g:GS):List AV:=[cL,.str m.1 m.2,I g.n,cQ,I (g.d 0),I (g.d 1),I (g.d 2),I (g.d 3),.bool (g.o 0),.bool (g.o 1),.bool (g.o 2),.bool (g.o 3),.bool (g.lt 0),.bool (g.lt 1),.bool (g.lt 2),.bool (g.lt 3),I (g.a 0),I (g.a 1),I (g.a 2),I (g.a 3),.str (g.s 0).1 (g.s 0).2,.str (g.s 1).1 (g.s 1).2,.str (g.s 2).1 (g.s 2).2,.str (g.s 3).1 (g.s 3).2]
structure ub(bg n0:Key)(m:Nat×Nat)(l:List Ev)(g:GS)(k:Nat)(cL cQ:AV)(oL oQ:Option Key)(h:T ag)(nx:Key):Prop where
 oR:aa bg h=some (.cells (gB m cL cQ g) .fix)
 L:Gr 8 cL (aj eE l) l.length h nx oL
 Q:∃ len,len≤k∧QR cQ len h nx oQ
 b0:n0.toNat≤bg.toNat
 bn:bg.toNat<nx.toNat
 lo:∀ b,oL=some b→n0.toNat≤b.toNat∧b≠bg∧oQ≠some b
 qo:∀ b,oQ=some b→n0.toNat≤b.toNat∧b≠bg
structure Old(n0:Key)(h:T ag)(nx:Key)(h':T ag)(nx':Key):Prop where
 n:nx.toNat≤nx'.toNat
 g:∀ b:Key,b.toNat<n0.toNat→aa b h'=aa b h
theorem Old.trans{n0 nx nx' n2:Key}{h h' h2:T ag}(a:Old n0 h nx h' nx')(b:Old n0 h' nx' h2 n2):Old n0 h nx h2 n2:=⟨Nat.le_trans a.n b.n,fun x hx=>(b.g x hx).trans (a.g x hx)⟩
theorem _root_.Go.Sx.Gr.cell{z:Nat}{c:AV}{l:List AV}{len:Nat}{h:T ag}{nx:Key}{ob:Option Key}(g:Gr z c l len h nx ob):c.aN=true∧c.cells=[c]:=by
 rcases g with⟨rfl,_⟩|⟨b,k,_,rfl,_⟩|⟨t,_,rfl,_⟩<;>exact⟨rfl,rfl⟩
theorem QR.cell{c:AV}{len:Nat}{h:T ag}{nx:Key}{oQ:Option Key}(g:QR c len h nx oQ):c.aN=true∧c.cells=[c]:=by
 rcases g with⟨rfl,_⟩|⟨b,off,q,_,rfl,_⟩|⟨t,q,_,rfl,_⟩<;>exact⟨rfl,rfl⟩
theorem ub.put{bg n0:Key}{m:Nat×Nat}{l:List Ev}{g g':GS}{k:Nat}{cL cQ:AV}{oL oQ:Option Key}{h:T ag}{nx:Key}(G:ub bg n0 m l g k cL cQ oL oQ h nx):ub bg n0 m l g' k cL cQ oL oQ (au bg (some (.cells (gB m cL cQ g') .fix)) h) nx∧Old n0 h nx (au bg (some (.cells (gB m cL cQ g') .fix)) h) nx:=by
 obtain⟨len,hlen,hQ⟩:=G.Q
 refine⟨⟨by simp,G.L.ew (fh _) fun b hb=>bG _ _ _ _ (G.lo b hb).2.1,⟨len,hlen,hQ.ew (fh _) fun b hb=>bG _ _ _ _ (G.qo b hb).2⟩,G.b0,G.bn,G.lo,G.qo⟩,fh _,fun b hb=>bG _ _ _ _ fun e=>?_⟩
 have:=G.b0
 rw[e] at hb
 omega
theorem ub.aFT{bg n0:Key}{m:Nat×Nat}{l:List Ev}{g g':GS}{k k' len:Nat}{cL cQ BH:AV}{oL oQ o':Option Key}{h h':T ag}{nx nx':Key}(G:ub bg n0 m l g k cL cQ oL oQ h nx)(hn:n0.toNat≤nx.toNat)(F:tO h nx oQ h' nx' o')(hQ:QR BH len h' nx' o')(hlen:len≤k'):ub bg n0 m l g' k' cL BH oL o' (au bg (some (.cells (gB m cL BH g') .fix)) h') nx'∧Old n0 h nx (au bg (some (.cells (gB m cL BH g') .fix)) h') nx':=by
 have n1:=F.n
 have b0:=G.b0
 have bn:=G.bn
 have ho:∀ b,o'=some b→n0.toNat≤b.toNat∧b≠bg:=by
  intro b hb
  rcases F.o with e|⟨y,e,hy⟩
  ·exact G.qo b (e ▸ hb)
  ·rw[hb] at e
   cases e
   exact⟨by omega,fun e=>by rw[e] at hy;omega⟩
 have hoL:∀ b,oL=some b→o'≠some b:=fun b hb=>F.ne (G.L.lt b hb) (G.lo b hb).2.2
 refine⟨⟨by simp,G.L.ew n1 fun b hb=>?_,⟨len,hlen,hQ.ew (fh _) fun b hb=>bG _ _ _ _ (ho b hb).2⟩,b0,by omega,fun b hb=>⟨(G.lo b hb).1,(G.lo b hb).2.1,hoL b hb⟩,ho⟩,n1,fun b hb=>?_⟩
 ·rw[bG _ _ _ _ (G.lo b hb).2.1]
  exact F.g b (G.L.lt b hb) (G.lo b hb).2.2
 ·rw[bG _ _ _ _ (fun e=>by rw[e] at hb;omega)]
  exact F.g b (by omega) (fun e=>by have:=(G.qo b e).1;omega)
variable{C:cD}{X:Kn}(S:Std C X)
def ApR(bg n0:Key)(m:Nat×Nat)(l:List Ev)(g:GS)(k:Nat)(cL:AV)(oL:Option Key)(h:T ag)(nx:Key)(o:Out)(h':T ag)(nx':Key):Prop:=o=.ret (.tuple [])∧∃ g' BH Fo,ub bg n0 m l g' (k+1) cL BH oL Fo h' nx'∧g'.o=g.o∧Old n0 h nx h' nx'
include S
theorem OF{bg n0:Key}{m:Nat×Nat}{l:List Ev}{g:GS}{k:Nat}{cL cQ:AV}{oL oQ:Option Key}{h:T ag}{nx:Key}(G:ub bg n0 m l g k cL cQ oL oQ h nx)(hk:k≤100)(hn:n0.toNat≤nx.toNat){tm:T AV}{x:Int}{nm:Nat×Nat}(q0:aa (K 0) tm=some (.ptr bg 0))(q4:aa (K 4) tm=some (I 0))(q5:aa (K 5) tm=some (I x))(q17:aa (K 17) tm=some (.str nm.1 nm.2)){Q:dN}
  (fin:∀ (ay:T AV) (h2:T ag) (aH:Key) (g':GS) (BH:AV) (Fo:Option Key) (r:Int),aa (K 0) ay=some (.ptr bg 0)→aa (K 1) ay=aa (K 1) tm→aa (K 4) ay=some (I r)→ub bg n0 m l g' (k+1) cL BH oL Fo h2 aH→g'.o=g.o→Old n0 h nx h2 aH→Q .norm ay h2 aH) :
  mX C (av (eP C (.cond (.t (K 18)) (.ops qD) (.seq (.ops lB) (.cond (.t (K 30)) (.seq (.ops lC) (.cond (.t (K 37)) (.seq (.ops qE) (.ops qF)) .skip)) (.seq (.ops lD) (.cond (.t (K 52)) (.seq (.ops ov) (.ops ow)) (.seq (.ops j7) (.cond (.t (K 65)) (.seq (.ops ox) (.ops oy)) (.seq (.ops j8) (.cond (.t (K 80)) (.ops oD) (.seq (.ops j9) (.cond (.t (K 86)) (.ops oG) .skip))))))))))) (al 0 Q)) (al 0 Q)) iE tm h nx:=by
 have s1:=kTSu nx
 obtain⟨len,hlen,hQ⟩:=G.Q
 have hb:=G.oR
 have bn:=G.bn
 have cc:=hQ.cell
 by_cases h1:nm.1=3∧nm.2=7632240
 ·have e1:=E0 h nx (.cells [I x] .fix)
  obtain⟨c',h2,aH,o',ha,hQ2,F,cc2⟩:=(hQ.ext e1).add (by omega) x
  have F2:=(tO.pr e1 oQ).trans F
  have Ch:aa bg h2=some (.cells (gB m cL cQ g) .fix):=by rw[F2.g bg bn (fun e=>(G.qo bg e).2 rfl)];exact hb
  obtain⟨G3,O3⟩:=G.aFT (g':=g) (k':=k+1) hn F2 hQ2 (by omega)
  simp[gB] at G3 O3
  simp[iE,q17,h1]
  simp[-appendTo,qD,q0,q5,hb,Ch,gB,cc.1,cc.2,cc2.1,cc2.2,ha]
  refine fin _ _ _ g c' o' 0 ?_ ?_ ?_ G3 rfl O3<;>simp[q0,q4]
 ·by_cases h2:nm.1=3∧nm.2=7628135
  ·simp[iE,q17,h1]
   simp[lB,q17,h2]
   by_cases hl:0<len
   ·have hli:(0:Int)<len:=by omega
    obtain⟨z,v,hz⟩:=hQ.head hl
    obtain⟨c',hQ2,cc1,cc2,ht⟩:=hQ.tail hl
    obtain⟨G3,O3⟩:=G.aFT (g':=g) (k':=k+1) hn (tO.refl h nx oQ) hQ2 (by omega)
    simp[gB] at G3 O3
    simp[↓hQ.ln,lC,q0,hb,gB,hl]
    simp[↓hz,qE,q0,hb,gB]
    simp[↓ht,qF,q0,hb,gB,cc1,cc2]
    refine fin _ _ _ g c' oQ z ?_ ?_ ?_ G3 rfl O3<;>simp[q0]
   ·have hl0:len=0:=by omega
    simp[↓hQ.ln,lC,q0,hb,gB,hl0]
    refine fin _ _ _ g cQ oQ 0 ?_ ?_ ?_ ⟨hb,G.L,⟨len,by omega,hQ⟩,G.b0,bn,G.lo,G.qo⟩ rfl ⟨fh _,fun _ _=>rfl⟩<;>simp[q0,q4]
  ·have ew:ub bg n0 m l g (k+1) cL cQ oL oQ h nx:=⟨hb,G.L,⟨len,by omega,hQ⟩,G.b0,bn,G.lo,G.qo⟩
   have wr:∀ n':Int,ub bg n0 m l {g with n:=n'} (k+1) cL cQ oL oQ (au bg (some (.cells (gB m cL cQ {g with n:=n'}) .fix)) h) nx∧Old n0 h nx (au bg (some (.cells (gB m cL cQ {g with n:=n'}) .fix)) h) nx:=fun n'=>ew.put
   simp[gB] at wr
   simp[iE,q17,h1]
   simp[lB,q17,h2]
   by_cases h3:nm.1=3∧nm.2=6516329
   ·simp[lD,q17,h3]
    simp[ov,q0,hb,gB]
    simp[ow,q0]
    obtain⟨G3,O3⟩:=wr (cu .i64 (g.n+1))
    refine fin _ _ _ _ cQ oQ (cu .i64 (g.n+1)) ?_ ?_ ?_ G3 rfl O3<;>simp[q0]
   ·simp[lD,q17,h3]
    by_cases h4:nm.1=3∧nm.2=6579297
    ·simp[j7,q17,h4]
     simp[ox,q0,q5,hb,gB]
     simp[oy,q0]
     obtain⟨G3,O3⟩:=wr (cu .i64 (g.n+x))
     refine fin _ _ _ _ cQ oQ (cu .i64 (g.n+x)) ?_ ?_ ?_ G3 rfl O3<;>simp[q0]
    ·simp[j7,q17,h4]
     by_cases h5:nm.1=5∧nm.2=435744764535
     ·simp[j8,q17,h5]
      simp[oD,q0,q5,hb,gB]
      obtain⟨G3,O3⟩:=wr x
      refine fin _ _ _ _ cQ oQ 0 ?_ ?_ ?_ G3 rfl O3<;>simp[q0,q4]
     ·simp[j8,q17,h5]
      by_cases h6:nm.1=4∧nm.2=1684104562
      ·simp[j9,q17,h6]
       simp[oG,q0,hb,gB]
       refine fin _ _ _ g cQ oQ g.n ?_ ?_ ?_ ew rfl ⟨fh _,fun _ _=>rfl⟩<;>simp[q0]
      ·simp[j9,q17,h6]
       refine fin _ _ _ g cQ oQ 0 ?_ ?_ ?_ ew rfl ⟨fh _,fun _ _=>rfl⟩<;>simp[q0,q4]
theorem xP{bg n0:Key}{m:Nat×Nat}{l:List Ev}{g:GS}{k:Nat}{cL cQ:AV}{oL oQ:Option Key}{h:T ag}{nx:Key}(G:ub bg n0 m l g k cL cQ oL oQ h nx)(hk:k≤100)(hn:n0.toNat≤nx.toNat){c:Nat}(hc:c=0∨c=1∨c=2) :
  aI C fa [.ptr bg 0,I c] h nx (ApR bg n0 m l g k cL oL h nx):=by
 have s1:=kTSu nx
 obtain⟨len,hlen,hQ⟩:=G.Q
 have hb:=G.oR
 have bn:=G.bn
 have cc:=hQ.cell
 refine S.AQ.call ?_
 rcases hc with rfl|rfl|rfl
 ·simp[mr]
  simp[lE]
  simp[lF,hb,gB]
  simp[lG,hb,gB]
  have fin:∀ (ay:T AV) (h2:T ag) (aH:Key) (g':GS) (BH:AV) (Fo:Option Key) (r:Int),aa (K 0) ay=some (.ptr bg 0)→aa (K 1) ay=some (I 0)→aa (K 4) ay=some (I r)→ub bg n0 m l g' (k+1) cL BH oL Fo h2 aH→g'.o=g.o→Old n0 h nx h2 aH→
    mX C (bB [] (ApR bg n0 m l g k cL oL h nx)) ef ay h2 aH:=by
   intro ay h2 aH g' BH Fo r q0 q1 q4 G2 e2 O2
   have Ch:=G2.oR
   obtain⟨G3,O3⟩:=G2.put (g':={g' with d:=ko g'.d 0 r})
   simp[gB] at G3 O3
   simp[ef,q0,q1,q4,Ch,gB]
   exact⟨rfl,_,_,_,G3,e2,O2.trans O3⟩
  refine OF S G hk hn (x:=g.a 0) (nm:=g.s 0) ?_ ?_ ?_ ?_ (fun ay h2 aH g' BH Fo r p0 p1 p4 G2 e2 O2=>fin ay h2 aH g' BH Fo r p0 (by rw[p1];simp) p4 G2 e2 O2)<;>simp
 ·simp[mr]
  simp[lE]
  simp[lF,hb,gB]
  simp[lG,hb,gB]
  have fin:∀ (ay:T AV) (h2:T ag) (aH:Key) (g':GS) (BH:AV) (Fo:Option Key) (r:Int),aa (K 0) ay=some (.ptr bg 0)→aa (K 1) ay=some (I 1)→aa (K 4) ay=some (I r)→ub bg n0 m l g' (k+1) cL BH oL Fo h2 aH→g'.o=g.o→Old n0 h nx h2 aH→
    mX C (bB [] (ApR bg n0 m l g k cL oL h nx)) ef ay h2 aH:=by
   intro ay h2 aH g' BH Fo r q0 q1 q4 G2 e2 O2
   have Ch:=G2.oR
   obtain⟨G3,O3⟩:=G2.put (g':={g' with d:=ko g'.d 1 r})
   simp[gB] at G3 O3
   simp[ef,q0,q1,q4,Ch,gB]
   exact⟨rfl,_,_,_,G3,e2,O2.trans O3⟩
  refine OF S G hk hn (x:=g.a 1) (nm:=g.s 1) ?_ ?_ ?_ ?_ (fun ay h2 aH g' BH Fo r p0 p1 p4 G2 e2 O2=>fin ay h2 aH g' BH Fo r p0 (by rw[p1];simp) p4 G2 e2 O2)<;>simp
 ·simp[mr]
  simp[lE]
  simp[lF,hb,gB]
  simp[lG,hb,gB]
  have fin:∀ (ay:T AV) (h2:T ag) (aH:Key) (g':GS) (BH:AV) (Fo:Option Key) (r:Int),aa (K 0) ay=some (.ptr bg 0)→aa (K 1) ay=some (I 2)→aa (K 4) ay=some (I r)→ub bg n0 m l g' (k+1) cL BH oL Fo h2 aH→g'.o=g.o→Old n0 h nx h2 aH→
    mX C (bB [] (ApR bg n0 m l g k cL oL h nx)) ef ay h2 aH:=by
   intro ay h2 aH g' BH Fo r q0 q1 q4 G2 e2 O2
   have Ch:=G2.oR
   obtain⟨G3,O3⟩:=G2.put (g':={g' with d:=ko g'.d 2 r})
   simp[gB] at G3 O3
   simp[ef,q0,q1,q4,Ch,gB]
   exact⟨rfl,_,_,_,G3,e2,O2.trans O3⟩
  refine OF S G hk hn (x:=g.a 2) (nm:=g.s 2) ?_ ?_ ?_ ?_ (fun ay h2 aH g' BH Fo r p0 p1 p4 G2 e2 O2=>fin ay h2 aH g' BH Fo r p0 (by rw[p1];simp) p4 G2 e2 O2)<;>simp
end Ln
/-
 LN: the generator of histories: a call ends, or is lost. No condition.
-/
namespace Ln
open Go.Sx Go
theorem _root_.Go.Sx.Gr.lits{z:Nat}{α:Type}{enc:α→List AV}(F:Flat z enc){c:AV}{us:List α}{len:Nat}{h:T ag}{nx:Key}{ob:Option Key}(g:Gr z c (aj enc us) len h nx ob):AV.beq c c=true:=by
 rcases g with⟨rfl,_⟩|⟨b,k,_,rfl,_⟩|⟨t,_,rfl,_⟩
 ·exact beq_refl _ rfl
 ·exact beq_refl _ rfl
 ·exact beq_refl _ (by simp only[AV.lits];exact F.asv _)
theorem ub.aki{bg n0:Key}{m:Nat×Nat}{l l':List Ev}{g g':GS}{k:Nat}{cL cL' cQ:AV}{oL oL' oQ:Option Key}{h h':T ag}{nx nx':Key}(G:ub bg n0 m l g k cL cQ oL oQ h nx)(hn:n0.toNat≤nx.toNat)(F:tO h nx oL h' nx' oL')(hL:Gr 8 cL' (aj eE l') l'.length h' nx' oL'):ub bg n0 m l' g' k cL' cQ oL' oQ (au bg (some (.cells (gB m cL' cQ g') .fix)) h') nx'∧Old n0 h nx (au bg (some (.cells (gB m cL' cQ g') .fix)) h') nx':=by
 have n1:=F.n
 have b0:=G.b0
 have bn:=G.bn
 obtain⟨len,hlen,hQ⟩:=G.Q
 have ho:∀ b,oL'=some b→n0.toNat≤b.toNat∧b≠bg∧oQ≠some b:=by
  intro b hb
  rcases F.o with e|⟨y,e,hy⟩
  ·exact G.lo b (e ▸ hb)
  ·rw[hb] at e
   cases e
   exact⟨by omega,fun e=>by rw[e] at hy;omega,fun e=>by have:=hQ.lt _ e;omega⟩
 have hq:∀ b,oQ=some b→oL≠some b:=fun b hb e=>(G.lo b e).2.2 hb
 refine⟨⟨by simp,hL.ew (fh _) fun b hb=>bG _ _ _ _ (ho b hb).2.1,⟨len,hlen,hQ.ew n1 fun b hb=>?_⟩,b0,by omega,ho,G.qo⟩,n1,fun b hb=>?_⟩
 ·rw[bG _ _ _ _ (G.qo b hb).2]
  exact F.g b (hQ.lt b hb) (hq b hb)
 ·rw[bG _ _ _ _ (fun e=>by rw[e] at hb;omega)]
  exact F.g b (by omega) (fun e=>by have:=(G.lo b e).1;omega)
theorem ub.up{bg n0:Key}{m:Nat×Nat}{l:List Ev}{g:GS}{k:Nat}{cL cQ:AV}{oL oQ:Option Key}{h h':T ag}{nx nx':Key}(G:ub bg n0 m l g k cL cQ oL oQ h nx)(e:Ext h nx h' nx'):ub bg n0 m l g k cL cQ oL oQ h' nx':=by
 obtain⟨len,hlen,hQ⟩:=G.Q
 exact⟨by rw[e.g bg G.bn];exact G.oR,G.L.ext e,⟨len,hlen,hQ.ext e⟩,G.b0,JJ G.bn e.n,G.lo,G.qo⟩
theorem ub.more{bg n0:Key}{m:Nat×Nat}{l:List Ev}{g:GS}{k:Nat}{cL cQ:AV}{oL oQ:Option Key}{h:T ag}{nx:Key}(G:ub bg n0 m l g k cL cQ oL oQ h nx):ub bg n0 m l g (k+1) cL cQ oL oQ h nx:=by
 obtain⟨len,hlen,hQ⟩:=G.Q
 exact⟨G.oR,G.L,⟨len,by omega,hQ⟩,G.b0,G.bn,G.lo,G.qo⟩
theorem Old.pr{n0 nx nx':Key}{h h':T ag}(e:Ext h nx h' nx')(hn:n0.toNat≤nx.toNat):Old n0 h nx h' nx':=⟨e.n,fun b hb=>e.g b (by omega)⟩
theorem Old.refl(n0:Key)(h:T ag)(nx:Key):Old n0 h nx h nx:=⟨fh _,fun _ _=>rfl⟩
inductive Vc(mi:Nat)(g:GS)(x:Ev)(g':GS):Prop
 |lost (h:x=⟨2,0,(0,0),[],⟨0,0⟩⟩) (ho:g'.o=fun _=>false)
 |ends (c:Nat) (r:Int) (hc:c<3) (ho:g.o c=true) (h:x=⟨1,c,(0,0),[],⟨0,r⟩⟩) (KN:g'.o=ko g.o c false)
 |begins (c:Nat) (cmd:gQ) (aZZ:List U) (hc:c<3) (ho:g.o c=false) (hm:cmd∈az mi) (ha:aZZ.length=cmd.ar) (hk:∀ u∈aZZ,u.k=0) (h:x=⟨0,c,cmd.name,aZZ,⟨0,0⟩⟩) (KN:g'.o=ko g.o c true)
def Uw(bg n0:Key)(mi:Nat)(l:List Ev)(g:GS)(k:Nat)(h:T ag)(nx:Key)(o:Out)(h':T ag)(nx':Key):Prop:=o=.ret (.tuple [])∧∃ x g' cL' BH oL' Fo,ub bg n0 (jS mi) (l ++ [x]) g' (k+1) cL' BH oL' Fo h' nx'∧Old n0 h nx h' nx'∧Vc mi g x g'
variable{C:cD}{X:Kn}(S:Std C X)
include S
theorem aqu{bg n0:Key}{mi:Nat}{l:List Ev}{g:GS}{k:Nat}{cL cQ:AV}{oL oQ:Option Key}{h:T ag}{nx:Key}(G:ub bg n0 (jS mi) l g k cL cQ oL oQ h nx)(hl:l.length≤100)(hn:n0.toNat≤nx.toNat){tm:T AV}(q0:aa (K 0) tm=some (.ptr bg 0)){Q:dN}(hQ':∀ tm' h' nx',bB [] (Uw bg n0 mi l g k h nx) .ret tm' h' nx'→Q .ret tm' h' nx') :
  eP C (.seq (.ops r7) (.seq (.ops r9) .ret)) Q tm h nx:=by
 have s1:=kTSu nx
 have hb:=G.oR
 have bn:=G.bn
 have cq:=(show ∃ len,QR cQ len h nx oQ from G.Q.elim fun len p=>⟨len,p.2⟩)
 obtain⟨len,hQ⟩:=cq
 have cc:=hQ.cell
 have cl:=G.L.cell
 have e1:=E0 h nx (.cells (eE ⟨2,0,(0,0),[],⟨0,0⟩⟩) .fix)
 have ee:eE ⟨2,0,(0,0),[],⟨0,0⟩⟩=[I 2,I 0,.str 0 0,.nils,I 0,I 0,.str 0 0,.nils]:=rfl
 obtain⟨c',h2,aH,o',ha,hL2,F⟩:=(G.L.ext e1).Fm fe (by decide) (by decide) (by omega) ⟨2,0,(0,0),[],⟨0,0⟩⟩
 have F2:=(tO.pr e1 oL).trans F
 have Q5:=hL2.cell
 have Ch:aa bg h2=some (.cells (gB (jS mi) cL cQ g) .fix):=by rw[F2.g bg bn (fun e=>(G.lo bg e).2.1 rfl)];exact hb
 obtain⟨G3,O3⟩:=G.aki (g':={g with o:=fun _=>false}) hn F2 hL2
 rw[ee] at ha
 simp[gB] at G3 O3
 simp
 simp[-appendTo,r7,q0,hb,Ch,gB,cl.1,cl.2,Q5.1,Q5.2,ha]
 simp[r9,q0,gB]
 refine hQ' _ _ _ ?_
 simp
 exact⟨rfl,_,_,_,_,_,_,G3.more,O3,.lost rfl rfl⟩
theorem aqv{bg n0:Key}{mi:Nat}{l:List Ev}{g:GS}{k:Nat}{cL cQ:AV}{oL oQ:Option Key}{h:T ag}{nx:Key}(G:ub bg n0 (jS mi) l g k cL cQ oL oQ h nx)(hl:l.length≤100)(hk:k≤100)(hn:n0.toNat≤nx.toNat){tm:T AV}{kk c:Nat}(rq:kk<1000000)(hc:c=0∨c=1∨c=2)(ho:g.o c=true)(q0:aa (K 0) tm=some (.ptr bg 0))(q1:aa (K 1) tm=some (I kk))(q4:aa (K 4) tm=some (I c)){Q:dN}
  (hQ:∀ tm' h' nx',bB [] (Uw bg n0 mi l g k h nx) .ret tm' h' nx'→Q .ret tm' h' nx') :
  eP C (.seq (.seq (.ops dx) (.cond (.t (K 40)) (.ops gv) .skip)) (.seq (.ops dy) (.seq (.seq (.ops cg) (.cond (.t (K 53)) (.ops dz) .skip)) (.seq (.staged bI ⟨[K 56,K 57,K 58,K 59,K 60,K 61,K 62,K 63,K 64,K 65,K 66,K 67,K 68],[]⟩) (.seq (.ops bJ) .ret))))) Q tm h nx:=by
 have rA:C.raw fa=false:=S.nr (by decide)
 have rN:C.raw fQ=false:=S.nr (by decide)
 have hb:=G.oR
 have bn:=G.bn
 have Vd:Int.tdiv (kk:Int) 51=((kk / 51:Nat):Int):=rfl
 have Ve:cu .i64 ((kk / 51:Nat):Int)=((kk / 51:Nat):Int):=aq (by omega) (by omega)
 have hm9:Int.tmod ((kk / 51:Nat):Int) 9=((kk / 51%9:Nat):Int):=rfl
 have hw9:cu .i64 ((kk / 51%9:Nat):Int)=((kk / 51%9:Nat):Int):=aq (by omega) (by omega)
 generalize kk / 51%9=e9 at *
 generalize kk / 51=e51 at *
 rcases hc with rfl|rfl|rfl
 ·have last:∀ (ay:T AV) (h2:T ag) (aH:Key) (g2:GS) (JM:AV) (MA:Option Key) (r:Int),aa (K 0) ay=some (.ptr bg 0)→aa (K 4) ay=some (I 0)→aa (K 5) ay=some (I r)→ub bg n0 (jS mi) l g2 (k+1) cL JM oL MA h2 aH→g2.o=g.o→Old n0 h nx h2 aH→
    eP C (.seq (.staged bI ⟨[K 56,K 57,K 58,K 59,K 60,K 61,K 62,K 63,K 64,K 65,K 66,K 67,K 68],[]⟩) (.seq (.ops bJ) .ret)) Q ay h2 aH:=by
   intro ay h2 aH g2 JM MA r p0 p4 p5 G2 e2 O2
   have Ch:=G2.oR
   have bn2:=G2.bn
   have n2:=O2.n
   obtain⟨len,_,hQ2⟩:=G2.Q
   have cc:=hQ2.cell
   have cl:=G2.L.cell
   have lb:=G2.L.lits fe
   simp
   simp[-appendTo,bI,p0,p4,p5,Ch,gB,rN]
   refine(uc S r).mono ?_
   rintro o h3 bF ⟨rfl,e3⟩
   have n3:=e3.n
   have s3:=kTSu bF
   have G3:=G2.up e3
   have hb3:=G3.oR
   have e4:=E0 h3 bF (.cells (eE ⟨1,0,(0,0),[],⟨0,r⟩⟩) .fix)
   have ee:eE ⟨1,0,(0,0),[],⟨0,r⟩⟩=[I 1,I 0,.str 0 0,.nils,I 0,I r,.str 0 0,.nils]:=rfl
   obtain⟨c',h5,Ut,o',ha,Vf,F⟩:=(G3.L.ext e4).Fm fe (by decide) (by decide) (by omega) ⟨1,0,(0,0),[],⟨0,r⟩⟩
   have F2:=(tO.pr e4 oL).trans F
   have Q5:=Vf.cell
   have hb5:aa bg h5=some (.cells (gB (jS mi) cL JM g2) .fix):=by rw[F2.g bg (by omega) (fun e=>(G3.lo bg e).2.1 rfl)];exact hb3
   obtain⟨G6,O6⟩:=G3.aki (g':={g2 with o:=ko g2.o 0 false}) (by omega) F2 Vf
   rw[ee] at ha
   simp[gB] at G6 O6
   simp[-appendTo,hb3,hb5,gB,eU,cl.1,cl.2,Q5.1,Q5.2,lb,ha]
   simp[bJ,p0,p4,gB]
   refine hQ _ _ _ ?_
   simp
   exact⟨rfl,_,_,_,_,_,_,G6,(O2.trans (Old.pr e3 (by omega))).trans O6,.ends 0 r (by omega) ho rfl (by rw[← e2])⟩
  simp only[bp,bw,bE] at last
  have mid:∀ (ay:T AV) (h2:T ag) (aH:Key) (g2:GS) (JM:AV) (MA:Option Key),aa (K 0) ay=some (.ptr bg 0)→aa (K 1) ay=some (I kk)→aa (K 4) ay=some (I 0)→ub bg n0 (jS mi) l g2 (k+1) cL JM oL MA h2 aH→g2.o=g.o→Old n0 h nx h2 aH→
    eP C (.seq (.ops dy) (.seq (.seq (.ops cg) (.cond (.t (K 53)) (.ops dz) .skip)) (.seq (.staged bI ⟨[K 56,K 57,K 58,K 59,K 60,K 61,K 62,K 63,K 64,K 65,K 66,K 67,K 68],[]⟩) (.seq (.ops bJ) .ret)))) Q ay h2 aH:=by
   intro ay h2 aH g2 JM MA p0 p1 p4 G2 e2 O2
   have Ch:=G2.oR
   simp
   simp[dy,p0,p4,Ch,gB]
   by_cases h8:e9=8
   ·have h8i:((e9:Int)==8)=true:=bt (by omega)
    simp[cg,p1,Vd,Ve,hm9,hw9,h8i]
    simp[dz]
    refine last _ _ _ g2 JM MA (cu .i64 (g2.d 0+1)) ?_ ?_ ?_ G2 e2 O2<;>simp[p0,p4]
   ·have h8i:((e9:Int)==8)=false:=bq (by omega)
    simp[cg,p1,Vd,Ve,hm9,hw9,h8i]
    refine last _ _ _ g2 JM MA (g2.d 0) ?_ ?_ ?_ G2 e2 O2<;>simp[p0,p4]
  simp only[bp,bw,bE,eu] at mid
  simp
  cases bO:g.lt 0 with
  |true=>
   simp[dx,q0,q4,hb,gB,bO]
   simp[gv,q0,q4,rA]
   refine(xP S G hk hn (c:=0) (by simp)).mono ?_
   rintro o h2 aH ⟨rfl,g',BH,Fo,G2,e2,O2⟩
   simp
   refine mid _ _ _ g' BH Fo ?_ ?_ ?_ G2 e2 O2<;>simp[q0,q1,q4]
  |false=>
   simp[dx,q0,q4,hb,gB,bO]
   refine mid _ _ _ g cQ oQ ?_ ?_ ?_ G.more rfl (Old.refl _ _ _)<;>simp[q0,q1,q4]
 ·have last:∀ (ay:T AV) (h2:T ag) (aH:Key) (g2:GS) (JM:AV) (MA:Option Key) (r:Int),aa (K 0) ay=some (.ptr bg 0)→aa (K 4) ay=some (I 1)→aa (K 5) ay=some (I r)→ub bg n0 (jS mi) l g2 (k+1) cL JM oL MA h2 aH→g2.o=g.o→Old n0 h nx h2 aH→
    eP C (.seq (.staged bI ⟨[K 56,K 57,K 58,K 59,K 60,K 61,K 62,K 63,K 64,K 65,K 66,K 67,K 68],[]⟩) (.seq (.ops bJ) .ret)) Q ay h2 aH:=by
   intro ay h2 aH g2 JM MA r p0 p4 p5 G2 e2 O2
   have Ch:=G2.oR
   have bn2:=G2.bn
   have n2:=O2.n
   obtain⟨len,_,hQ2⟩:=G2.Q
   have cc:=hQ2.cell
   have cl:=G2.L.cell
   have lb:=G2.L.lits fe
   simp
   simp[-appendTo,bI,p0,p4,p5,Ch,gB,rN]
   refine(uc S r).mono ?_
   rintro o h3 bF ⟨rfl,e3⟩
   have n3:=e3.n
   have s3:=kTSu bF
   have G3:=G2.up e3
   have hb3:=G3.oR
   have e4:=E0 h3 bF (.cells (eE ⟨1,1,(0,0),[],⟨0,r⟩⟩) .fix)
   have ee:eE ⟨1,1,(0,0),[],⟨0,r⟩⟩=[I 1,I 1,.str 0 0,.nils,I 0,I r,.str 0 0,.nils]:=rfl
   obtain⟨c',h5,Ut,o',ha,Vf,F⟩:=(G3.L.ext e4).Fm fe (by decide) (by decide) (by omega) ⟨1,1,(0,0),[],⟨0,r⟩⟩
   have F2:=(tO.pr e4 oL).trans F
   have Q5:=Vf.cell
   have hb5:aa bg h5=some (.cells (gB (jS mi) cL JM g2) .fix):=by rw[F2.g bg (by omega) (fun e=>(G3.lo bg e).2.1 rfl)];exact hb3
   obtain⟨G6,O6⟩:=G3.aki (g':={g2 with o:=ko g2.o 1 false}) (by omega) F2 Vf
   rw[ee] at ha
   simp[gB] at G6 O6
   simp[-appendTo,hb3,hb5,gB,eU,cl.1,cl.2,Q5.1,Q5.2,lb,ha]
   simp[bJ,p0,p4,gB]
   refine hQ _ _ _ ?_
   simp
   exact⟨rfl,_,_,_,_,_,_,G6,(O2.trans (Old.pr e3 (by omega))).trans O6,.ends 1 r (by omega) ho rfl (by rw[← e2])⟩
  simp only[bp,bw,bE] at last
  have mid:∀ (ay:T AV) (h2:T ag) (aH:Key) (g2:GS) (JM:AV) (MA:Option Key),aa (K 0) ay=some (.ptr bg 0)→aa (K 1) ay=some (I kk)→aa (K 4) ay=some (I 1)→ub bg n0 (jS mi) l g2 (k+1) cL JM oL MA h2 aH→g2.o=g.o→Old n0 h nx h2 aH→
    eP C (.seq (.ops dy) (.seq (.seq (.ops cg) (.cond (.t (K 53)) (.ops dz) .skip)) (.seq (.staged bI ⟨[K 56,K 57,K 58,K 59,K 60,K 61,K 62,K 63,K 64,K 65,K 66,K 67,K 68],[]⟩) (.seq (.ops bJ) .ret)))) Q ay h2 aH:=by
   intro ay h2 aH g2 JM MA p0 p1 p4 G2 e2 O2
   have Ch:=G2.oR
   simp
   simp[dy,p0,p4,Ch,gB]
   by_cases h8:e9=8
   ·have h8i:((e9:Int)==8)=true:=bt (by omega)
    simp[cg,p1,Vd,Ve,hm9,hw9,h8i]
    simp[dz]
    refine last _ _ _ g2 JM MA (cu .i64 (g2.d 1+1)) ?_ ?_ ?_ G2 e2 O2<;>simp[p0,p4]
   ·have h8i:((e9:Int)==8)=false:=bq (by omega)
    simp[cg,p1,Vd,Ve,hm9,hw9,h8i]
    refine last _ _ _ g2 JM MA (g2.d 1) ?_ ?_ ?_ G2 e2 O2<;>simp[p0,p4]
  simp only[bp,bw,bE,eu] at mid
  simp
  cases bO:g.lt 1 with
  |true=>
   simp[dx,q0,q4,hb,gB,bO]
   simp[gv,q0,q4,rA]
   refine(xP S G hk hn (c:=1) (by simp)).mono ?_
   rintro o h2 aH ⟨rfl,g',BH,Fo,G2,e2,O2⟩
   simp
   refine mid _ _ _ g' BH Fo ?_ ?_ ?_ G2 e2 O2<;>simp[q0,q1,q4]
  |false=>
   simp[dx,q0,q4,hb,gB,bO]
   refine mid _ _ _ g cQ oQ ?_ ?_ ?_ G.more rfl (Old.refl _ _ _)<;>simp[q0,q1,q4]
 ·have last:∀ (ay:T AV) (h2:T ag) (aH:Key) (g2:GS) (JM:AV) (MA:Option Key) (r:Int),aa (K 0) ay=some (.ptr bg 0)→aa (K 4) ay=some (I 2)→aa (K 5) ay=some (I r)→ub bg n0 (jS mi) l g2 (k+1) cL JM oL MA h2 aH→g2.o=g.o→Old n0 h nx h2 aH→
    eP C (.seq (.staged bI ⟨[K 56,K 57,K 58,K 59,K 60,K 61,K 62,K 63,K 64,K 65,K 66,K 67,K 68],[]⟩) (.seq (.ops bJ) .ret)) Q ay h2 aH:=by
   intro ay h2 aH g2 JM MA r p0 p4 p5 G2 e2 O2
   have Ch:=G2.oR
   have bn2:=G2.bn
   have n2:=O2.n
   obtain⟨len,_,hQ2⟩:=G2.Q
   have cc:=hQ2.cell
   have cl:=G2.L.cell
   have lb:=G2.L.lits fe
   simp
   simp[-appendTo,bI,p0,p4,p5,Ch,gB,rN]
   refine(uc S r).mono ?_
   rintro o h3 bF ⟨rfl,e3⟩
   have n3:=e3.n
   have s3:=kTSu bF
   have G3:=G2.up e3
   have hb3:=G3.oR
   have e4:=E0 h3 bF (.cells (eE ⟨1,2,(0,0),[],⟨0,r⟩⟩) .fix)
   have ee:eE ⟨1,2,(0,0),[],⟨0,r⟩⟩=[I 1,I 2,.str 0 0,.nils,I 0,I r,.str 0 0,.nils]:=rfl
   obtain⟨c',h5,Ut,o',ha,Vf,F⟩:=(G3.L.ext e4).Fm fe (by decide) (by decide) (by omega) ⟨1,2,(0,0),[],⟨0,r⟩⟩
   have F2:=(tO.pr e4 oL).trans F
   have Q5:=Vf.cell
   have hb5:aa bg h5=some (.cells (gB (jS mi) cL JM g2) .fix):=by rw[F2.g bg (by omega) (fun e=>(G3.lo bg e).2.1 rfl)];exact hb3
   obtain⟨G6,O6⟩:=G3.aki (g':={g2 with o:=ko g2.o 2 false}) (by omega) F2 Vf
   rw[ee] at ha
   simp[gB] at G6 O6
   simp[-appendTo,hb3,hb5,gB,eU,cl.1,cl.2,Q5.1,Q5.2,lb,ha]
   simp[bJ,p0,p4,gB]
   refine hQ _ _ _ ?_
   simp
   exact⟨rfl,_,_,_,_,_,_,G6,(O2.trans (Old.pr e3 (by omega))).trans O6,.ends 2 r (by omega) ho rfl (by rw[← e2])⟩
  simp only[bp,bw,bE] at last
  have mid:∀ (ay:T AV) (h2:T ag) (aH:Key) (g2:GS) (JM:AV) (MA:Option Key),aa (K 0) ay=some (.ptr bg 0)→aa (K 1) ay=some (I kk)→aa (K 4) ay=some (I 2)→ub bg n0 (jS mi) l g2 (k+1) cL JM oL MA h2 aH→g2.o=g.o→Old n0 h nx h2 aH→
    eP C (.seq (.ops dy) (.seq (.seq (.ops cg) (.cond (.t (K 53)) (.ops dz) .skip)) (.seq (.staged bI ⟨[K 56,K 57,K 58,K 59,K 60,K 61,K 62,K 63,K 64,K 65,K 66,K 67,K 68],[]⟩) (.seq (.ops bJ) .ret)))) Q ay h2 aH:=by
   intro ay h2 aH g2 JM MA p0 p1 p4 G2 e2 O2
   have Ch:=G2.oR
   simp
   simp[dy,p0,p4,Ch,gB]
   by_cases h8:e9=8
   ·have h8i:((e9:Int)==8)=true:=bt (by omega)
    simp[cg,p1,Vd,Ve,hm9,hw9,h8i]
    simp[dz]
    refine last _ _ _ g2 JM MA (cu .i64 (g2.d 2+1)) ?_ ?_ ?_ G2 e2 O2<;>simp[p0,p4]
   ·have h8i:((e9:Int)==8)=false:=bq (by omega)
    simp[cg,p1,Vd,Ve,hm9,hw9,h8i]
    refine last _ _ _ g2 JM MA (g2.d 2) ?_ ?_ ?_ G2 e2 O2<;>simp[p0,p4]
  simp only[bp,bw,bE,eu] at mid
  simp
  cases bO:g.lt 2 with
  |true=>
   simp[dx,q0,q4,hb,gB,bO]
   simp[gv,q0,q4,rA]
   refine(xP S G hk hn (c:=2) (by simp)).mono ?_
   rintro o h2 aH ⟨rfl,g',BH,Fo,G2,e2,O2⟩
   simp
   refine mid _ _ _ g' BH Fo ?_ ?_ ?_ G2 e2 O2<;>simp[q0,q1,q4]
  |false=>
   simp[dx,q0,q4,hb,gB,bO]
   refine mid _ _ _ g cQ oQ ?_ ?_ ?_ G.more rfl (Old.refl _ _ _)<;>simp[q0,q1,q4]
end Ln
