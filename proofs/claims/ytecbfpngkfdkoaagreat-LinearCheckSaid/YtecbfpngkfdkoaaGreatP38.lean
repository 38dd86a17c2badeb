/- A part of the proof. No condition. -/
import Derived.Test.YtecbfpngkfdkoaaGreatP37
import Derived.Test.YtecbfpngkfdkoaaGreatP8
import Derived.Test.YtecbfpngkfdkoaaGreatP12
set_option linter.unusedSimpArgs false
set_option linter.unusedVariables false
set_option linter.unusedSectionVars false
namespace Ln
open Go.Sx Go
variable{C:dm}{X:Kn}(S:Std C X)
include S
theorem Ld{mi:Nat}{os:List Op}{cO:AV}(hc:iD 10 eO cO os){x:Nat}{o:Op}{c:gE}(hx:ajS mi os x o c){s s0:St}(hs:gM mi s){h:T ah}{nx bj:Key}(hb:aa bj h=some (.cells (wB X mi cO s0) .fix))(C3:bj.toNat<nx.toNat) :
  aO C dG [.ptr bj 0,I x,.agg (eS s)] h nx (fun out h' nx'=>ap5 X c o s out∧Ext h nx h' nx'):=by
 obtain⟨hxo,hn,Pa,rfl⟩:=hx
 obtain⟨AZ,hox⟩:=List.getElem?_eq_some_iff.1 hxo
 have s1:=kTSu nx
 have s2:=kTSu nx.succ
 have s3:=kTSu nx.succ.succ
 have rC:C.raw Cg=false:=S.nr (by decide)
 have rH:C.raw wD=false:=S.nr (by decide)
 have rN:C.raw yZ=false:=S.nr (by decide)
 have fi:cO=.sl (ai eO os) os.length 10 .any:=by
  rcases hc with⟨_,rfl⟩|e
  ·simp at AZ
  ·exact e
 subst fi
 have ec:=cG.at AZ
 have hr:=cG.rows os
 have tx:10≤os.length*10-x*10:=by omega
 have Qi:(eO os[x]).all AV.aK=true:=zr.2 (cG.cell _)
 rw[hox] at ec Qi
 have scC:=S.as0 c s o.args hs Pa
 have scH:=S.UU c s o.args o.res hs Pa
 have scN:=S.amT c s o.args o.res hs Pa
 have Gx:X.take c o s=if X.LI c s o.args≠0∨X.LH c s o.args=false then none
  else if 0≤o.e∧(X.od c s o.args o.res≠0∨X.oa c s o.args o.res=false) then none
  else if X.tO c s o.args o.res≠0 then none else some (X.ql c s o.args o.res):=rfl
 refine S.Ch.call ?_
 simp[y0]
 simp[zV,xm,lenS]
 have e2:=(E0 h nx (.cells (eS s) .fix)).trans (E0 _ nx.succ (.cells [I 0,I 0,.str 0 0,.nils] .fix))
 have bs2:aa nx (av nx.succ (some (.cells [I 0,I 0,.str 0 0,.nils] .fix)) (av nx (some (.cells (eS s) .fix)) h))=some (.cells (eS s) .fix):=by rw[az (by omega)];simp
 have b62:aa nx.succ (av nx.succ (some (.cells [I 0,I 0,.str 0 0,.nils] .fix)) (av nx (some (.cells (eS s) .fix)) h))=some (.cells [I 0,I 0,.str 0 0,.nils] .fix):=by simp
 have Lf:aa bj (av nx.succ (some (.cells [I 0,I 0,.str 0 0,.nils] .fix)) (av nx (some (.cells (eS s) .fix)) h))=some (.cells (wB X c.qm (.sl (ai eO os) os.length 10 .any) s0) .fix):=by rw[e2.g bj C3];exact hb
 generalize av nx.succ (some (.cells [I 0,I 0,.str 0 0,.nils] .fix)) (av nx (some (.cells (eS s) .fix)) h)=h2 at *
 simp[zX,Lf,wB,AZ,hr,tx,ec,GI,O0,Qi]
 have e3:=E0 h2 nx.succ.succ (.cells (eO o) .fix)
 have bo3:aa nx.succ.succ (av nx.succ.succ (some (.cells (eO o) .fix)) h2)=some (.cells (eO o) .fix):=by simp
 have bs3:aa nx (av nx.succ.succ (some (.cells (eO o) .fix)) h2)=some (.cells (eS s) .fix):=by rw[e3.g nx (by omega)];exact bs2
 have b63:aa nx.succ (av nx.succ.succ (some (.cells (eO o) .fix)) h2)=some (.cells [I 0,I 0,.str 0 0,.nils] .fix):=by rw[e3.g nx.succ (by omega)];exact b62
 have Oj:aa bj (av nx.succ.succ (some (.cells (eO o) .fix)) h2)=some (.cells (wB X c.qm (.sl (ai eO os) os.length 10 .any) s0) .fix):=by rw[e3.g bj (by omega)];exact Lf
 have H5:=e2.trans e3
 generalize av nx.succ.succ (some (.cells (eO o) .fix)) h2=h3 at *
 have af:∀ n H,aY n (aB o.args) H=(aB o.args,H):=dB _
 have done:∀ (c6:List AV),Ext h nx (av nx.succ (some (.cells c6 .fix)) h3) nx.succ.succ.succ:=fun c6=>H5.put (by omega)
 simp[zY,Oj,wB,bo3,bs3,eO,hn,rC,vD,lenS,C8,af]
 refine aO.known (scC _ _) ?_
 simp
 have tr:X.take c o s=none→ap5 X c o s (.ret (.tuple [.agg [I 0,I 0,.str 0 0,.nils],.bool false])):=fun e=>⟨⟨0,0,[]⟩,by rw[e];rfl,by rw[e];simp⟩
 by_cases h1:X.LI c s o.args=0
 ·cases h2:X.LH c s o.args with
  |false=>
   have ht:X.take c o s=none:=by rw[Gx,if_pos (.inr h2)]
   simp[lL,h1]
   simp[qY,b63]
   exact⟨tr ht,done _⟩
  |true=>
   have jP:X.take c o s=if 0≤o.e∧(X.od c s o.args o.res≠0∨X.oa c s o.args o.res=false) then none else if X.tO c s o.args o.res≠0 then none else some (X.ql c s o.args o.res):=by
    rw[Gx,if_neg];rw[h1,h2];simp
   have s4:=kTSu nx.succ.succ.succ
   simp[lL,h1]
   have last:∀ tm2:T AV,aa (K 0) tm2=some (.ptr bj 0)→aa (K 5) tm2=some (.ptr nx 0)→aa (K 6) tm2=some (.ptr nx.succ 0)→aa (K 8) tm2=some (.ptr nx.succ.succ 0)→(X.take c o s=if X.tO c s o.args o.res≠0 then none else some (X.ql c s o.args o.res))→
     dz C (.seq (.staged qZ ⟨[K 84,K 85,K 86,K 87,K 88,K 89,K 90,K 91,K 92,K 93,K 94,K 95,K 96,K 97,K 98,K 99,K 100,K 101,K 102,K 103,K 83,K 104,K 105,K 13,K 14],[]⟩) (.seq (.ops ph) .ret)) (bb [.cell (K 6) true 4,.tmp (K 7)] fun out h' nx'=>ap5 X c o s out∧Ext h nx h' nx') tm2 h3 nx.succ.succ.succ:=by
    intro tm2 q0 q5 q6 q8 ht
    simp
    simp[qZ,q0,q5,q8,Oj,wB,bo3,bs3,eO,hn,rN,vD,lenS,C8,af]
    refine aO.known (scN _ _) ?_
    simp[xm,lenS,GH]
    have b64:aa nx.succ (av nx.succ.succ.succ (some (.cells (eS (X.ql c s o.args o.res)) .fix)) h3)=some (.cells [I 0,I 0,.str 0 0,.nils] .fix):=by rw[az (by omega)];exact b63
    simp[ph,q6,b64,xm,lenS,vD,C8]
    refine⟨⟨X.ql c s o.args o.res,?_,?_⟩,?_⟩
    ·rw[ht]
     by_cases he:X.tO c s o.args o.res=0
     ·rw[if_neg (by simpa using he),bt he];rfl
     ·rw[if_pos he,bq he];rfl
    ·intro t hts
     rw[ht] at hts
     split at hts
     ·cases hts
     ·exact Option.some.inj hts
    ·exact⟨by have:=H5.n;omega,fun b hb=>by rw[az (by omega),az (by omega)];exact H5.g b hb⟩
   simp only[aL,aM] at last
   by_cases he:o.e<0
   ·rw[if_neg (by omega)] at jP
    simp[ra,bo3,eO,he]
    refine last _ ?_ ?_ ?_ ?_ jP<;>simp
   ·simp[ra,bo3,eO,he]
    simp[zZ,Oj,wB,bo3,bs3,eO,hn,rH,vD,lenS,C8,af]
    refine aO.known (scH _ _) ?_
    simp
    by_cases PV:X.od c s o.args o.res=0
    ·cases h4:X.oa c s o.args o.res with
     |false=>
      rw[if_pos ⟨by omega,.inr h4⟩] at jP
      simp[lM,PV]
      simp[rm,b63]
      exact⟨tr jP,done _⟩
     |true=>
      rw[if_neg (by rw[PV,h4];simp)] at jP
      simp[lM,PV]
      refine last _ ?_ ?_ ?_ ?_ jP<;>simp
    ·rw[if_pos ⟨by omega,.inl PV⟩] at jP
     simp[lM,bq PV]
     simp[rm,b63]
     exact⟨tr jP,done _⟩
 ·have ht:X.take c o s=none:=by rw[Gx,if_pos (.inl h1)]
  simp[lL,bq h1]
  simp[qY,b63]
  exact⟨tr ht,done _⟩
end Ln
/-
 LN: Check: the program. No condition.
-/
namespace Ln
open Go.Sx Go
def cm(i:Nat)(o:Op):gE:=(m7 i o.name).getD default
def Kn.run(X:Kn)(i:Nat)(os:List Op):List Int→St→Bool
 | [],_=>true
 |x ::l,s=>match X.take (cm i (at_ os x)) (at_ os x) s with
  |none=>false
  |some t=>X.run i os l t
noncomputable def Kn.check(X:Kn)(i:Nat)(l:List Ev)(ord:List Int):Int:=if mu i l=0 then(if dW (cv 0 l) ord=true then(if X.run i (cv 0 l) ord (bL i)=true then 0 else 25) else 12) else mu i l
theorem BQ{i:Nat}{l:List Ev}(h:mu i l=0):bC [] l=0∧lg i (cv 0 l)=0:=by
 unfold mu at h
 by_cases hv:bC [] l=0
 ·rw[if_pos hv] at h;exact⟨hv,h⟩
 ·rw[if_neg hv] at h
  exfalso
  unfold hZ at h
  split at h
  ·exact hv ‹_›
  ·exact absurd h (by decide)
  ·exact absurd h (by decide)
  ·exact absurd h (by decide)
theorem FI{i:Nat}(hi:i<3){os:List Op}(hb:lg i os=0){x:Nat}{o:Op}(h:os[x]?=some o):ajS i os x o (cm i o):=by
 obtain⟨c,h1,h2⟩:=ao3 hb o (List.mem_of_getElem? h)
 have e:cm i o=c:=by unfold cm;rw[h1];rfl
 rw[e]
 exact⟨h,(M6 h1).1.symm,h2,ap8 hi h1⟩
theorem R0{i:Nat}(hi:i<3):gM i (bL i):=by
 unfold gM bL wb
 split<;>simp
variable{C:dm}{X:Kn}(S:Std C X)
def CkI(X:Kn)(i:Nat)(os:List Op)(ord:List Int)(c3:AV)(bj bs:Key)(s0:St)(h:T ah)(nx:Key)(cells:List AV)(m:Nat)(an:T AV)(h':T ah)(nx':Key):Prop:=∃ (j:Nat) (s:St),m=ord.length-j∧j≤ord.length∧aa (K 11) an=some (.ptr bj 0)∧aa (K 13) an=some (.ptr bs 0)∧aa (K 41) an=some c3∧aa (K 42) an=some (I ord.length)∧aa (K 43) an=some (I j)∧
 aa bj h'=some (.cells cells .fix)∧aa bs h'=some (.cells (eS s) .fix)∧bj.toNat<nx'.toNat∧bs.toNat<nx'.toNat∧Ext h nx h' nx'∧gM i s∧X.run i os ord s0=X.run i os (ord.drop j) s
include S
theorem aw4{i:Nat}(hi:i<3){os:List Op}(pU:lg i os=0){ord:List Int}(hlen:ord.length≤1000)(Fe:∀ x∈ord,0≤x∧x<os.length){c3 cO:AV}(hc:iD 10 eO cO os){bj bs:Key}{s0 s1:St}{e:Nat}{h:T ah}{nx:Key}{Q:cX}(hbs:nx.toNat≤bs.toNat)(bI:bj≠bs)(o0:Ord c3 ord ord.length h nx){m:Nat}{tm:T AV}{h1:T ah}{bM:Key}(A:CkI X i os ord c3 bj bs s0 h nx (jB X i cO s1 e) m tm h1 bM)
  (gH:∀ an h' nx',aa (K 10) an=some (I 25)→X.run i os ord s0=false→Ext h nx h' nx'→Q .ret an h' nx')
  (cH:∀ an h' nx',X.run i os ord s0=true→Ext h nx h' nx'→Q .norm an h' nx') :
  W C (.loop lP) (ak 0 Q) tm h1 bM:=by
 have rp:C.raw dR=false:=S.nr (by decide)
 refine W.di (CkI X i os ord c3 bj bs s0 h nx (jB X i cO s1 e)) A ?_
 rintro m cu h2 aI ⟨j,s,rfl,hj,g11,g13,g41,g42,g43,Lf,bs2,ltj,lts,e2,hs,ch⟩
 refine W.of ?_
 simp[lP]
 by_cases aR:j<ord.length
 ·have sB:(j:Int)<ord.length:=by omega
  have rj:=Fe _ (JW aR)
  obtain⟨x,hx⟩:=Int.eq_ofNat_of_zero_le rj.1
  have AZ:x<os.length:=by omega
  have Oi:=FI hi pU (Fo AZ)
  have EP:=H7 hx AZ
  rw[zqt aR] at ch
  have hru:X.run i os (ord[j] ::ord.drop (j+1)) s=match X.take (cm i os[x]) os[x] s with|none=>false|some t=>X.run i os (ord.drop (j+1)) t:=by
   show(match X.take (cm i (at_ os ord[j])) (at_ os ord[j]) s with|none=>false|some t=>X.run i os (ord.drop (j+1)) t)=_
   rw[EP]
  rw[hru] at ch
  have n2:=e2.n
  simp[rX,g42,g43,sB]
  have body:∀ tm2:T AV,(∀ k:Key,k=K 11∨k=K 13∨k=K 41∨k=K 42∨k=K 43→aa k tm2=aa k cu)→aa (K 15) tm2=some (I ord[j])→
    dz C (.seq (.ops pt) (.seq (.seq (.ops kn) (.cond (.t (K 55)) (.seq (.ops pw) .ret) .skip)) (.ops py))) (ak 1 (aq (dz C (.ops pz) (aq (fun tm h' nx'=>∃ m,m<ord.length-j∧CkI X i os ord c3 bj bs s0 h nx (jB X i cO s1 e) m tm h' nx') (ak 0 Q))) (aq (fun tm h' nx'=>∃ m,m<ord.length-j∧CkI X i os ord c3 bj bs s0 h nx (jB X i cO s1 e) m tm h' nx') (ak 0 Q)))) tm2 h2 aI:=by
   intro tm2 q q15
   have DL:=(q (K 11) (by simp)).trans g11
   have q13:=(q (K 13) (by simp)).trans g13
   have q41:=(q (K 41) (by simp)).trans g41
   have q42:=(q (K 42) (by simp)).trans g42
   have q43:=(q (K 43) (by simp)).trans g43
   rw[hx] at q15
   simp
   simp[pt,DL,q13,q15,bs2,lenS,vD,rp,C8]
   refine(asv S hc Oi hs Lf ltj).mono ?_
   rintro out h3 bu ⟨⟨u,rfl,hu⟩,e3⟩
   have n3:=e3.n
   have s3:=kTSu bu
   simp[xm,lenS,GH]
   have e4:=E0 h3 bu (.cells (eS u) .fix)
   have b16:aa bu (av bu (some (.cells (eS u) .fix)) h3)=some (.cells (eS u) .fix):=by simp
   have bs4:aa bs (av bu (some (.cells (eS u) .fix)) h3)=some (.cells (eS s) .fix):=by rw[e4.g bs (by omega),e3.g bs lts];exact bs2
   have TA:aa bj (av bu (some (.cells (eS u) .fix)) h3)=some (.cells (jB X i cO s1 e) .fix):=by rw[e4.g bj (by omega),e3.g bj ltj];exact Lf
   have Da:=(e2.trans e3).trans e4
   generalize av bu (some (.cells (eS u) .fix)) h3=h4 at *
   cases ht:X.take (cm i os[x]) os[x] s with
   |none=>
    rw[ht] at ch
    simp[kn]
    simp[pw]
    refine gH _ _ _ ?_ ch Da
    simp
   |some t=>
    rw[ht] at ch
    have:=hu t ht
    subst this
    simp[kn]
    simp[py,q13,b16,bs4,lenS,vD,GH,xm]
    simp[pz,q43]
    rw[au (by omega) (by omega)]
    refine⟨ord.length-(j+1),by omega,j+1,u,rfl,by omega,by simp[DL],by simp[q13],by simp[q41],by simp[q42],by simp,by rw[bZ _ _ _ _ bI];exact TA,by simp,by omega,by omega,Da.put hbs,?_,ch⟩
    have:=S.ok.take (cm i os[x]) os[x] s u (by rw[Oi.qm];exact hs) Oi.ar ht
    rw[Oi.qm] at this;exact this
  simp only[aL,aQ] at body
  rcases (o0.ext e2).cases with⟨_,e'⟩|⟨f,e'⟩|⟨b,kd,e',hb,C3⟩
  ·rw[e'] at aR;simp at aR
  ·have jo:1≤ord.length-j:=by omega
   have mq:(ai eI ord).length=ord.length:=bU _
   have P7:=jb aR
   have aiy:=g41
   rw[e'] at aiy
   simp[rY,aiy,g43,aR,mq,jo,P7]
   refine body _ ?_ ?_
   ·rintro k (rfl|rfl|rfl|rfl|rfl)<;>simp
   ·simp
  ·have mq:(ai eI ord).length=ord.length:=bU _
   have aiy:=g41
   rw[e'] at aiy
   simp[rY,aiy,g43,aR,mq,hb]
   refine body _ ?_ ?_
   ·rintro k (rfl|rfl|rfl|rfl|rfl)<;>simp
   ·simp
 ·have nS:j=ord.length:=by omega
  subst nS
  rw[List.drop_length] at ch
  simp[rX,g42,g43]
  exact cH _ _ _ ch e2
end Ln
/-
 LN: Check: the program, all of it. No condition.
-/
namespace Ln
open Go.Sx Go
variable{C:dm}{X:Kn}(S:Std C X)
include S
theorem Uo{i:Nat}(hi:i<3){ev:AV}{l:List Ev}(hv:iD 8 eE ev l)(hl:Tu l){c3:AV}{ord:List Int}(hlen:ord.length≤1000){h:T ah}{nx:Key}(o0:Ord c3 ord ord.length h nx) :
  aO C fo [X.m,dE i,ev,c3,jG] h nx (fun o h' nx'=>o=.ret (I (X.check i l ord))∧Ext h nx h' nx'):=by
 have s1:=kTSu nx
 have s2:=kTSu nx.succ
 have rb:C.raw jR=false:=S.nr (by decide)
 have rL:C.raw gW=true:=S.rw (by decide)
 have hz:∀ H,aY 9999 ev H=(ev,H):=fun H=>hv.Fl _ _
 have tG:(cv 0 l).length≤16:=by have:=qg l 0;have:=hl.len;omega
 refine S.Cp.call ?_
 simp[y9]
 simp[AN,Kn.m,jG]
 have e2:=(E0 h nx (.cells [.sl X.rows 7 45 .any] .fix)).trans (E0 _ nx.succ (.cells [I 200,I 50] .fix))
 have Qh:aa nx (av nx.succ (some (.cells [I 200,I 50] .fix)) (av nx (some (.cells [.sl X.rows 7 45 .any] .fix)) h))=some (.cells [.sl X.rows 7 45 .any] .fix):=by rw[az (by omega)];simp
 have bl2:aa nx.succ (av nx.succ (some (.cells [I 200,I 50] .fix)) (av nx (some (.cells [.sl X.rows 7 45 .any] .fix)) h))=some (.cells [I 200,I 50] .fix):=by simp
 generalize av nx.succ (some (.cells [I 200,I 50] .fix)) (av nx (some (.cells [.sl X.rows 7 45 .any] .fix)) h)=h2 at *
 simp[AO,Qh,bl2,rb,hz]
 refine(at7 S hi hv hl).mono ?_
 rintro o h3 bu ⟨e3,hR⟩
 have H5:=e2.trans e3
 have n3:=e3.n
 rcases hR with⟨bI,rfl⟩|⟨kV,bj,cO,rfl,Oj,hc,bj0,bjn⟩
 ·have wj:X.check i l ord=mu i l:=by unfold Kn.check;rw[if_neg bI]
  simp
  simp[su,bq bI]
  simp[AP]
  exact⟨wj.symm,H5⟩
 ·obtain⟨Qb,pU⟩:=BQ kV
  have wj:X.check i l ord=if dW (cv 0 l) ord=true then(if X.run i (cv 0 l) ord (bL i)=true then 0 else 25) else 12:=by unfold Kn.check;rw[if_pos kV]
  simp
  simp[su]
  simp[AQ,Oj,jB,rL]
  refine(aw3 S tG hlen hc (o0.ext H5)).mono ?_
  rintro o h4 mB ⟨rfl,e4⟩
  have TA:aa bj h4=some (.cells (jB X i cO (bL i) (tw (cv 0 l) (cv 0 l).length)) .fix):=by rw[e4.g bj bjn];exact Oj
  have Da:=H5.trans e4
  have n4:=e4.n
  have s4:=kTSu mB
  cases hL:dW (cv 0 l) ord with
  |false=>
   rw[hL] at wj
   simp
   simp[AR]
   exact⟨by rw[wj];rfl,Da⟩
  |true=>
   rw[hL,if_pos rfl] at wj
   have Fe:∀ x∈ord,0≤x∧x<(cv 0 l).length:=by
    by_cases ast:Lin (cv 0 l) ord
    ·exact ast.Fe
    ·rw[dV ast] at hL;cases hL
   simp
   have e5:=E0 h4 mB (.cells (eS (bL i)) .fix)
   have bs5:aa mB (av mB (some (.cells (eS (bL i)) .fix)) h4)=some (.cells (eS (bL i)) .fix):=by simp
   have bj5:aa bj (av mB (some (.cells (eS (bL i)) .fix)) h4)=some (.cells (jB X i cO (bL i) (tw (cv 0 l) (cv 0 l).length)) .fix):=by rw[e5.g bj (by omega)];exact TA
   have e25:=Da.trans e5
   have Qi:=(bc (bL i).kids).1
   simp[AS,TA,jB,Qi]
   have ees:eS (bL i)=[I (bL i).k,I (bL i).n,.str 0 0,aB (bL i).kids]:=rfl
   rw[ees] at bs5 bj5 e25
   have main:∀ tm2:T AV,aa (K 11) tm2=some (.ptr bj 0)→aa (K 13) tm2=some (.ptr mB 0)→aa (K 41) tm2=some c3→aa (K 42) tm2=some (I ord.length)→aa (K 43) tm2=some (I 0)→
     W C (.loop lP) (ak 0 (aq (dz C (.seq (.ops pQ) .ret) (bb [.tmp (K 10)] fun o h' nx'=>o=.ret (I (X.check i l ord))∧Ext h nx h' nx')) (bb [.tmp (K 10)] fun o h' nx'=>o=.ret (I (X.check i l ord))∧Ext h nx h' nx'))) tm2 (av mB (some (.cells [I (bL i).k,I (bL i).n,.str 0 0,aB (bL i).kids] .fix)) h4) mB.succ:=by
    intro tm2 DL q13 q41 q42 q43
    refine aw4 S hi pU hlen Fe hc (h:=h) (nx:=nx) (bj:=bj) (bs:=mB) (s0:=bL i) (s1:=bL i) (e:=tw (cv 0 l) (cv 0 l).length) (by have:=Da.n;omega) (by rintro rfl;omega) o0 (m:=ord.length) ⟨0,bL i,by simp,by omega,DL,q13,q41,q42,by simpa using q43,bj5,bs5,by omega,by omega,e25,R0 hi,rfl⟩ ?_ ?_
    ·intro an h' nx' A9 hr e'
     rw[hr] at wj
     simp[A9]
     exact⟨by rw[wj];rfl,e'⟩
    ·intro an h' nx' hr e'
     rw[hr,if_pos rfl] at wj
     simp
     simp[pQ]
     exact⟨by rw[wj],e'⟩
   rcases FH S o0 with⟨e,e'⟩|⟨l',f,e⟩|⟨b,e⟩
   ·have hl0:(ord.length:Int)=0:=by omega
    rw[hl0] at main
    simp[lT,e]
    refine main _ ?_ ?_ ?_ ?_ ?_<;>simp[e]
   ·simp[lT,e]
    refine main _ ?_ ?_ ?_ ?_ ?_<;>simp[e]
   ·simp[lT,e]
    refine main _ ?_ ?_ ?_ ?_ ?_<;>simp[e]
end Ln
/-
 LN: Check: the reference. No condition.
-/
namespace Ln
open Go.Sx Go
variable{C:dm}{X:Kn}(S:Std C X)
def RkI(X:Kn)(i:Nat)(os:List Op)(ord:List Int)(c3:AV)(bj bs:Key)(s0:St)(h:T ah)(nx:Key)(cells:List AV)(m:Nat)(an:T AV)(h':T ah)(nx':Key):Prop:=∃ (j:Nat) (s:St),m=ord.length-j∧j≤ord.length∧aa (K 3) an=some c3∧aa (K 11) an=some (.ptr bj 0)∧aa (K 13) an=some (.ptr bs 0)∧aa (K 14) an=some (I j)∧
 aa bj h'=some (.cells cells .fix)∧aa bs h'=some (.cells (eS s) .fix)∧bj.toNat<nx'.toNat∧bs.toNat<nx'.toNat∧Ext h nx h' nx'∧gM i s∧X.run i os ord s0=X.run i os (ord.drop j) s
include S
theorem avL{i:Nat}(hi:i<3){os:List Op}(pU:lg i os=0){ord:List Int}(hlen:ord.length≤1000)(Fe:∀ x∈ord,0≤x∧x<os.length){c3 cO:AV}(hc:iD 10 eO cO os){bj bs:Key}{s0 s1:St}{h:T ah}{nx:Key}{Q:cX}(hbs:nx.toNat≤bs.toNat)(bI:bj≠bs)(o0:Ord c3 ord ord.length h nx){m:Nat}{tm:T AV}{h1:T ah}{bM:Key}(A:RkI X i os ord c3 bj bs s0 h nx (wB X i cO s1) m tm h1 bM)
  (gH:∀ an h' nx',aa (K 10) an=some (I 25)→X.run i os ord s0=false→Ext h nx h' nx'→Q .ret an h' nx')
  (cH:∀ an h' nx',X.run i os ord s0=true→Ext h nx h' nx'→Q .norm an h' nx') :
  W C (.loop um) (ak 0 Q) tm h1 bM:=by
 have rp:C.raw dG=false:=S.nr (by decide)
 refine W.di (RkI X i os ord c3 bj bs s0 h nx (wB X i cO s1)) A ?_
 rintro m cu h2 aI ⟨j,s,rfl,hj,g3,g11,g13,Fb,Lf,bs2,ltj,lts,e2,hs,ch⟩
 refine W.of ?_
 simp[um]
 by_cases aR:j<ord.length
 ·have sB:(j:Int)<ord.length:=by omega
  have rj:=Fe _ (JW aR)
  obtain⟨x,hx⟩:=Int.eq_ofNat_of_zero_le rj.1
  have AZ:x<os.length:=by omega
  have Oi:=FI hi pU (Fo AZ)
  have EP:=H7 hx AZ
  rw[zqt aR] at ch
  have hru:X.run i os (ord[j] ::ord.drop (j+1)) s=match X.take (cm i os[x]) os[x] s with|none=>false|some t=>X.run i os (ord.drop (j+1)) t:=by
   show(match X.take (cm i (at_ os ord[j])) (at_ os ord[j]) s with|none=>false|some t=>X.run i os (ord.drop (j+1)) t)=_
   rw[EP]
  rw[hru] at ch
  have n2:=e2.n
  have s2:=kTSu aI
  have aQx:aa bj h2=some (.cells (wB X i cO s1) .fix):=Lf
  have body:∀ (tm2:T AV) (h3:T ah) (bu:Key) (u:St),(∀ k:Key,k=K 3∨k=K 11∨k=K 13∨k=K 14→aa k tm2=aa k cu)→aa (K 15) tm2=some (.ptr aI 0)→aa (K 16) tm2=some (.bool (X.take (cm i os[x]) os[x] s).isSome)→(∀ t,X.take (cm i os[x]) os[x] s=some t→u=t)→Ext h2 aI.succ h3 bu→
    dz C (.seq (.seq (.ops lJ) (.cond (.t (K 56)) (.seq (.ops qT) .ret) .skip)) (.ops qU)) (ak 1 (aq (dz C (.ops qV) (aq (fun tm h' nx'=>∃ m,m<ord.length-j∧RkI X i os ord c3 bj bs s0 h nx (wB X i cO s1) m tm h' nx') (ak 0 Q))) (aq (fun tm h' nx'=>∃ m,m<ord.length-j∧RkI X i os ord c3 bj bs s0 h nx (wB X i cO s1) m tm h' nx') (ak 0 Q)))) tm2 (av aI (some (.cells (eS u) .fix)) h3) bu:=by
   intro tm2 h3 bu u q q15 UD hu e3
   have q3:=(q (K 3) (by simp)).trans g3
   have DL:=(q (K 11) (by simp)).trans g11
   have q13:=(q (K 13) (by simp)).trans g13
   have Qt:=(q (K 14) (by simp)).trans Fb
   have n3:=e3.n
   have b16:aa aI (av aI (some (.cells (eS u) .fix)) h3)=some (.cells (eS u) .fix):=by simp
   have bs4:aa bs (av aI (some (.cells (eS u) .fix)) h3)=some (.cells (eS s) .fix):=by rw[az lts,e3.g bs (by omega)];exact bs2
   have TA:aa bj (av aI (some (.cells (eS u) .fix)) h3)=some (.cells (wB X i cO s1) .fix):=by rw[az ltj,e3.g bj (by omega)];exact Lf
   have Da:Ext h nx (av aI (some (.cells (eS u) .fix)) h3) bu:=⟨by omega,fun b hb=>by rw[az (by omega),e3.g b (by omega)];exact e2.g b hb⟩
   generalize av aI (some (.cells (eS u) .fix)) h3=h4 at *
   simp
   cases ht:X.take (cm i os[x]) os[x] s with
   |none=>
    rw[ht] at ch UD
    simp[lJ,UD]
    simp[qT]
    refine gH _ _ _ ?_ ch Da
    simp
   |some t=>
    rw[ht] at ch UD
    have:=hu t ht
    subst this
    simp[lJ,UD]
    simp[qU,q13,q15,b16,bs4,lenS,vD,GH,xm]
    simp[qV,Qt]
    rw[au (by omega) (by omega)]
    refine⟨ord.length-(j+1),by omega,j+1,u,rfl,by omega,by simp[q3],by simp[DL],by simp[q13],by simp,by rw[bZ _ _ _ _ bI];exact TA,by simp,by omega,by omega,Da.put hbs,?_,ch⟩
    have:=S.ok.take (cm i os[x]) os[x] s u (by rw[Oi.qm];exact hs) Oi.ar ht
    rw[Oi.qm] at this;exact this
  simp only[aL,aQ] at body
  rcases (o0.ext e2).cases with⟨_,e'⟩|⟨f,e'⟩|⟨b,kd,e',hb,C3⟩
  ·rw[e'] at aR;simp at aR
  ·have jo:1≤ord.length-j:=by omega
   have mq:(ai eI ord).length=ord.length:=bU _
   have P7:=jb aR
   rw[hx] at P7
   have g3':=g3
   rw[e'] at g3'
   simp[gS,g3',Fb,sB]
   simp[uo,g3',g11,g13,Fb,aR,mq,jo,P7,bs2,lenS,vD,rp,C8]
   refine(Ld S hc Oi hs Lf (by omega)).mono ?_
   rintro out h3 bu ⟨⟨u,rfl,hu⟩,e3⟩
   simp[xm,lenS,GH]
   refine body _ h3 bu u ?_ ?_ ?_ hu e3
   ·rintro k (rfl|rfl|rfl|rfl)<;>simp[g3,e']
   all_goals simp
  ·have mq:(ai eI ord).length=ord.length:=bU _
   have g3':=g3
   rw[e'] at g3'
   simp[gS,g3',Fb,sB]
   simp[uo,g3',g11,g13,Fb,aR,mq,hb,hx,bs2,lenS,vD,rp,C8]
   refine(Ld S hc Oi hs Lf (by omega)).mono ?_
   rintro out h3 bu ⟨⟨u,rfl,hu⟩,e3⟩
   simp[xm,lenS,GH]
   refine body _ h3 bu u ?_ ?_ ?_ hu e3
   ·rintro k (rfl|rfl|rfl|rfl)<;>simp[g3,e']
   all_goals simp
 ·have nS:j=ord.length:=by omega
  subst nS
  rw[List.drop_length] at ch
  rcases FH S o0 with⟨e,e'⟩|⟨l',f,e⟩|⟨b,e⟩
  all_goals
   have g3':=g3
   rw[e] at g3'
  ·have:(ord.length:Int)=0:=by omega
   simp[gS,g3',Fb,this]
   exact cH _ _ _ ch e2
  ·simp[gS,g3',Fb]
   exact cH _ _ _ ch e2
  ·simp[gS,g3',Fb]
   exact cH _ _ _ ch e2
theorem Qk{i:Nat}(hi:i<3){ev:AV}{l:List Ev}(hv:iD 8 eE ev l)(hl:Tu l){c3:AV}{ord:List Int}(hlen:ord.length≤1000){h:T ah}{nx:Key}(o0:Ord c3 ord ord.length h nx) :
  aO C gz [X.m,dE i,ev,c3,jG] h nx (fun o h' nx'=>o=.ret (I (X.check i l ord))∧Ext h nx h' nx'):=by
 have s1:=kTSu nx
 have s2:=kTSu nx.succ
 have rb:C.raw gy=false:=S.nr (by decide)
 have rL:C.raw jE=true:=S.rw (by decide)
 have hz:∀ H,aY 9999 ev H=(ev,H):=fun H=>hv.Fl _ _
 have tG:(cv 0 l).length≤16:=by have:=qg l 0;have:=hl.len;omega
 refine S.DR.call ?_
 simp[BS]
 simp[BT,Kn.m,jG]
 have e2:=(E0 h nx (.cells [.sl X.rows 7 45 .any] .fix)).trans (E0 _ nx.succ (.cells [I 200,I 50] .fix))
 have Qh:aa nx (av nx.succ (some (.cells [I 200,I 50] .fix)) (av nx (some (.cells [.sl X.rows 7 45 .any] .fix)) h))=some (.cells [.sl X.rows 7 45 .any] .fix):=by rw[az (by omega)];simp
 have bl2:aa nx.succ (av nx.succ (some (.cells [I 200,I 50] .fix)) (av nx (some (.cells [.sl X.rows 7 45 .any] .fix)) h))=some (.cells [I 200,I 50] .fix):=by simp
 generalize av nx.succ (some (.cells [I 200,I 50] .fix)) (av nx (some (.cells [.sl X.rows 7 45 .any] .fix)) h)=h2 at *
 simp[BU,Qh,bl2,rb,hz]
 refine(Um S hi hv hl).mono ?_
 rintro o h3 bu ⟨e3,hR⟩
 have H5:=e2.trans e3
 have n3:=e3.n
 rcases hR with⟨bI,rfl⟩|⟨kV,bj,cO,rfl,Oj,hc,bj0,bjn⟩
 ·have wj:X.check i l ord=mu i l:=by unfold Kn.check;rw[if_neg bI]
  simp
  simp[uq,bq bI]
  simp[BV]
  exact⟨wj.symm,H5⟩
 ·obtain⟨Qb,pU⟩:=BQ kV
  have wj:X.check i l ord=if dW (cv 0 l) ord=true then(if X.run i (cv 0 l) ord (bL i)=true then 0 else 25) else 12:=by unfold Kn.check;rw[if_pos kV]
  simp
  simp[uq]
  simp[BW,Oj,wB,rL]
  refine(avf S tG hlen hc (o0.ext H5)).mono ?_
  rintro o h4 mB ⟨rfl,e4⟩
  have TA:aa bj h4=some (.cells (wB X i cO (bL i)) .fix):=by rw[e4.g bj bjn];exact Oj
  have Da:=H5.trans e4
  have n4:=e4.n
  have s4:=kTSu mB
  cases hL:dW (cv 0 l) ord with
  |false=>
   rw[hL] at wj
   simp
   simp[BX]
   exact⟨by rw[wj];rfl,Da⟩
  |true=>
   rw[hL,if_pos rfl] at wj
   have Fe:∀ x∈ord,0≤x∧x<(cv 0 l).length:=by
    by_cases ast:Lin (cv 0 l) ord
    ·exact ast.Fe
    ·rw[dV ast] at hL;cases hL
   simp
   have e5:=E0 h4 mB (.cells (eS (bL i)) .fix)
   have bs5:aa mB (av mB (some (.cells (eS (bL i)) .fix)) h4)=some (.cells (eS (bL i)) .fix):=by simp
   have bj5:aa bj (av mB (some (.cells (eS (bL i)) .fix)) h4)=some (.cells (wB X i cO (bL i)) .fix):=by rw[e5.g bj (by omega)];exact TA
   have e25:=Da.trans e5
   have Qi:=(bc (bL i).kids).1
   simp[BY,TA,wB,Qi]
   have ees:eS (bL i)=[I (bL i).k,I (bL i).n,.str 0 0,aB (bL i).kids]:=rfl
   rw[ees] at bs5 bj5 e25
   simp[BZ]
   refine avL S hi pU hlen Fe hc (h:=h) (nx:=nx) (bj:=bj) (bs:=mB) (s0:=bL i) (s1:=bL i) (by have:=Da.n;omega) (by rintro rfl;omega) o0 (m:=ord.length) ⟨0,bL i,by simp,by omega,by simp,by simp,by simp,by simp,bj5,bs5,by omega,by omega,e25,R0 hi,rfl⟩ ?_ ?_
   ·intro an h' nx' A9 hr e'
    rw[hr] at wj
    simp[A9]
    exact⟨by rw[wj];rfl,e'⟩
   ·intro an h' nx' hr e'
    rw[hr,if_pos rfl] at wj
    simp
    simp[zF]
    exact⟨by rw[wj],e'⟩
end Ln
/-
 LN: configurations, plainly: what can be reached, what leads to an end, and the first way there. No condition.
-/
namespace Ln
section
variable{σ:Type}
abbrev Cf(σ:Type):=Nat×σ
structure Sys(σ:Type) where
 n:Nat
 C5:Nat→Nat→Bool
 take:Nat→σ→Option σ
 acc:Nat→Bool
def Sys.step(S:Sys σ)(c:Cf σ)(i:Nat):Option (Nat×Cf σ):=if S.C5 i c.1=true then(S.take i c.2).map fun s=>(i,(c.1+2^i,s)) else none
def Sys.steps(S:Sys σ)(c:Cf σ):List (Nat×Cf σ):=(List.range S.n).filterMap (S.step c)
def Sys.Ok(S:Sys σ):Prop:=∀ i d,S.C5 i d=true→d.testBit i=false
inductive Good(S:Sys σ):Cf σ→Prop
 |now {c:Cf σ} (h:S.acc c.1=true):Good S c
 |step {c c':Cf σ} {i:Nat} (h:(i,c')∈S.steps c) (g:Good S c'):Good S c
inductive Path(S:Sys σ):Cf σ→List Nat→Prop
 |now {c:Cf σ} (h:S.acc c.1=true):Path S c []
 |step {c c':Cf σ} {i:Nat} {p:List Nat} {a b:List (Nat×Cf σ)} (h:S.acc c.1=false) (e:S.steps c=a++(i,c') ::b) (no:∀ x∈a,¬ Good S x.2) (g:Path S c' p):Path S c (i ::p)
theorem Path.AW{S:Sys σ}{c:Cf σ}{p:List Nat}(h:Path S c p):Good S c:=by
 induction h with
 |now h=>exact .now h
 | @step c c' i p a b h e no g ih=>exact .step (i:=i) (by rw[e];simp) ih
theorem HL{S:Sys σ}{c c':Cf σ}{i:Nat}(h:(i,c')∈S.steps c):i<S.n∧S.C5 i c.1=true∧c'.1=c.1+2^i∧S.take i c.2=some c'.2:=by
 unfold Sys.steps at h
 rw[List.mem_filterMap] at h
 obtain⟨j,hj,e⟩:=h
 unfold Sys.step at e
 split at e
 ·rename_i ho
  cases ht:S.take j c.2 with
  |none=>rw[ht] at e;cases e
  |some s=>
   rw[ht] at e
   simp only[Option.map_some,Option.some.injEq,Prod.mk.injEq] at e
   obtain⟨rfl,rfl⟩:=e
   exact⟨List.mem_range.1 hj,ho,rfl,ht⟩
 ·cases e
theorem arP:∀ (i d:Nat),d.testBit i=false→d ||| 2^i=d+2^i
 |0,d,h=>by
  have h1:(d ||| 2^0) / 2=d / 2:=by rw[Nat.or_div_two];simp
  have h2:(d ||| 2^0)%2=1:=by
   have:(d ||| 2^0)%2^1=d%2^1 ||| 2^0%2^1:=Nat.or_mod_two_pow
   have hd:d%2=0:=by
    rw[Nat.testBit_zero] at h
    simp at h;omega
   rw[show(2:Nat)^1=2 from rfl,hd] at this
   exact this
  have hd:d%2=0:=by
   rw[Nat.testBit_zero] at h
   simp at h;omega
  generalize d ||| 2^0=x at h1 h2 ⊢
  rw[Nat.pow_zero]
  omega
 |i+1,d,h=>by
  have h1:(d ||| 2^(i+1)) / 2=d / 2 ||| 2^i:=by rw[Nat.or_div_two,Nat.pow_succ,Nat.mul_div_cancel _ (by omega)]
  have h2:(d ||| 2^(i+1))%2=d%2:=by
   have:(d ||| 2^(i+1))%2^1=d%2^1 ||| 2^(i+1)%2^1:=Nat.or_mod_two_pow
   have e:2^(i+1)%2=0:=by rw[Nat.pow_succ];omega
   simpa[e] using this
  have:=arP i (d / 2) (by rw[← Nat.testBit_succ];exact h)
  rw[this] at h1
  generalize d ||| 2^(i+1)=x at h1 h2 ⊢
  rw[Nat.pow_succ]
  omega
theorem arQ{d n i:Nat}(hd:d<2^n)(hi:i<n)(hb:d.testBit i=false):d+2^i<2^n∧d ||| 2^i=d+2^i:=by
 have e:=arP i d hb
 refine⟨?_,e⟩
 rw[← e]
 exact Nat.or_lt_two_pow hd (Nat.pow_lt_pow_right (by omega) hi)
theorem arR{S:Sys σ}(hS:S.Ok){c c':Cf σ}{i:Nat}(h:(i,c')∈S.steps c)(hc:c.1<2^S.n):c'.1<2^S.n∧2^S.n-c'.1<2^S.n-c.1∧c.1<c'.1:=by
 obtain⟨h1,h2,h3,h4⟩:=HL h
 have:=arQ hc h1 (hS _ _ h2)
 have:0<2^i:=Nat.two_pow_pos i
 omega
variable[DecidableEq σ]
def nQ(l:List (Cf σ))(c:Cf σ):List (Cf σ):=if c∈l then l else l ++ [c]
def ik:List (Cf σ)→List (Cf σ)→Option (List (Cf σ))
 |l,[]=>some l
 |l,c ::r=>if (nQ l c).length>1024 then none else ik (nQ l c) r
def bfs(S:Sys σ):Nat→Nat→List (Cf σ)→Option (List (Cf σ))
 |0,_,l=>some l
 |f+1,i,l=>match l[i]? with
  |none=>some l
  |some c=>match ik l ((S.steps c).map (·.2)) with
   |none=>none
   |some l'=>bfs S f (i+1) l'
theorem arS(l:List (Cf σ))(c:Cf σ):∃ r,nQ l c=l++r:=by
 unfold nQ;split
 ·exact⟨[],by simp⟩
 ·exact⟨[c],rfl⟩
theorem arT(l:List (Cf σ))(c:Cf σ):c∈nQ l c:=by unfold nQ;split<;>simp_all
theorem ajh{l:List (Cf σ)}(h:l.Nodup)(c:Cf σ):(nQ l c).Nodup:=by
 unfold nQ;split
 ·exact h
 ·rename_i hc
  rw[List.nodup_append]
  refine⟨h,by simp,?_⟩
  intro a ha b hb
  simp at hb
  rintro rfl
  subst hb
  exact hc ha
theorem T9{p:Cf σ→Prop}{l:List (Cf σ)}{c:Cf σ}(h:∀ x∈l,p x)(hc:p c):∀ x∈nQ l c,p x:=by
 unfold nQ;split
 ·exact h
 ·intro x hx
  rcases List.mem_append.1 hx with hx|hx
  ·exact h x hx
  ·simp at hx;rw[hx];exact hc
theorem BB:∀ {r l l':List (Cf σ)},ik l r=some l'→(∃ t,l'=l++t)∧(∀ c∈r,c∈l')∧(l.Nodup→l'.Nodup)∧(l.length≤1024→l'.length≤1024)∧(∀ x∈l',x∈l∨x∈r)
 | [],l,l',h=>by
  unfold ik at h
  cases h
  exact⟨⟨[],by simp⟩,by simp,id,id,fun x hx=>.inl hx⟩
 |c ::r,l,l',h=>by
  unfold ik at h
  split at h
  ·cases h
  ·rename_i hl
   obtain⟨⟨t,e⟩,h2,h3,h4,h5⟩:=BB h
   obtain⟨u,e2⟩:=arS l c
   refine⟨⟨u++t,by rw[e,e2];simp⟩,?_,fun hn=>h3 (ajh hn c),fun _=>h4 (by omega),?_⟩
   ·intro x hx
    rcases List.mem_cons.1 hx with rfl|hx
    ·rw[e];exact List.mem_append_left _ (arT _ _)
    ·exact h2 x hx
   ·intro x hx
    rcases h5 x hx with hx|hx
    ·unfold nQ at hx
     split at hx
     ·exact .inl hx
     ·rcases List.mem_append.1 hx with hx|hx
      ·exact .inl hx
      ·simp at hx;subst hx;exact .inr (by simp)
    ·exact .inr (by simp[hx])
def pop:Nat→Nat→Nat
 |0,_=>0
 |n+1,d=>pop n d+(if d.testBit n then 1 else 0)
theorem arU(d i:Nat)(hb:d.testBit i=false):∀ n:Nat,pop n (d ||| 2^i)=pop n d+(if i<n then 1 else 0)
 |0=>by simp[pop]
 |n+1=>by
  unfold pop
  rw[arU d i hb n,Nat.testBit_or,Nat.testBit_two_pow]
  by_cases h:i=n
  ·subst h;rw[hb];simp
  ·by_cases h2:i<n
   ·simp[h,h2,show i<n+1 by omega];omega
   ·simp[h,h2,show ¬ i<n+1 by omega]
structure Kept(S:Sys σ)(i:Nat)(l:List (Cf σ)):Prop where
 nodup:l.Nodup
 len:l.length≤1024
 lt:∀ c∈l,c.1<2^S.n
 mono:l.Pairwise fun a b=>pop S.n a.1≤pop S.n b.1
 aGZ:∀ c,l[i]?=some c→∀ x∈l,pop S.n x.1≤pop S.n c.1+1
 done:∀ (j:Nat) (c:Cf σ),j<i→l[j]?=some c→∀ x∈S.steps c,x.2∈l
theorem LN{S:Sys σ}(hS:S.Ok){c c':Cf σ}{i:Nat}(h:(i,c')∈S.steps c)(hc:c.1<2^S.n):pop S.n c'.1=pop S.n c.1+1:=by
 obtain⟨h1,h2,h3,h4⟩:=HL h
 have hb:=hS _ _ h2
 rw[h3,← (arQ hc h1 hb).2,arU _ _ hb,if_pos h1]
theorem apv{S:Sys σ}{l:List (Cf σ)}{c:Cf σ}{k:Nat}(hk:pop S.n c.1=k+1)(hle:∀ x∈l,pop S.n x.1≤k+1)(hm:l.Pairwise fun a b=>pop S.n a.1≤pop S.n b.1) :
  (nQ l c).Pairwise (fun a b=>pop S.n a.1≤pop S.n b.1)∧∀ x∈nQ l c,pop S.n x.1≤k+1:=by
 refine⟨?_,T9 hle (by omega)⟩
 unfold nQ;split
 ·exact hm
 ·rw[List.pairwise_append]
  refine⟨hm,by simp,?_⟩
  intro a ha b hb
  simp at hb
  subst hb
  have:=hle a ha
  omega
theorem IZ{S:Sys σ}{k:Nat}:∀ {r l l':List (Cf σ)},ik l r=some l'→(∀ c∈r,pop S.n c.1=k+1)→(∀ x∈l,pop S.n x.1≤k+1)→(l.Pairwise fun a b=>pop S.n a.1≤pop S.n b.1)→
  (l'.Pairwise fun a b=>pop S.n a.1≤pop S.n b.1)∧∀ x∈l',pop S.n x.1≤k+1
 | [],l,l',h,_,h2,h3=>by unfold ik at h;cases h;exact⟨h3,h2⟩
 |c ::r,l,l',h,h1,h2,h3=>by
  unfold ik at h
  split at h
  ·cases h
  ·obtain⟨a,b⟩:=apv (S:=S) (h1 c (by simp)) h2 h3
   exact IZ h (fun c hc=>h1 c (by simp[hc])) b a
theorem Kept.next{S:Sys σ}(hS:S.Ok){i:Nat}{l l':List (Cf σ)}(h:Kept S i l){c:Cf σ}(hc:l[i]?=some c)(ha:ik l ((S.steps c).map (·.2))=some l'):Kept S (i+1) l':=by
 have J0:c∈l:=List.mem_of_getElem? hc
 have avh:=h.lt c J0
 obtain⟨⟨t,e⟩,h2,h3,h4,h5⟩:=BB ha
 obtain⟨m1,m2⟩:=IZ (S:=S) (k:=pop S.n c.1) ha (by
  intro x hx
  rw[List.mem_map] at hx
  obtain⟨⟨j,y⟩,hy,rfl⟩:=hx
  exact LN hS hy avh) (h.aGZ c hc) h.mono
 refine⟨h3 h.nodup,h4 h.len,?_,m1,?_,?_⟩
 ·intro x hx
  rcases h5 x hx with hx|hx
  ·exact h.lt x hx
  ·rw[List.mem_map] at hx
   obtain⟨⟨j,y⟩,hy,rfl⟩:=hx
   exact(arR hS hy avh).1
 ·intro c2 hc2 x hx
  have hle:=m2 x hx
  have:pop S.n c.1≤pop S.n c2.1:=by
   have hp:=List.pairwise_iff_getElem.1 m1
   obtain⟨q1,q2⟩:=List.getElem?_eq_some_iff.1 hc2
   have hi:i<l'.length:=by omega
   have hci:l'[i]=c:=by
    have J3:i<l.length:=(List.getElem?_eq_some_iff.1 hc).1
    have:l'[i]?=some c:=by rw[e,List.getElem?_append_left J3];exact hc
    exact(List.getElem?_eq_some_iff.1 this).2
   have:=hp i (i+1) hi q1 (by omega)
   rw[hci,q2] at this
   exact this
  omega
 ·intro j c2 hj hc2 x hx
  by_cases sB:j=i
  ·subst sB
   have:c2=c:=by
    have J3:j<l.length:=(List.getElem?_eq_some_iff.1 hc).1
    rw[e,List.getElem?_append_left J3,hc] at hc2
    exact(Option.some.inj hc2).symm
   subst this
   exact h2 _ (List.mem_map.2 ⟨x,hx,rfl⟩)
  ·have aR:j<l.length:=by
    have:=(List.getElem?_eq_some_iff.1 hc).1
    omega
   rw[e,List.getElem?_append_left aR] at hc2
   have:=h.done j c2 (by omega) hc2 x hx
   rw[e];exact List.mem_append_left _ this
theorem Kept.up{S:Sys σ}(hS:S.Ok){i:Nat}{l:List (Cf σ)}(h:Kept S i l){j k:Nat}{c c':Cf σ}(hc:l[j]?=some c)(hk:l[k]?=some c'){q:Nat}(hs:(q,c')∈S.steps c):j<k:=by
 rcases Nat.lt_or_ge j k with hjk|hjk
 ·exact hjk
 ·exfalso
  have hp:=LN hS hs (h.lt c (List.mem_of_getElem? hc))
  obtain⟨a1,a2⟩:=List.getElem?_eq_some_iff.1 hc
  obtain⟨b1,b2⟩:=List.getElem?_eq_some_iff.1 hk
  rcases Nat.lt_or_ge k j with bN|TF
  ·have:=List.pairwise_iff_getElem.1 h.mono k j b1 a1 bN
   rw[a2,b2] at this
   omega
  ·have:j=k:=by omega
   subst this
   rw[hc] at hk
   cases hk
   omega
end
end Ln
/-
 LN: the search, backward and depth first, plainly. No condition.
-/
namespace Ln
section
variable{σ:Type}[DecidableEq σ]
structure Whole(S:Sys σ)(l:List (Cf σ))(c0:Cf σ):Prop where
 kept:Kept S l.length l
 first:l[0]?=some c0
theorem Whole.closed{S:Sys σ}{l:List (Cf σ)}{c0:Cf σ}(h:Whole S l c0){c:Cf σ}(hc:c∈l):∀ x∈S.steps c,x.2∈l:=by
 obtain⟨j,hj,e⟩:=List.getElem_of_mem hc
 exact h.kept.done j c hj (by rw[List.getElem?_eq_getElem hj,e])
theorem Kept.start{S:Sys σ}{s:σ}(ML:1≤1024):Kept S 0 [(0,s)]:=by
 refine⟨by simp,by simp,?_,by simp,?_,?_⟩
 ·intro c hc;simp at hc;subst hc;exact Nat.two_pow_pos _
 ·intro c hc x hx
  simp at hc hx
  subst hc;subst hx
  omega
 ·intro j c hj;omega
theorem arM{S:Sys σ}{f i:Nat}{l:List (Cf σ)}{c:Cf σ}(h:l[i]?=some c):bfs S (f+1) i l=match ik l ((S.steps c).map (·.2)) with|none=>none|some l'=>bfs S f (i+1) l':=by
 show(match l[i]? with|none=>some l|some c=>_)=_
 simp only[h]<;>rfl
theorem avg{S:Sys σ}{f i:Nat}{l:List (Cf σ)}(h:l.length≤i):bfs S f i l=some l:=by
 cases f with
 |zero=>rfl
 |succ f=>
  show(match l[i]? with|none=>some l|some c=>_)=_
  rw[List.getElem?_eq_none h]
theorem Path.more{S:Sys σ}{c c':Cf σ}{i:Nat}{p:List Nat}{a b:List (Nat×Cf σ)}(h:S.acc c.1=false)(e:S.steps c=a++(i,c') ::b)(no:∀ x∈a,¬ Good S x.2)(g:Path S c' p):Path S c (i ::p):=.step h e no g
theorem at5{S:Sys σ}{c:Cf σ}(h:S.acc c.1=false)(no:∀ x∈S.steps c,¬ Good S x.2):¬ Good S c:=by
 intro hg
 cases hg with
 |now h2=>rw[h] at h2;cases h2
 |step hs g=>exact no _ hs g
def Sys.fy(S:Sys σ)(c:Cf σ)(k:Nat):List (Nat×Cf σ):=(List.range k).filterMap (S.step c)
theorem th(S:Sys σ)(c:Cf σ)(k:Nat):S.fy c (k+1)=S.fy c k++(S.step c k).toList:=by
 unfold Sys.fy
 rw[List.range_succ,List.filterMap_append]
 cases h:S.step c k<;>simp[h]
theorem Qp(S:Sys σ)(c:Cf σ):S.fy c S.n=S.steps c:=rfl
theorem aiO(S:Sys σ)(c:Cf σ){k m:Nat}(h:k≤m):∃ t,S.fy c m=S.fy c k++t:=by
 induction m with
 |zero=>exact⟨[],by obtain rfl:k=0:=Nat.le_zero.1 h;simp⟩
 |succ m ih=>
  rcases Nat.lt_or_ge k (m+1) with h1|h1
  ·obtain⟨t,e⟩:=ih (by omega)
   exact⟨t++(S.step c m).toList,by rw[th,e,List.append_assoc]⟩
  ·have:k=m+1:=by omega
   subst this
   exact⟨[],by simp⟩
theorem alZ(S:Sys σ)(c:Cf σ){k:Nat}(h:k<S.n){x:Nat×Cf σ}(e:S.step c k=some x):∃ b,S.steps c=S.fy c k++x ::b:=by
 obtain⟨t,e2⟩:=aiO S c (k:=k+1) (m:=S.n) (by omega)
 refine⟨t,?_⟩
 rw[← Qp,e2,th,e]
 simp
end
end Ln
/-
 LN: sets of calls: the reference. No condition.
-/
namespace Ln
open Go.Sx Go
def A0(os:List Op)(k d:Nat):Bool:=!d.testBit k&&(List.range os.length).all fun q=>q==k || !(before (os.getD q default) (os.getD k default)&&decide (0≤(os.getD q default).e) && !d.testBit q) && !(d.testBit q&&before (os.getD k default) (os.getD q default))
def aiz(os:List Op)(d:Nat):Bool:=(List.range os.length).all fun q=>!decide (0≤(os.getD q default).e)||d.testBit q
def dS(X:Kn)(i:Nat)(os:List Op):Sys St:=⟨os.length,A0 os,fun k s=>X.take (cm i (os.getD k default)) (os.getD k default) s,aiz os⟩
theorem amo(X:Kn)(i:Nat)(os:List Op):(dS X i os).Ok:=by
 intro k d h
 have h:A0 os k d=true:=h
 unfold A0 at h
 rw[iE] at h
 simpa using h.1
theorem w4{os:List Op}{k:Nat}(h:k<os.length):os.getD k default=os[k]:=by rw[List.getD_eq_getElem?_getD,Fo h];rfl
variable{C:dm}{X:Kn}(S:Std C X)
include S
theorem ajx{k:Nat}(hk:k≤16){h:T ah}{nx:Key}:aO C fT [I k] h nx (fun o h' nx'=>o=.ret (I ((2^k:Nat):Int))∧h'=h∧nx'=nx):=by
 refine S.JE.call ?_
 simp[Iw]
 simp[Hn]
 simp[Ho]
 simp[Hp]
 refine W.di (n:=k) (fun m an h' nx'=>∃ j:Nat,m=k-j∧j≤k∧aa (K 0) an=some (I k)∧aa (K 4) an=some (I j)∧aa (K 3) an=some (I ((2^j:Nat):Int))∧h'=h∧nx'=nx) ⟨0,by simp,by omega,by simp,by simp,by simp,rfl,rfl⟩ ?_
 rintro m cu h1 bM ⟨j,rfl,hj,g0,g4,g3,rfl,rfl⟩
 refine W.of ?_
 simp[Hq]
 have hp:2^j≤65536:=tS (by omega)
 by_cases hjk:j<k
 ·have sB:(j:Int)<k:=by omega
  have hw:bV .i64 (2*((2^j:Nat):Int))=((2^(j+1):Nat):Int):=by
   rw[Nat.pow_succ]
   generalize 2^j=p at hp ⊢
   rw[au (by omega) (by omega)];omega
  simp[zp,g0,g4,sB]
  simp[Hr,g3,-Int.natCast_pow]
  simp[Hs,g4]
  rw[au (n:=(j:Int)+1) (by omega) (by omega)]
  refine⟨k-(j+1),by omega,j+1,rfl,by omega,g0,by omega,?_⟩
  have e:=hw
  simpa using e
 ·have aLv:j=k:=by omega
  subst aLv
  simp[zp,g0,g4]
  simp[Ht,g3]
theorem ao9{d k:Nat}(hd:d<65536)(hk:k≤16){h:T ah}{nx:Key}:aO C iA [I d,I k] h nx (fun o h' nx'=>o=.ret (.bool (d.testBit k))∧h'=h∧nx'=nx):=by
 have rb:C.raw fT=false:=S.nr (by decide)
 refine S.Nn.call ?_
 simp[Nk]
 simp[JR]
 simp[JS,rb]
 refine(ajx S hk).mono ?_
 rintro o h1 bM ⟨rfl,rfl,rfl⟩
 have hp:0<2^k:=Nat.two_pow_pos k
 have hq:d / 2^k≤d:=Nat.div_le_self _ _
 have hb:d.testBit k=decide (d / 2^k%2=1):=Nat.testBit_eq_decide_div_mod_eq
 rw[hb]
 generalize 2^k=p at *
 have h0:((p:Int)==0)=false:=bq (by omega)
 have hdv:Int.tdiv (d:Int) (p:Int)=((d / p:Nat):Int):=rfl
 have hw:bV .i64 ((d / p:Nat):Int)=((d / p:Nat):Int):=by generalize d / p=q at *;exact au (by omega) (by omega)
 have hm:Int.tmod ((d / p:Nat):Int) 2=((d / p%2:Nat):Int):=rfl
 have hd2:(((d / p%2:Nat):Int)==1)=decide (d / p%2=1):=by
  generalize d / p%2=q
  rw[Bool.eq_iff_iff];simp;omega
 simp[-Int.natCast_ediv,-Int.natCast_emod,h0,hdv,hw,hm,hd2]
end Ln
/-
 LN: what may be next, and what is accepted: the reference. No condition.
-/
namespace Ln
open Go.Sx Go
theorem ao7{n:Nat}{p:Nat→Bool}{q:Nat}(hq:q<n)(h:p q=false):(List.range n).all p=false:=by
 rw[List.all_eq_false];exact⟨q,List.mem_range.2 hq,by simp[h]⟩
theorem aiB{n:Nat}{p:Nat→Bool}(h:∀ q,q<n→p q=true):(List.range n).all p=true:=zr.2 fun q hq=>h q (List.mem_range.1 hq)
theorem ao8{j:Nat}{p:Nat→Prop}(h:∀ q,q<j→p q)(hj:p j):∀ q,q<j+1→p q:=fun q hq=>by
 by_cases e:q=j
 ·subst e;exact hj
 ·exact h q (by omega)
variable{C:dm}{X:Kn}(S:Std C X)
def aqH(os:List Op)(k d q:Nat):Bool:=q==k || !(before (os.getD q default) (os.getD k default)&&decide (0≤(os.getD q default).e) && !d.testBit q) && !(d.testBit q&&before (os.getD k default) (os.getD q default))
def axe(X:Kn)(os:List Op)(cells:List AV)(k d:Nat)(bj:Key)(h:T ah)(nx:Key)(m:Nat)(an:T AV)(h':T ah)(nx':Key):Prop:=∃ j:Nat,m=os.length-j∧j≤os.length∧aa (K 0) an=some (.ptr bj 0)∧aa (K 1) an=some (I k)∧aa (K 2) an=some (I d)∧aa (K 7) an=some (I j)∧aa bj h'=some (.cells cells .fix)∧Ext h nx h' nx'∧∀ q,q<j→aqH os k d q=true
include S
theorem Us{i:Nat}{os:List Op}(ho:os.length≤16){cO:AV}(hc:iD 10 eO cO os){s0:St}{k d:Nat}(hk:k<os.length)(hd:d<65536){h:T ah}{nx bj:Key}(hb:aa bj h=some (.cells (wB X i cO s0) .fix))(C3:bj.toNat<nx.toNat) :
  aO C fp [.ptr bj 0,I k,I d] h nx (fun o h' nx'=>o=.ret (.bool (A0 os k d))∧Ext h nx h' nx'):=by
 have rI:C.raw iA=false:=S.nr (by decide)
 have rB:C.raw cZ=false:=S.nr (by decide)
 have fi:cO=.sl (ai eO os) os.length 10 .any:=by
  rcases hc with⟨_,rfl⟩|e
  ·simp at hk
  ·exact e
 subst fi
 have hr:=cG.rows os
 have eck:=cG.at hk
 have tk:10≤os.length*10-k*10:=by omega
 refine S.Cu.call ?_
 simp[zf]
 simp[AE]
 simp[AF,rI]
 refine(ao9 S hd (by omega)).mono ?_
 rintro o h1 bM ⟨rfl,rfl,rfl⟩
 cases aE9:d.testBit k with
 |true=>
  have:A0 os k d=false:=by unfold A0;rw[aE9];rfl
  simp
  simp[AG]
  exact⟨this,Ext.refl _ _⟩
 |false=>
  have EV:A0 os k d=(List.range os.length).all (aqH os k d):=by unfold A0;rw[aE9];rfl
  simp
  simp[AH]
  refine W.di (n:=os.length) (axe X os (wB X i (.sl (ai eO os) os.length 10 .any) s0) k d bj h1 bM) ⟨0,by simp,by omega,by simp,by simp,by simp,by simp,hb,Ext.refl _ _,fun q hq=>absurd hq (by omega)⟩ ?_
  rintro m cu h2 aI ⟨j,rfl,hj,g0,g1,g2,g7,Lf,e2,hq⟩
  refine W.of ?_
  simp[AI]
  by_cases aR:j<os.length
  ·have sB:(j:Int)<os.length:=by omega
   have ecj:=cG.at aR
   have tj:10≤os.length*10-j*10:=by omega
   have Ta:aqH os k d j=(j==k || !(before os[j] os[k]&&decide (0≤os[j].e) && !d.testBit j) && !(d.testBit j&&before os[k] os[j])):=by unfold aqH;rw[w4 aR,w4 hk]
   simp[sm,g0,g7,Lf,wB,sB]
   have next:∀ (tm2:T AV) (h3:T ah) (bu:Key),aa (K 0) tm2=some (.ptr bj 0)→aa (K 1) tm2=some (I k)→aa (K 2) tm2=some (I d)→aa (K 7) tm2=some (I j)→aa bj h3=some (.cells (wB X i (.sl (ai eO os) os.length 10 .any) s0) .fix)→Ext h1 bM h3 bu→aqH os k d j=true→
     mF C (aq (fun tm h' nx'=>∃ m,m<os.length-j∧axe X os (wB X i (.sl (ai eO os) os.length 10 .any) s0) k d bj h1 bM m tm h' nx') (ak 0 (aq (dz C (.seq (.ops gX) .ret) (bb [.tmp (K 6)] fun o h' nx'=>o=.ret (.bool (A0 os k d))∧Ext h1 bM h' nx')) (bb [.tmp (K 6)] fun o h' nx'=>o=.ret (.bool (A0 os k d))∧Ext h1 bM h' nx')))) kv tm2 h3 bu:=by
    intro tm2 h3 bu q0 q1 q2 q7 b3 e3 mM
    simp[kv,q7]
    rw[au (by omega) (by omega)]
    exact⟨os.length-(j+1),by omega,j+1,rfl,by omega,by simp[q0],by simp[q1],by simp[q2],by simp,b3,e3,ao8 hq mM⟩
   by_cases hjk:j=k
   ·subst hjk
    simp[sn,g1,g7]
    refine next _ _ _ ?_ ?_ ?_ ?_ Lf e2 (by rw[Ta];simp)<;>simp[g0,g1,g2,g7]
   ·have aLl:((j:Int)==k)=false:=bq (by omega)
    have aLm:(j==k)=false:=by simpa using hjk
    rw[aLm,Bool.false_or] at Ta
    simp[sn,g1,g7,aLl]
    have fail:aqH os k d j=false→∀ h3 bu,Ext h1 bM h3 bu→(A0 os k d=false∧Ext h1 bM h3 bu):=fun hf h3 bu e3=>⟨by rw[EV,ao7 aR hf],e3⟩
    -- behind the first as2
    have Hh:∀ (tm2:T AV) (h3:T ah) (bu:Key),aa (K 0) tm2=some (.ptr bj 0)→aa (K 1) tm2=some (I k)→aa (K 2) tm2=some (I d)→aa (K 7) tm2=some (I j)→aa bj h3=some (.cells (wB X i (.sl (ai eO os) os.length 10 .any) s0) .fix)→Ext h1 bM h3 bu→(before os[j] os[k]&&decide (0≤os[j].e) && !d.testBit j)=false→
      dz C (.seq (.staged so ⟨[K 55,K 56,K 57,K 58,K 59,K 60,K 61,K 62,K 63,K 64,K 65,K 66,K 67,K 68,K 69,K 70,K 71,K 72,K 73,K 74],[]⟩) (.cond (.t (K 74)) (.seq (.ops sq) .ret) .skip)) (ak 1 (aq (dz C (.ops kv) (aq (fun tm h' nx'=>∃ m,m<os.length-j∧axe X os (wB X i (.sl (ai eO os) os.length 10 .any) s0) k d bj h1 bM m tm h' nx') (ak 0 (aq (dz C (.seq (.ops gX) .ret) (bb [.tmp (K 6)] fun o h' nx'=>o=.ret (.bool (A0 os k d))∧Ext h1 bM h' nx')) (bb [.tmp (K 6)] fun o h' nx'=>o=.ret (.bool (A0 os k d))∧Ext h1 bM h' nx'))))) (aq (fun tm h' nx'=>∃ m,m<os.length-j∧axe X os (wB X i (.sl (ai eO os) os.length 10 .any) s0) k d bj h1 bM m tm h' nx') (ak 0 (aq (dz C (.seq (.ops gX) .ret) (bb [.tmp (K 6)] fun o h' nx'=>o=.ret (.bool (A0 os k d))∧Ext h1 bM h' nx')) (bb [.tmp (K 6)] fun o h' nx'=>o=.ret (.bool (A0 os k d))∧Ext h1 bM h' nx')))))) tm2 h3 bu:=by
     intro tm2 h3 bu q0 q1 q2 q7 b3 e3 hA
     rw[hA] at Ta
     simp
     simp[so,q2,q7,rI]
     refine(ao9 S hd (by omega)).mono ?_
     rintro o h4 mB ⟨rfl,rfl,rfl⟩
     cases hbj:d.testBit j with
     |false=>
      rw[hbj] at Ta
      simp
      refine next _ _ _ ?_ ?_ ?_ ?_ b3 e3 (by rw[Ta];rfl)<;>simp[q0,q1,q2,q7]
     |true=>
      rw[hbj] at Ta
      simp[q0,q1,q7,b3,wB,hk,aR,hr,tk,tj,eck,ecj,rB,Qq,GI,O0]
      refine(oy S os[k] os[j] _ _).mono ?_
      rintro o h5 zA ⟨rfl,e5⟩
      have b5:aa bj h5=some (.cells (wB X i (.sl (ai eO os) os.length 10 .any) s0) .fix):=by rw[e5.g bj (by have:=e3.n;omega)];exact b3
      cases og:before os[k] os[j] with
      |true=>
       rw[og] at Ta
       simp
       simp[sq]
       exact fail (by rw[Ta];rfl) _ _ (e3.trans e5)
      |false=>
       rw[og] at Ta
       simp
       refine next _ _ _ ?_ ?_ ?_ ?_ b5 (e3.trans e5) (by rw[Ta];rfl)<;>simp[q0,q1,q2,q7]
    simp only[aL,aM] at Hh
    simp[AJ,g0,g1,g7,Lf,wB,hk,aR,hr,tk,tj,eck,ecj,rB,Qq,GI,O0]
    refine(oy S os[j] os[k] _ _).mono ?_
    rintro o h3 bu ⟨rfl,e3⟩
    have b3:aa bj h3=some (.cells (wB X i (.sl (ai eO os) os.length 10 .any) s0) .fix):=by rw[e3.g bj (by have:=e2.n;omega)];exact Lf
    have e13:=e2.trans e3
    cases og:before os[j] os[k] with
    |false=>
     rw[og] at Hh
     simp
     refine Hh _ _ _ ?_ ?_ ?_ ?_ b3 e13 rfl<;>simp[g0,g1,g2,g7]
    |true=>
     rw[og] at Hh Ta
     have b3':aa bj h3=some (.cells [.sl X.rows 7 45 .any,dE i,I 200,I 50,.sl (ai eO os) os.length 10 .any,I s0.k,I s0.n,.str 0 0,aB s0.kids] .fix):=b3
     have aFa:List.take 10 (List.drop (j*10) (ai eO os))=[I os[j].client,I os[j].b,I os[j].e,I os[j].lost,.str os[j].name.1 os[j].name.2,aB os[j].args,I os[j].res.k,I os[j].res.n,.str 0 0,.nils]:=ecj
     by_cases he:os[j].e<0
     ·have hed:decide (0≤os[j].e)=false:=by simp;omega
      rw[hed] at Hh
      simp[g0,g7,b3',aR,hr,tj,aFa,he]
      refine Hh _ _ _ ?_ ?_ ?_ ?_ b3 e13 rfl<;>simp[g0,g1,g2,g7]
     ·have hed:decide (0≤os[j].e)=true:=by simp;omega
      rw[hed] at Hh Ta
      simp[g0,g2,g7,b3',aR,hr,tj,aFa,he,rI]
      refine(ao9 S hd (by omega)).mono ?_
      rintro o h4 mB ⟨rfl,rfl,rfl⟩
      cases hbj:d.testBit j with
      |true=>
       rw[hbj] at Hh
       simp
       refine Hh _ _ _ ?_ ?_ ?_ ?_ b3 e13 rfl<;>simp[g0,g1,g2,g7]
      |false=>
       rw[hbj] at Ta
       simp
       simp[AL]
       exact fail (by rw[Ta];rfl) _ _ e13
  ·have nS:j=os.length:=by omega
   subst nS
   simp[sm,g0,g7,Lf,wB]
   simp[gX]
   exact⟨by rw[EV];exact aiB hq,e2⟩
end Ln
/-
 LN: rows that grow, with the block that they own. No condition.
-/
namespace Go.Sx
open Go
def Gr(z:Nat)(c:AV)(l:List AV)(len:Nat)(h:T ah)(nx:Key)(ob:Option Key):Prop:=
 (c=.nils∧l=[]∧len=0∧ob=none)∨(∃ (b:Key) (k:CK),ob=some b∧c=.slice b 0 len z∧aa b h=some (.cells l k)∧b.toNat<nx.toNat∧l.length=len*z∧(k=.part∨k=.fix))∨
 (∃ t:Key,ob=some t∧c=.sl l len z (.tok t)∧aa t h=some .tok∧t.toNat<nx.toNat)
structure lU(h:T ah)(nx:Key)(ob:Option Key)(h':T ah)(nx':Key)(jw:Option Key):Prop where
 n:nx.toNat≤nx'.toNat
 g:∀ b:Key,b.toNat<nx.toNat→ob≠some b→aa b h'=aa b h
 o:jw=ob∨∃ b:Key,jw=some b∧nx.toNat≤b.toNat
theorem lU.refl(h:T ah)(nx:Key)(ob:Option Key):lU h nx ob h nx ob:=⟨fe _,fun _ _ _=>rfl,.inl rfl⟩
theorem lU.jk{h h':T ah}{nx nx':Key}(e:Ext h nx h' nx')(ob:Option Key):lU h nx ob h' nx' ob:=⟨e.n,fun b hb _=>e.g b hb,.inl rfl⟩
theorem lU.ne{h h':T ah}{nx nx' b:Key}{ob jw:Option Key}(a:lU h nx ob h' nx' jw)(hb:b.toNat<nx.toNat)(hn:ob≠some b):jw≠some b:=by
 rcases a.o with e|⟨x,e,hx⟩
 ·rw[e];exact hn
 ·rw[e];intro q;cases q;omega
theorem lU.trans{h h' h2:T ah}{nx nx' n2:Key}{ob jw o2:Option Key}(a:lU h nx ob h' nx' jw)(b:lU h' nx' jw h2 n2 o2):lU h nx ob h2 n2 o2:=by
 have h1:=a.n
 refine⟨Nat.le_trans a.n b.n,fun x hx hn=>?_,?_⟩
 ·rw[b.g x (by omega) (a.ne hx hn)];exact a.g x hx hn
 ·rcases b.o with e|⟨y,e,hy⟩
  ·rw[e];exact a.o
  ·exact .inr ⟨y,e,by omega⟩
section
variable{z:Nat}{c:AV}{l new:List AV}{len m:Nat}{h h':T ah}{nx nx':Key}{ob:Option Key}
theorem Gr.nil(z:Nat)(h:T ah)(nx:Key):Gr z .nils [] 0 h nx none:=.inl ⟨rfl,rfl,rfl,rfl⟩
theorem Gr.lt(g:Gr z c l len h nx ob):∀ b,ob=some b→b.toNat<nx.toNat:=by
 intro b hb
 rcases g with⟨_,_,_,e⟩|⟨b',k,e,_,_,h4,_⟩|⟨t,e,_,_,h4⟩
 ·rw[hb] at e;cases e
 ·rw[hb] at e;cases e;exact h4
 ·rw[hb] at e;cases e;exact h4
theorem Gr.kN(g:Gr z c l len h nx ob)(hn:nx.toNat≤nx'.toNat)(hk:∀ b,ob=some b→aa b h'=aa b h):Gr z c l len h' nx' ob:=by
 rcases g with g|⟨b,k,e,h1,h2,h3,h4⟩|⟨t,e,h1,h2,h3⟩
 ·exact .inl g
 ·exact .inr (.inl ⟨b,k,e,h1,by rw[hk b e];exact h2,by omega,h4⟩)
 ·exact .inr (.inr ⟨t,e,h1,by rw[hk t e];exact h2,by omega⟩)
theorem Gr.ext(g:Gr z c l len h nx ob)(e:Ext h nx h' nx'):Gr z c l len h' nx' ob:=g.kN e.n fun b hb=>e.g b (g.lt b hb)
theorem Gr.add(g:Gr z c l len h nx ob)(hw:BD z=false)(hz:0<z)(hm:0<m)(hs:∀ x∈l,Rm x)(hn:new.length=m*z)(hl:len+m≤1048576)(hc:new.all AV.aK=true) :
  ∃ c' h' nx' jw,appendTo z c new m h nx=.val c' h' nx'∧Gr z c' (l++new) (len+m) h' nx' jw∧lU h nx ob h' nx' jw:=by
 have s1:=kTSu nx
 have Lc:m≠0:=by omega
 rcases g with⟨rfl,rfl,rfl,rfl⟩|⟨b,k,rfl,rfl,h2,h3,h4,hk⟩|⟨t,rfl,rfl,h2,h3⟩
 ·have On:m≤1048576:=by omega
  exact⟨.slice nx 0 m z,av nx (some (.cells new .part)) h,nx.succ,some nx,by simp[Lc,On],.inr (.inl ⟨nx,.part,rfl,by simp,by simp,by omega,by simpa using hn,.inl rfl⟩),by omega,fun b hb _=>az hb,.inr ⟨nx,rfl,fe _⟩⟩
 ·rcases hk with rfl|rfl
  ·refine⟨.sl (l++new) (len+m) z (.tok nx),av nx (some .tok) (av b none h),nx.succ,some nx,?_,.inr (.inr ⟨nx,rfl,by simp,by simp,by omega⟩),by omega,fun x hx hk=>?_,.inr ⟨nx,rfl,fe _⟩⟩
   ·simp[hl,hc,h2,h4,Lc,hw]
   ·rw[az hx,bZ]
    rintro rfl
    exact hk rfl
  ·have Uj:¬ (len+m)*z≤len*z:=by
    rw[Nat.add_mul]
    have:=Nat.mul_pos hm hz
    omega
   have Ol:cn (aY 9999) l h=(l,h):=du hs
   have htl:List.take (len*z) l=l:=P8 (by omega)
   refine⟨.slice nx 0 (len+m) z,av nx (some (.cells (l++new) .part)) h,nx.succ,some nx,?_,.inr (.inl ⟨nx,.part,rfl,rfl,by simp,by omega,by rw[zqf,h4,hn,Nat.add_mul],.inl rfl⟩),by omega,fun b hb _=>az hb,.inr ⟨nx,rfl,fe _⟩⟩
   simp[hl,hc,h2,h4,Uj,htl,Ol]
 ·refine⟨.sl (l++new) (len+m) z (.tok nx),av nx (some .tok) (av t none h),nx.succ,some nx,?_,.inr (.inr ⟨nx,rfl,by simp,by simp,by omega⟩),by omega,fun x hx hk=>?_,.inr ⟨nx,rfl,fe _⟩⟩
  ·simp[hl,hc,h2,Lc]
  ·rw[az hx,bZ]
   rintro rfl
   exact hk rfl
theorem Gr.BG{α:Type}{enc:α→List AV}(F:Flat z enc){us:List α}(g:Gr z c (ai enc us) us.length h nx ob)(hw:BD z=false)(hz:0<z)(hl:us.length+1≤1048576)(x:α) :
  ∃ c' h' nx' jw,appendTo z c (enc x) 1 h nx=.val c' h' nx'∧Gr z c' (ai enc (us ++ [x])) (us ++ [x]).length h' nx' jw∧lU h nx ob h' nx' jw:=by
 obtain⟨c',h',nx',jw,a,b,r⟩:=g.add (new:=enc x) (m:=1) hw hz (by omega) (F.HD us) (by rw[F.len,Nat.one_mul]) hl (zr.2 (F.cell x))
 exact⟨c',h',nx',jw,a,by rw[mv,ou,zqf];exact b,r⟩
end
def Rd(z:Nat)(c:AV)(l:List AV)(len:Nat)(h:T ah)(nx:Key):Prop:=(c=.nils∧l=[]∧len=0)∨(∃ f,c=.sl l len z f)∨∃ (b:Key) (k:CK),c=.slice b 0 len z∧aa b h=some (.cells l k)∧b.toNat<nx.toNat∧l.length=len*z
theorem Gr.rd{z:Nat}{c:AV}{l:List AV}{len:Nat}{h:T ah}{nx:Key}{ob:Option Key}(g:Gr z c l len h nx ob):Rd z c l len h nx:=by
 rcases g with⟨h1,h2,h3,_⟩|⟨b,k,_,h1,h2,h3,h4,_⟩|⟨t,_,h1,_⟩
 ·exact .inl ⟨h1,h2,h3⟩
 ·exact .inr (.inr ⟨b,_,h1,h2,h3,h4⟩)
 ·exact .inr (.inl ⟨_,h1⟩)
theorem Rd.ext{z:Nat}{c:AV}{l:List AV}{len:Nat}{h h':T ah}{nx nx':Key}(g:Rd z c l len h nx)(e:Ext h nx h' nx'):Rd z c l len h' nx':=by
 rcases g with g|g|⟨b,k,h1,h2,h3,h4⟩
 ·exact .inl g
 ·exact .inr (.inl g)
 ·exact .inr (.inr ⟨b,k,h1,by rw[e.g b h3];exact h2,by have:=e.n;omega,h4⟩)
def KB(z i:Nat):AV→AV
 |.sl l _ _ _=>.cref (List.take z (List.drop (i*z) l))
 |.slice b off _ _=>.ptr b (off+i*z)
 |_=>.nils
theorem Rd.ix{z:Nat}{c:AV}{α:Type}{enc:α→List AV}(F:Flat z enc){us:List α}{h:T ah}{nx:Key}(g:Rd z c (ai enc us) us.length h nx){i:Nat}(hi:i<us.length){C:dm}{Q:cX}{L:List J}{tm:T AV}{n2 k1 k2 d1 d2:Key}(h1:aa k1 tm=some c)(h2:aa k2 tm=some (I i)) :
  mF C Q (⟨some d1,.indexL z (.t k1) (.t k2),none⟩ ::⟨some d2,.load true z (.t d1),none⟩ ::L) tm h n2=mF C Q L (av d2 (some (.agg (enc us[i]))) (av d1 (some (KB z i c)) tm)) h n2:=by
 have hr:=F.rows us
 have he:=F.at hi
 have hl:=F.len us[i]
 have tx:z≤us.length*z-i*z:=by
  rw[← Nat.sub_mul]
  exact Nat.le_mul_of_pos_left z (by omega)
 have tk:List.take z (enc us[i])=enc us[i]:=P8 (by omega)
 rcases g with⟨_,_,e⟩|⟨f,rfl⟩|⟨b,k,rfl,hb,_,_⟩
 ·omega
 ·simp[h1,h2,hi,hr,tx,he,hl,tk,KB]
 ·simp[h1,h2,hi,hr,tx,he,hl,tk,KB,hb]
theorem Rd.ln{z:Nat}{c:AV}{l:List AV}{len:Nat}{h:T ah}{nx:Key}(g:Rd z c l len h nx){C:dm}{Q:cX}{L:List J}{tm:T AV}{h2:T ah}{n2 k1 d1:Key}(h1:aa k1 tm=some c) :
  mF C Q (⟨some d1,.lenL (.t k1),none⟩ ::L) tm h2 n2=mF C Q L (av d1 (some (I len)) tm) h2 n2:=by
 rcases g with⟨rfl,_,rfl⟩|⟨f,rfl⟩|⟨b,k,rfl,_⟩
 ·simp[h1]
 ·simp[h1]
 ·simp[h1]
end Go.Sx
/-
 LN: configurations: the reference. No condition.
-/
namespace Ln
open Go.Sx Go
def eC(c:Cf St):List AV:=[I c.1,I c.2.k,I c.2.n,.str 0 0,aB c.2.kids]
theorem gP:Flat 5 eC where
 len _:=rfl
 Fl x y hy:=by
  simp[eC] at hy
  rcases hy with rfl|rfl|rfl|rfl|rfl
  ·exact eD _ _
  ·exact eD _ _
  ·exact eD _ _
  ·exact sZ _ _
  ·exact dB _
 cell x y hy:=by
  simp[eC] at hy
  rcases hy with rfl|rfl|rfl|rfl|rfl<;>first|rfl|exact(bc _).1
 lits x:=by simp[eC,AV.fQ,AV.lits,CT,I]
theorem T8(z:Cf St)(H:T ah):cn (aY 9998) (eC z) H=(eC z,H):=du (gP.Fl _)
theorem H4(z:Cf St):List.take 5 (eC z)=eC z:=rfl
theorem Jo(z:Cf St):(eC z).length=5:=rfl
theorem Ul(z:Cf St):(eC z).all AV.aK=true:=zr.2 (gP.cell z)
variable{C:dm}{X:Kn}(S:Std C X)
def AcI(X:Kn)(os:List Op)(cells:List AV)(d:Nat)(bj:Key)(h:T ah)(nx:Key)(m:Nat)(an:T AV)(h':T ah)(nx':Key):Prop:=∃ j:Nat,m=os.length-j∧j≤os.length∧aa (K 0) an=some (.ptr bj 0)∧aa (K 1) an=some (I d)∧aa (K 5) an=some (I j)∧h'=h∧nx'=nx∧∀ q,q<j→(!decide (0≤(os.getD q default).e)||d.testBit q)=true
include S
theorem alY{i:Nat}{os:List Op}(ho:os.length≤16){cO:AV}(hc:iD 10 eO cO os){s0:St}{d:Nat}(hd:d<65536){h:T ah}{nx bj:Key}(hb:aa bj h=some (.cells (wB X i cO s0) .fix)) :
  aO C fY [.ptr bj 0,I d] h nx (fun o h' nx'=>o=.ret (.bool (aiz os d))∧h'=h∧nx'=nx):=by
 have rI:C.raw iA=false:=S.nr (by decide)
 refine S.vS.call ?_
 simp[ru]
 simp[uX]
 simp[uY]
 refine W.di (n:=os.length) (AcI X os (wB X i cO s0) d bj h nx) ⟨0,by simp,by omega,by simp,by simp,by simp,rfl,rfl,fun q hq=>absurd hq (by omega)⟩ ?_
 rintro m cu h2 aI ⟨j,rfl,hj,g0,g1,g5,rfl,rfl,hq⟩
 refine W.of ?_
 simp[u5]
 by_cases aR:j<os.length
 ·have sB:(j:Int)<os.length:=by omega
  have fi:cO=.sl (ai eO os) os.length 10 .any:=by
   rcases hc with⟨_,rfl⟩|e
   ·simp at aR
   ·exact e
  subst fi
  have hr:=cG.rows os
  have ecj:=cG.at aR
  have tj:10≤os.length*10-j*10:=by omega
  simp[iB,g0,g5,hb,wB,sB]
  have Ta:(!decide (0≤(os.getD j default).e)||d.testBit j)=(!decide (0≤os[j].e)||d.testBit j):=by rw[w4 aR]
  have next:∀ (tm2:T AV),aa (K 0) tm2=some (.ptr bj 0)→aa (K 1) tm2=some (I d)→aa (K 5) tm2=some (I j)→(!decide (0≤os[j].e)||d.testBit j)=true→
    mF C (aq (fun tm h' nx'=>∃ m,m<os.length-j∧AcI X os (wB X i (.sl (ai eO os) os.length 10 .any) s0) d bj h2 aI m tm h' nx') (ak 0 (aq (dz C (.seq (.ops iC) .ret) (bb [.tmp (K 4)] fun o h' nx'=>o=.ret (.bool (aiz os d))∧h'=h2∧nx'=aI)) (bb [.tmp (K 4)] fun o h' nx'=>o=.ret (.bool (aiz os d))∧h'=h2∧nx'=aI)))) me tm2 h2 aI:=by
   intro tm2 q0 q1 q5 mM
   simp[me,q5]
   rw[au (by omega) (by omega)]
   exact⟨os.length-(j+1),by omega,j+1,rfl,by omega,by simp[q0],by simp[q1],by simp,rfl,rfl,ao8 hq (by rw[Ta];exact mM)⟩
  by_cases he:os[j].e<0
  ·simp[mc,g0,g5,hb,wB,aR,hr,tj,ecj,eO,he]
   refine next _ ?_ ?_ ?_ (by simp;omega)<;>simp[g0,g1,g5]
  ·have hed:decide (0≤os[j].e)=true:=by simp;omega
   rw[hed] at next Ta
   simp[mc,g0,g1,g5,hb,wB,aR,hr,tj,ecj,eO,he,rI]
   refine(ao9 S hd (by omega)).mono ?_
   rintro o h4 mB ⟨rfl,rfl,rfl⟩
   cases hbj:d.testBit j with
   |true=>
    rw[hbj] at next
    simp
    refine next _ ?_ ?_ ?_ rfl<;>simp[g0,g1,g5]
   |false=>
    rw[hbj] at Ta
    simp
    simp[uZ]
    unfold aiz
    exact ao7 aR (by rw[hbj];exact Ta)
 ·have nS:j=os.length:=by omega
  subst nS
  have fin:aiz os d=true:=by unfold aiz;exact aiB hq
  rcases id hc with⟨e0,e1⟩|e0
  ·have:(os.length:Int)=0:=by rw[e1];rfl
   simp[iB,g0,g5,hb,wB,e0,this]
   simp[iC]
   exact fin
  ·simp[iB,g0,g5,hb,wB,e0]
   simp[iC]
   exact fin
theorem mK{a b:Cf St}(ha:a.2.kids.length≤3)(hb:b.2.kids.length≤3):Tv C mU [.agg (eC a),.agg (eC b)] (·=.ret (.bool (decide (a=b)))):=by
 intro h nx
 have s1:=kTSu nx
 have s2:=kTSu nx.succ
 have rE:C.raw wL=false:=S.nr (by decide)
 have ac1:=bc a.2.kids
 have ac2:=bc b.2.kids
 have af1:∀ n H,aY n (aB a.2.kids) H=(aB a.2.kids,H):=dB _
 have af2:∀ n H,aY n (aB b.2.kids) H=(aB b.2.kids,H):=dB _
 refine S.Hc.call ?_
 simp[E3]
 simp[El,eC,ac1.1,ac2.1]
 have e1:=(E0 h nx (.cells (eC a) .fix)).trans (E0 _ nx.succ (.cells (eC b) .fix))
 simp[eC] at e1
 obtain⟨a1,a2⟩:=a
 obtain⟨b1,b2⟩:=b
 by_cases hab:a1=b1
 ·subst hab
  simp[wR,rE,af1,af2]
  refine aO.known (S.anC a2 b2 ha hb _ _) ?_
  simp
  exact e1
 ·have aBy:((a1:Int)==b1)=false:=bq (by omega)
  simp[wR,aBy,hab]
  exact e1
theorem axo{a b:Cf St}(ha:a.2.kids.length≤3)(hb:b.2.kids.length≤3):Tv C nj [.agg (eC a),.agg (eC b)] (fun o=>∃ v,o=.ret (.bool v)∧(v=true↔(a.1<b.1∨a.1=b.1∧FE a.2 b.2<0))):=by
 intro h nx
 have s1:=kTSu nx
 have s2:=kTSu nx.succ
 have rE:C.raw ry=false:=S.nr (by decide)
 have ac1:=bc a.2.kids
 have ac2:=bc b.2.kids
 have af1:∀ n H,aY n (aB a.2.kids) H=(aB a.2.kids,H):=dB _
 have af2:∀ n H,aY n (aB b.2.kids) H=(aB b.2.kids,H):=dB _
 refine S.Hd.call ?_
 simp[E5]
 simp[Em,eC,ac1.1,ac2.1]
 have e1:=(E0 h nx (.cells (eC a) .fix)).trans (E0 _ nx.succ (.cells (eC b) .fix))
 simp[eC] at e1
 obtain⟨a1,a2⟩:=a
 obtain⟨b1,b2⟩:=b
 by_cases bN:a1<b1
 ·have aum:(a1:Int)<b1:=by omega
  simp[qc,aum]
  exact⟨by simp[bN],e1⟩
 ·have aum:¬ (a1:Int)<b1:=by omega
  by_cases hab:a1=b1
  ·subst hab
   simp[qc,rE,af1,af2]
   refine aO.known (S.z8 a2 b2 ha hb _ _) ?_
   simp
   exact⟨by omega,e1⟩
  ·have aBy:((a1:Int)==b1)=false:=bq (by omega)
   simp[qc,aum,aBy,hab]
   exact⟨by omega,e1⟩
end Ln
/-
 LN: orders of configurations; what is known to be bad. No condition.
-/
namespace Ln
def RZ(a b:Cf St):Prop:=a.1<b.1∨a.1=b.1∧FE a.2 b.2<0
theorem aBu{a b c:Cf St}(h:RZ a b)(k:RZ b c):RZ a c:=by
 rcases h with h|⟨h1,h2⟩<;>rcases k with k|⟨k1,k2⟩
 ·exact .inl (by omega)
 ·exact .inl (by omega)
 ·exact .inl (by omega)
 ·exact .inr ⟨by omega,LM h2 k2⟩
theorem axi{a b:Cf St}(h:¬ RZ a b)(bI:a≠b):RZ b a:=by
 by_cases h1:b.1<a.1
 ·exact .inl h1
 ·have h4:¬ a.1<b.1:=fun q=>h (.inl q)
  have e:a.1=b.1:=by omega
  refine .inr ⟨e.symm,?_⟩
  have h2:¬ FE a.2 b.2<0:=fun q=>h (.inr ⟨e,q⟩)
  have h3:FE a.2 b.2≠0:=fun q=>bI (Prod.ext e (Rr.1 q))
  refine(P5 _ _).2 ?_
  unfold FE at h2 h3
  omega
theorem azg{out:List (Cf St)}{x:Cf St}{k:Nat}(hk:k≤out.length)(h:out.Pairwise RZ)(hx:x∉out)(hb:∀ j (hj:j<out.length),k≤j→RZ x out[j])(ha:k=0∨∃ hj:k-1<out.length,¬ RZ x out[k-1]):(out.take k++x ::out.drop k).Pairwise RZ:=by
 have hg:=List.pairwise_iff_getElem.1 h
 have u6:∀ y∈out.take k,RZ y x:=by
  intro y hy
  obtain⟨i,hi,rfl⟩:=List.getElem_of_mem hy
  have hi2:i<k∧i<out.length:=by rw[List.length_take] at hi;omega
  rw[List.getElem_take]
  rcases ha with rfl|⟨hj,hn⟩
  ·omega
  ·have h1:RZ out[k-1] x:=axi hn (by rintro rfl;exact hx (List.getElem_mem hj))
   by_cases e:i=k-1
   ·subst e;exact h1
   ·exact aBu (hg i (k-1) hi2.2 hj (by omega)) h1
 have hhi:∀ y∈out.drop k,RZ x y:=by
  intro y hy
  obtain⟨i,hi,rfl⟩:=List.getElem_of_mem hy
  have hi2:k+i<out.length:=by rw[List.length_drop] at hi;omega
  rw[List.getElem_drop]
  exact hb (k+i) hi2 (by omega)
 have h0:=h
 rw[← List.take_append_drop k out,List.pairwise_append] at h0
 obtain⟨h1,h2,h3⟩:=h0
 rw[List.pairwise_append,List.pairwise_cons]
 refine⟨h1,⟨hhi,h2⟩,?_⟩
 intro a KZ b A8
 rcases List.mem_cons.1 A8 with rfl|A8
 ·exact u6 a KZ
 ·exact h3 a KZ b A8
theorem avD{out:List (Cf St)}{x:Cf St}(k:Nat)(y:Cf St):y∈out.take k++x ::out.drop k↔y=x∨y∈out:=by
 conv=>rhs;rw[← List.take_append_drop k out]
 simp only[List.mem_append,List.mem_cons]
 constructor
 ·rintro(h|h|h)
  ·exact .inr (.inl h)
  ·exact .inl h
  ·exact .inr (.inr h)
 ·rintro(h|h|h)
  ·exact .inr (.inl h)
  ·exact .inl h
  ·exact .inr (.inr h)
theorem Q6{α:Type}[DecidableEq α]:∀ {l m:List α},l.Nodup→(∀ x∈l,x∈m)→l.length≤m.length
 | [],m,_,_=>Nat.zero_le _
 |a ::l,m,h,hs=>by
  rw[List.nodup_cons] at h
  have ha:a∈m:=hs a (by simp)
  have h1:=Q6 (l:=l) (m:=m.erase a) h.2 fun x hx=>(List.mem_erase_of_ne (by rintro rfl;exact h.1 hx)).2 (hs x (by simp[hx]))
  have h2:=List.length_erase_of_mem ha
  have h3:0<m.length:=List.length_pos_of_mem ha
  simp only[List.length_cons]
  omega
section
variable{σ:Type}[DecidableEq σ]
structure zB(S:Sys σ)(L bad:List (Cf σ)):Prop where
 nodup:bad.Nodup
 sub:∀ x∈bad,x∈L
 no:∀ x∈bad,¬ Good S x
theorem zB.nil(S:Sys σ)(L:List (Cf σ)):zB S L []:=⟨by simp,by simp,by simp⟩
theorem zB.len{S:Sys σ}{L bad:List (Cf σ)}(h:zB S L bad):bad.length≤L.length:=Q6 h.nodup h.sub
theorem zB.add{S:Sys σ}{L bad:List (Cf σ)}{c:Cf σ}(h:zB S L bad)(hc:c∈L)(hn:c∉bad)(hg:¬ Good S c):zB S L (bad ++ [c]):=by
 refine⟨?_,?_,?_⟩
 ·rw[List.nodup_append]
  refine⟨h.nodup,by simp,?_⟩
  intro a ha b hb
  simp at hb
  rintro rfl
  subst hb
  exact hn ha
 ·intro x hx
  rcases List.mem_append.1 hx with hx|hx
  ·exact h.sub x hx
  ·simp at hx;subst hx;exact hc
 ·intro x hx
  rcases List.mem_append.1 hx with hx|hx
  ·exact h.no x hx
  ·simp at hx;subst hx;exact hg
end
end Ln
/-
 LN: the steps from a configuration: the reference. No condition.
-/
namespace Ln
open Go.Sx Go
theorem ash(z:Cf St):List.drop 5 (eC z)=[]:=rfl
theorem Qo(X:Kn)(i:Nat)(os:List Op)(c:Cf St)(j:Nat):(dS X i os).step c j=if A0 os j c.1=true then(X.take (cm i (os.getD j default)) (os.getD j default) c.2).map (fun s=>(j,(c.1+2^j,s))) else none:=rfl
theorem aDo(s:St):AV.beq (.agg (eS s)) (.agg (eS s))=true:=beq_refl _ (by simp[eS,AV.lits,AV.fQ,CT,I])
variable{C:dm}{X:Kn}(S:Std C X)
def SpI(X:Kn)(i:Nat)(os:List Op)(cells:List AV)(c:Cf St)(bj:Key)(h:T ah)(nx:Key)(m:Nat)(an:T AV)(h':T ah)(nx':Key):Prop:=∃ (j:Nat) (c5:AV),m=os.length-j∧j≤os.length∧aa (K 0) an=some (.ptr bj 0)∧aa (K 3) an=some (.ptr nx 0)∧aa (K 6) an=some (I j)∧aa (K 5) an=some c5∧
 App c5 (ai eC (((dS X i os).fy c j).map (·.2))) (((dS X i os).fy c j).map (·.2)).length 5 h' nx' nx.succ∧aa bj h'=some (.cells cells .fix)∧aa nx h'=some (.cells (eC c) .fix)∧Ext h nx h' nx'∧nx.toNat<nx'.toNat
include S
theorem arN{i:Nat}(hi:i<3){os:List Op}(pU:lg i os=0)(ho:os.length≤16){cO:AV}(hc:iD 10 eO cO os){s0:St}{c:Cf St}(hd:c.1<65536)(hs:gM i c.2){h:T ah}{nx bj:Key}(hb:aa bj h=some (.cells (wB X i cO s0) .fix))(C3:bj.toNat<nx.toNat) :
  aO C iK [.ptr bj 0,.agg (eC c)] h nx (fun o h' nx'=>∃ cR,o=.ret cR∧iD 5 eC cR (((dS X i os).steps c).map (·.2))∧Ext h nx h' nx'):=by
 have rO:C.raw fp=false:=S.nr (by decide)
 have rT:C.raw dG=false:=S.nr (by decide)
 have rB:C.raw fT=false:=S.nr (by decide)
 have s1:=kTSu nx
 refine S.zC.call ?_
 simp[wu]
 have ac:=(bc c.2.kids).1
 simp[xg,eC,ac]
 simp[xh]
 simp[xi]
 have ec:[I c.1,I c.2.k,I c.2.n,.str 0 0,aB c.2.kids]=eC c:=rfl
 rw[ec]
 have e0:=E0 h nx (.cells (eC c) .fix)
 refine W.di (n:=os.length) (SpI X i os (wB X i cO s0) c bj h nx) ⟨0,.nils,by simp,by omega,by simp,by simp,by simp,by simp,App.nil _,by rw[e0.g bj C3];exact hb,by simp,e0,by omega⟩ ?_
 rintro m cu h1 bM ⟨j,c5,rfl,hj,g0,g3,g6,g5,hA,bj1,bc1,e1,lt1⟩
 refine W.of ?_
 simp[xj]
 have wBl:(wB X i cO s0).length=9:=rfl
 by_cases aR:j<os.length
 ·have sB:(j:Int)<os.length:=by omega
  have fi:cO=.sl (ai eO os) os.length 10 .any:=by
   rcases hc with⟨_,rfl⟩|e
   ·simp at aR
   ·exact e
  subst fi
  have af:∀ n H,aY n (aB c.2.kids) H=(aB c.2.kids,H):=dB _
  have Oi:=FI hi pU (Fo aR)
  have hgd:=w4 aR
  have dQ:=th (dS X i os) c j
  have TB:=Qo X i os c j
  rw[hgd] at TB
  have next:∀ (tm2:T AV) (h2:T ah) (aI:Key) (c6:AV) (us:List (Cf St)),aa (K 0) tm2=some (.ptr bj 0)→aa (K 3) tm2=some (.ptr nx 0)→aa (K 6) tm2=some (I j)→aa (K 5) tm2=some c6→us=((dS X i os).fy c (j+1)).map (·.2)→App c6 (ai eC us) us.length 5 h2 aI nx.succ→aa bj h2=some (.cells (wB X i (.sl (ai eO os) os.length 10 .any) s0) .fix)→aa nx h2=some (.cells (eC c) .fix)→Ext h nx h2 aI→nx.toNat<aI.toNat→
    mF C (aq (fun tm h' nx'=>∃ m,m<os.length-j∧SpI X i os (wB X i (.sl (ai eO os) os.length 10 .any) s0) c bj h nx m tm h' nx') (ak 0 (aq (dz C (.seq (.ops j7) .ret) (bb [.tmp (K 4)] fun o h' nx'=>∃ cR,o=.ret cR∧iD 5 eC cR (((dS X i os).steps c).map (·.2))∧Ext h nx h' nx')) (bb [.tmp (K 4)] fun o h' nx'=>∃ cR,o=.ret cR∧iD 5 eC cR (((dS X i os).steps c).map (·.2))∧Ext h nx h' nx')))) ow tm2 h2 aI:=by
   intro tm2 h2 aI c6 us q0 q3 q6 q5 hus hA2 b2 bc2 e2 lt2
   subst hus
   simp[ow,q6]
   rw[au (by omega) (by omega)]
   exact⟨os.length-(j+1),by omega,j+1,c6,rfl,by omega,by simp[q0],by simp[q3],by simp,by simp[q5],hA2,b2,bc2,e2,lt2⟩
  simp[j8,g0,g6,bj1,wB,sB]
  simp[xk,g0,g3,g6,bc1,eC,rO]
  refine(Us S ho hc aR hd bj1 (by omega)).mono ?_
  rintro o h2 aI ⟨rfl,e2⟩
  have n2:=e2.n
  have b2:aa bj h2=some (.cells (wB X i (.sl (ai eO os) os.length 10 .any) s0) .fix):=by rw[e2.g bj (by omega)];exact bj1
  have bc2:aa nx h2=some (.cells (eC c) .fix):=by rw[e2.g nx lt1];exact bc1
  have hA2:=hA.ext e2
  have TG:=e1.trans e2
  cases jx:A0 os j c.1 with
  |false=>
   rw[jx] at TB
   simp
   refine next _ _ _ c5 _ ?_ ?_ ?_ ?_ (by rw[dQ,TB];simp) hA2 b2 bc2 TG (by omega)<;>simp[g0,g3,g5,g6]
  |true=>
   rw[jx,if_pos rfl] at TB
   simp
   have s2:=kTSu aI
   simp[xl,g0,g3,g6,bc2,eC,rT,af]
   refine(Ld S hc Oi hs b2 (by omega)).mono ?_
   rintro out h3 bu ⟨⟨u,rfl,hu⟩,e3⟩
   have s3:=kTSu bu
   have n3:=e3.n
   simp[xm,lenS,GH]
   have e4:=E0 h3 bu (.cells (eS u) .fix)
   have e34:=e3.trans e4
   have b4:aa bj (av bu (some (.cells (eS u) .fix)) h3)=some (.cells (wB X i (.sl (ai eO os) os.length 10 .any) s0) .fix):=by rw[e34.g bj (by omega)];exact b2
   have bc4:aa nx (av bu (some (.cells (eS u) .fix)) h3)=some (.cells (eC c) .fix):=by rw[e34.g nx (by omega)];exact bc2
   have bu4:aa bu (av bu (some (.cells (eS u) .fix)) h3)=some (.cells (eS u) .fix):=by simp
   have hA4:=hA2.ext e34
   have e14:=TG.trans e34
   generalize av bu (some (.cells (eS u) .fix)) h3=h4 at *
   cases ht:X.take (cm i os[j]) os[j] c.2 with
   |none=>
    rw[ht] at TB
    simp
    simp[ox]
    refine next _ _ _ c5 _ ?_ ?_ ?_ ?_ (by rw[dQ,TB];simp) hA4 b4 bc4 e14 (by omega)<;>simp[g0,g3,g5,g6]
   |some t=>
    rw[ht] at TB
    have:=hu t ht
    subst this
    simp
    simp[ox]
    have hp:0<2^j∧2^j≤65536:=⟨Nat.two_pow_pos j,tS (by omega)⟩
    simp[-appendTo,xn,g0,g3,g5,g6,bc4,bu4,eC,lenS,vD,rB]
    refine(ajx S (by omega)).mono ?_
    rintro o h5 zA ⟨rfl,rfl,rfl⟩
    have hus:((dS X i os).fy c (j+1)).map (·.2)=((dS X i os).fy c j).map (·.2) ++ [(c.1+2^j,u)]:=by rw[dQ,TB];simp
    generalize 2^j=p at hp hus ⊢
    have hw:bV .i64 ((c.1:Int)+(p:Int))=(c.1:Int)+(p:Int):=au (by omega) (by omega)
    have s5:=kTSu bu.succ
    have s6:=kTSu bu.succ.succ
    have e5:=E0 h5 bu.succ (.cells (eC (c.1+p,u)) .fix)
    have b5:aa bj (av bu.succ (some (.cells (eC (c.1+p,u)) .fix)) h5)=some (.cells (wB X i (.sl (ai eO os) os.length 10 .any) s0) .fix):=by rw[e5.g bj (by omega)];exact b4
    have bc5:aa nx (av bu.succ (some (.cells (eC (c.1+p,u)) .fix)) h5)=some (.cells (eC c) .fix):=by rw[e5.g nx (by omega)];exact bc4
    have aQb:((dS X i os).fy c j).length≤j:=by
     have:=List.length_filterMap_le ((dS X i os).step c) (List.range j)
     rw[List.length_range] at this
     exact this
    obtain⟨c6,h6,nx6,ha,hA6,n6,k6,_⟩:=(hA4.ext e5).BG gP (by omega) (by rw[List.length_map];omega) (c.1+p,u)
    have hz:=T8 (c.1+p,u)
    have ec6:eC (c.1+p,u)=[I ((c.1:Int)+(p:Int)),I u.k,I u.n,.str 0 0,aB u.kids]:=rfl
    have acu:=(bc u.kids).1
    have afu:∀ n H,aY n (aB u.kids) H=(aB u.kids,H):=dB _
    rw[ec6] at ha b5 bc5 e5 k6
    have q1:AV.beq (I c.1) (I c.1)=true:=beq_refl _ rfl
    have q2:=aDo u
    simp[eS] at q2
    simp[-appendTo,hw,eS,eC,g6,bc4,bu4,afu,ha,acu,q1,q2]
    refine next _ _ _ c6 _ ?_ ?_ ?_ ?_ hus.symm hA6 (by rw[k6 bj (by omega)];exact b5) (by rw[k6 nx (by omega)];exact bc5) ⟨by have:=e14.n;omega,fun b hb=>by rw[k6 b (by omega),e5.g b (by omega)];exact e14.g b hb⟩ (by omega)
    all_goals simp[g0,g3,g6]
 ·have nS:j=os.length:=by omega
  subst nS
  rw[show((dS X i os).fy c os.length)=(dS X i os).steps c from Qp (dS X i os) c] at hA
  have fr:=hA.I1 gP 9998
  have fin:∀ (tm2:T AV),aa (K 5) tm2=some c5→dz C (.seq (.ops j7) .ret) (bb [.tmp (K 4)] fun o h' nx'=>∃ cR,o=.ret cR∧iD 5 eC cR (((dS X i os).steps c).map (·.2))∧Ext h nx h' nx') tm2 h1 bM:=by
   intro tm2 q5
   simp
   simp[j7,q5]
   exact⟨fr.1,by omega,fun b hb=>by rw[fr.2 b (by omega)];exact e1.g b hb⟩
  simp only[aL,aQ] at fin
  rcases id hc with⟨Lu,H0⟩|Lu
  ·have:(os.length:Int)=0:=by rw[H0];rfl
   simp[j8,g0,g6,bj1,wB,Lu,this]
   refine fin _ ?_
   simp[g5]
  ·simp[j8,g0,g6,bj1,wB,Lu]
   refine fin _ ?_
   simp[g5]
end Ln
/-
 LN: whether a configuration is in a row: the reference. No condition.
-/
namespace Ln
open Go.Sx Go
theorem ar9{α:Type}[DecidableEq α]{l:List α}{x:α}{j:Nat}(hj:j<l.length)(h:x∉l.take j)(hx:l[j]≠x):x∉l.take (j+1):=by
 rw[zqu hj,List.mem_append,List.mem_singleton]
 rintro(q|q)
 ·exact h q
 ·exact hx q.symm
variable{C:dm}{X:Kn}(S:Std C X)
def HsI(l:List (Cf St))(x:Cf St)(c0:AV)(h:T ah)(nx:Key)(m:Nat)(an:T AV)(h':T ah)(nx':Key):Prop:=∃ j:Nat,m=l.length-j∧j≤l.length∧aa (K 0) an=some c0∧aa (K 3) an=some (.ptr nx 0)∧aa (K 5) an=some (I j)∧aa nx h'=some (.cells (eC x) .fix)∧Ext h nx h' nx'∧nx.toNat<nx'.toNat∧x∉l.take j
include S
theorem amC{l:List (Cf St)}(hl:l.length≤10000)(hk:∀ y∈l,y.2.kids.length≤3){x:Cf St}(hx:x.2.kids.length≤3){c0:AV}{h:T ah}{nx:Key}(hR:Rd 5 c0 (ai eC l) l.length h nx) :
  aO C jK [c0,.agg (eC x)] h nx (fun o h' nx'=>o=.ret (.bool (decide (x∈l)))∧Ext h nx h' nx'):=by
 have rS:C.raw mU=false:=S.nr (by decide)
 have s1:=kTSu nx
 have ac:=(bc x.2.kids).1
 have ec:[I x.1,I x.2.k,I x.2.n,.str 0 0,aB x.2.kids]=eC x:=rfl
 have e0:=E0 h nx (.cells (eC x) .fix)
 refine S.Jn.call ?_
 simp[HZ]
 simp[Gy,Ul,Jo]
 simp[Gz]
 refine W.di (n:=l.length) (HsI l x c0 h nx) ⟨0,by simp,by omega,by simp,by simp,by simp,by simp,e0,by omega,by simp⟩ ?_
 rintro m cu h1 bM ⟨j,rfl,hj,g0,g3,g5,bx,e1,lt1,sE⟩
 refine W.of ?_
 simp[GA]
 have hR1:=hR.ext e1
 by_cases aR:j<l.length
 ·have sB:(j:Int)<l.length:=by omega
  have hr:=gP.rows l
  have tx:5≤l.length*5-j*5:=by omega
  have ecj:=gP.at aR
  have hkj:=hk _ (JW aR)
  have hsm:=mK S hkj hx h1 bM
  have step:x∉l.take j→l[j]≠x→x∉l.take (j+1):=ar9 aR
  have yes:l[j]=x→x∈l:=fun e=>e ▸ JW aR
  rcases hR1 with⟨e,H0,e2'⟩|⟨f,e⟩|⟨b,k,e,hb,C3,_⟩
  ·omega
  ·have ij:=g0
   rw[e] at ij
   simp[j6,ij,g5,sB]
   simp[yL,ij,g3,g5,aR,hr,tx,ecj,bx,H4,Jo,rS,T8]
   refine hsm.mono ?_
   rintro o h2 aI ⟨rfl,e2⟩
   have n2:=e2.n
   have bx2:aa nx h2=some (.cells (eC x) .fix):=by rw[e2.g nx lt1];exact bx
   by_cases hjx:l[j]=x
   ·simp[hjx]
    simp[yM]
    exact⟨yes hjx,e1.trans e2⟩
   ·simp[hjx]
    simp[yN,g5]
    rw[au (by omega) (by omega)]
    exact⟨l.length-(j+1),by omega,j+1,rfl,by omega,by simp[g0,e],by simp[g3],by simp,bx2,e1.trans e2,by omega,step sE hjx⟩
  ·have ij:=g0
   rw[e] at ij
   simp[j6,ij,g5,sB]
   simp[yL,ij,g3,g5,aR,hr,tx,ecj,bx,H4,Jo,rS,T8,hb]
   refine hsm.mono ?_
   rintro o h2 aI ⟨rfl,e2⟩
   have n2:=e2.n
   have bx2:aa nx h2=some (.cells (eC x) .fix):=by rw[e2.g nx lt1];exact bx
   by_cases hjx:l[j]=x
   ·simp[hjx]
    simp[yM]
    exact⟨yes hjx,e1.trans e2⟩
   ·simp[hjx]
    simp[yN,g5]
    rw[au (by omega) (by omega)]
    exact⟨l.length-(j+1),by omega,j+1,rfl,by omega,by simp[g0,e],by simp[g3],by simp,bx2,e1.trans e2,by omega,step sE hjx⟩
 ·have nS:j=l.length:=by omega
  subst nS
  rw[List.take_length] at sE
  rcases hR1 with⟨e,H0,e2'⟩|⟨f,e⟩|⟨b,k,e,_⟩
  all_goals
   have ij:=g0
   rw[e] at ij
  ·have:(l.length:Int)=0:=by omega
   simp[j6,ij,g5,this]
   simp[tc]
   exact⟨sE,e1⟩
  ·simp[j6,ij,g5]
   simp[tc]
   exact⟨sE,e1⟩
  ·simp[j6,ij,g5]
   simp[tc]
   exact⟨sE,e1⟩
end Ln
/-
 LN: what can be reached: the reference, one round. No condition.
-/
namespace Ln
open Go.Sx Go
theorem _root_.Go.Sx.iD.rd{α:Type}{z:Nat}{enc:α→List AV}{c:AV}{l:List α}(g:iD z enc c l)(h:T ah)(nx:Key):Rd z c (ai enc l) l.length h nx:=by
 rcases g with⟨e,rfl⟩|e
 ·exact .inl ⟨e,rfl,rfl⟩
 ·exact .inr (.inl ⟨_,e⟩)
theorem UX(l:List (Cf St))(c:Cf St)(r:List (Cf St)):ik l (c ::r)=if (nQ l c).length>1024 then none else ik (nQ l c) r:=rfl
theorem ajv(z:Cf St)(H:T ah):cn (aY 9999) (eC z) H=(eC z,H):=du (gP.Fl _)
variable{C:dm}{X:Kn}(S:Std C X)
def RiI(l r:List (Cf St))(i:Nat)(c6:AV)(bj:Key)(ob:Option Key)(h:T ah)(nx:Key)(m:Nat)(an:T AV)(h':T ah)(nx':Key):Prop:=∃ (k:Nat) (l':List (Cf St)) (c4:AV) (jw:Option Key),m=r.length-k∧k≤r.length∧aa (K 0) an=some (.ptr bj 0)∧aa (K 4) an=some c4∧aa (K 5) an=some (I i)∧aa (K 6) an=some c6∧aa (K 7) an=some (I k)∧
 Gr 5 c4 (ai eC l') l'.length h' nx' jw∧l'.length≤1024∧ik l r=ik l' (r.drop k)∧(∀ x∈l',x.2.kids.length≤3)∧lU h nx ob h' nx' jw
include S
theorem arO{l r:List (Cf St)}(hr:∀ x∈r,x.2.kids.length≤3)(Ty:r.length≤16){i:Nat}{c6:AV}(hc6:iD 5 eC c6 r){bj:Key}{ob:Option Key}{h:T ah}{nx:Key}{Q:cX}{m:Nat}{tm:T AV}{h1:T ah}{bM:Key}(A:RiI l r i c6 bj ob h nx m tm h1 bM)
  (gH:∀ an h' nx' jw,aa (K 2) an=some .nils→aa (K 3) an=some (.bool false)→ik l r=none→lU h nx ob h' nx' jw→Q .ret an h' nx')
  (cH:∀ an h' nx' (l':List (Cf St)) c4 jw,aa (K 0) an=some (.ptr bj 0)→aa (K 4) an=some c4→aa (K 5) an=some (I i)→Gr 5 c4 (ai eC l') l'.length h' nx' jw→ik l r=some l'→(∀ x∈l',x.2.kids.length≤3)→lU h nx ob h' nx' jw→Q .norm an h' nx') :
  W C (.loop pj) (ak 2 Q) tm h1 bM:=by
 have rH:C.raw jK=true:=S.rw (by decide)
 refine W.di (RiI l r i c6 bj ob h nx) A ?_
 rintro m cu h2 aI ⟨k,l',c4,jw,rfl,hk,g0,g4,g5,g6,g7,G,hl,BA,K9,F⟩
 refine W.of ?_
 simp[pj]
 have hR6:Rd 5 c6 (ai eC r) r.length h2 aI:=hc6.rd _ _
 by_cases OA:k<r.length
 ·have hki:(k:Int)<r.length:=by omega
  have hx:=hr _ (JW OA)
  rw[zqt OA,UX] at BA
  simp[↓hR6.ln,pn,g6,g7,hki]
  simp[↓hR6.ix gP OA,xJ,g4,g6,g7,rH]
  refine(amC S (by omega) K9 hx G.rd).mono ?_
  rintro o h3 bu ⟨rfl,e3⟩
  generalize hxe:r[k]=x at *
  have F3:=F.trans (lU.jk e3 jw)
  have G3:=G.ext e3
  -- behind the as2
  have next:∀ (tm2:T AV) (h4:T ah) (mB:Key) (c5:AV) (o4:Option Key),aa (K 0) tm2=some (.ptr bj 0)→aa (K 4) tm2=some c5→aa (K 5) tm2=some (I i)→aa (K 6) tm2=some c6→aa (K 7) tm2=some (I k)→Gr 5 c5 (ai eC (nQ l' x)) (nQ l' x).length h4 mB o4→lU h nx ob h4 mB o4→
    mF C (aq (dz C (.cond (.t (K 52)) (.seq (.ops na) .ret) .skip) (ak 3 (aq (dz C (.ops jn) (aq (fun tm h' nx'=>∃ m,m<r.length-k∧RiI l r i c6 bj ob h nx m tm h' nx') (ak 2 Q))) (aq (fun tm h' nx'=>∃ m,m<r.length-k∧RiI l r i c6 bj ob h nx m tm h' nx') (ak 2 Q))))) (ak 3 (aq (dz C (.ops jn) (aq (fun tm h' nx'=>∃ m,m<r.length-k∧RiI l r i c6 bj ob h nx m tm h' nx') (ak 2 Q))) (aq (fun tm h' nx'=>∃ m,m<r.length-k∧RiI l r i c6 bj ob h nx m tm h' nx') (ak 2 Q))))) km tm2 h4 mB:=by
   intro tm2 h4 mB c5 o4 q0 q4 q5 q6 q7 G4 F4
   by_cases hlen:(nQ l' x).length>1024
   ·have hli:(1024:Int)<(nQ l' x).length:=by omega
    rw[if_pos hlen] at BA
    simp[↓G4.rd.ln,km,q4,hli]
    simp[na]
    refine gH _ _ _ o4 ?_ ?_ BA F4<;>simp
   ·have hli:¬ (1024:Int)<(nQ l' x).length:=by omega
    rw[if_neg hlen] at BA
    simp[↓G4.rd.ln,km,q4,hli]
    simp[jn,q7]
    rw[au (by omega) (by omega)]
    exact⟨r.length-(k+1),by omega,k+1,nQ l' x,c5,o4,rfl,by omega,by simp[q0],by simp[q4],by simp[q5],by simp[q6],by simp,G4,by omega,BA,T9 K9 hx,F4⟩
  by_cases hxm:x∈l'
  ·have ea:nQ l' x=l':=by unfold nQ;rw[if_pos hxm]
   rw[ea] at next
   simp[hxm]
   refine next _ _ _ c4 jw ?_ ?_ ?_ ?_ ?_ G3 F3<;>simp[g0,g4,g5,g6,g7]
  ·have ea:nQ l' x=l' ++ [x]:=by unfold nQ;rw[if_neg hxm]
   rw[ea] at next
   have s3:=kTSu bu
   have e4:=E0 h3 bu (.cells (eC x) .fix)
   obtain⟨c5,h5,zA,o5,ha,G5,F5⟩:=(G3.ext e4).BG gP (by decide) (by decide) (by omega) x
   have F45:=(F3.trans (lU.jk e4 jw)).trans F5
   simp[hxm]
   simp[-appendTo,↓(hc6.rd h3 bu).ix gP OA,hxe,xK,g4,g6,g7,ha,Ul,Jo,H4,ash,ajv]
   refine next _ _ _ c5 o5 ?_ ?_ ?_ ?_ ?_ G5 F45<;>simp[g0,g4,g5,g6,g7]
 ·have hke:k=r.length:=by omega
  subst hke
  rw[List.drop_length] at BA
  have BA:ik l r=some l':=BA
  simp[↓hR6.ln,pn,g6,g7]
  refine cH _ _ _ l' c4 jw ?_ ?_ ?_ G BA K9 F<;>simp[g0,g4,g5]
end Ln
/-
 LN: what can be reached: the reference, all rounds. No condition.
-/
namespace Ln
open Go.Sx Go
theorem T7{i:Nat}{s:St}(h:gM i s):s.kids.length≤3:=Nat.le_trans h (ajg i)
variable{C:dm}{X:Kn}(S:Std C X)
def RoI(X:Kn)(mi:Nat)(os:List Op)(cells:List AV)(c0:Cf St)(bj:Key)(h:T ah)(nx:Key)(m:Nat)(an:T AV)(h':T ah)(nx':Key):Prop:=∃ (i:Nat) (l:List (Cf St)) (c4:AV) (jw:Option Key),m=1024-i∧i≤l.length∧aa (K 0) an=some (.ptr bj 0)∧aa (K 4) an=some c4∧aa (K 5) an=some (I i)∧
 Gr 5 c4 (ai eC l) l.length h' nx' jw∧Kept (dS X mi os) i l∧l[0]?=some c0∧bfs (dS X mi os) (1025-i) i l=bfs (dS X mi os) 1025 0 [c0]∧(∀ x∈l,gM mi x.2)∧lU h nx none h' nx' jw
include S
theorem aps{i:Nat}(hi:i<3){os:List Op}(pU:lg i os=0){c:Cf St}(hs:gM i c.2):∀ x∈(dS X i os).steps c,gM i x.2.2:=by
 intro x hx
 obtain⟨k,c'⟩:=x
 obtain⟨h1,_,_,h4⟩:=HL hx
 have hk:k<os.length:=h1
 have h4:X.take (cm i (os.getD k default)) (os.getD k default) c.2=some c'.2:=h4
 rw[w4 hk] at h4
 have Oi:=FI hi pU (Fo hk)
 have:=S.ok.take (cm i os[k]) os[k] c.2 c'.2 (by rw[Oi.qm];exact hs) Oi.ar h4
 rw[Oi.qm] at this
 exact this
theorem apu{i:Nat}(hi:i<3){os:List Op}(pU:lg i os=0)(ho:os.length≤16){cO:AV}(hc:iD 10 eO cO os){s0:St}{c0:Cf St}{h:T ah}{nx bj:Key}(hb:aa bj h=some (.cells (wB X i cO s0) .fix))(C3:bj.toNat<nx.toNat){Q:cX}{m:Nat}{tm:T AV}{h1:T ah}{bM:Key}(A:RoI X i os (wB X i cO s0) c0 bj h nx m tm h1 bM)
  (gH:∀ an h' nx' jw,aa (K 2) an=some .nils→aa (K 3) an=some (.bool false)→bfs (dS X i os) 1025 0 [c0]=none→lU h nx none h' nx' jw→Q .ret an h' nx')
  (cH:∀ an h' nx' (l:List (Cf St)) c4 jw,aa (K 4) an=some c4→Gr 5 c4 (ai eC l) l.length h' nx' jw→bfs (dS X i os) 1025 0 [c0]=some l→Kept (dS X i os) l.length l→l[0]?=some c0→(∀ x∈l,gM i x.2)→lU h nx none h' nx' jw→Q .norm an h' nx') :
  W C (.loop oe) (ak 0 Q) tm h1 bM:=by
 have rT:C.raw iK=false:=S.nr (by decide)
 have hSo:=amo X i os
 have hn:(dS X i os).n≤16:=ho
 have h16:2^(dS X i os).n≤65536:=tS hn
 refine W.di (RoI X i os (wB X i cO s0) c0 bj h nx) A ?_
 rintro m cu h2 aI ⟨j,l,c4,jw,rfl,hj,g0,g4,g5,G,kp,h0,og,K9,F⟩
 refine W.of ?_
 simp[oe]
 have hR:=G.rd
 have hl:=kp.len
 have nF:=F.n
 by_cases aR:j<l.length
 ·have sB:(j:Int)<l.length:=by omega
  have hcj:l[j]?=some l[j]:=Fo aR
  have J0:=JW aR
  have bN:=kp.lt _ J0
  have Tw:=K9 _ J0
  rw[show 1025-j=(1024-j)+1 by omega,arM hcj] at og
  simp[↓hR.ln,oh,g4,g5,sB]
  simp[↓hR.ix gP aR,w5,g0,g4,g5,rT,T8]
  have b2:aa bj h2=some (.cells (wB X i cO s0) .fix):=by rw[F.g bj C3 (by simp)];exact hb
  refine(arN S hi pU ho hc (by omega) Tw b2 (by omega)).mono ?_
  rintro o h3 bu ⟨cR,rfl,hcR,e3⟩
  simp
  simp[w6]
  have dQ:=aps S hi pU Tw
  have hrk:∀ x∈((dS X i os).steps l[j]).map (·.2),gM i x.2:=by
   intro x hx
   obtain⟨y,hy,rfl⟩:=zqv.1 hx
   exact dQ y hy
  have Ty:(((dS X i os).steps l[j]).map (·.2)).length≤16:=by
   rw[List.length_map]
   have h1:=List.length_filterMap_le ((dS X i os).step l[j]) (List.range (dS X i os).n)
   rw[List.length_range] at h1
   exact Nat.le_trans h1 hn
  have G3:=G.ext e3
  have F3:=F.trans (lU.jk e3 jw)
  have knx:=fun l' h=>kp.next hSo hcj (l':=l') h
  have r0:ik l (((dS X i os).steps l[j]).map (·.2))=ik l ((((dS X i os).steps l[j]).map (·.2)).drop 0):=by simp
  generalize hr:((dS X i os).steps l[j]).map (·.2)=r at *
  refine arO S (l:=l) (r:=r) (fun x hx=>T7 (hrk x hx)) Ty (i:=j) hcR (bj:=bj) (ob:=jw) (h:=h3) (nx:=bu) (m:=r.length) ⟨0,l,c4,jw,by simp,by omega,by simp[g0],by simp[g4],by simp[g5],by simp,by simp,G3,hl,r0,fun x hx=>T7 (K9 x hx),lU.refl _ _ _⟩ ?_ ?_
  ·intro an h' nx' o' q2 q3 hn1 F4
   rw[hn1] at og
   simp
   exact gH _ _ _ o' q2 q3 og.symm (F3.trans F4)
  ·intro an h' nx' l' c5 o5 q0 q4 q5 G5 BA hk5 F5
   rw[BA] at og
   obtain⟨⟨t,et⟩,_,_,_,hor⟩:=BB BA
   simp
   simp[vl,q5]
   rw[au (by omega) (by omega)]
   refine⟨1024-(j+1),by omega,j+1,l',c5,o5,rfl,by rw[et,zqf];omega,by simp[q0],by simp[q4],by simp,G5,knx l' BA,by rw[et,List.getElem?_append_left (by omega)];exact h0,?_,?_,F3.trans F5⟩
   ·rw[show 1025-(j+1)=1024-j by omega];exact og
   ·intro x hx
    rcases hor x hx with hx|hx
    ·exact K9 x hx
    ·exact hrk x hx
 ·have nS:j=l.length:=by omega
  subst nS
  rw[avg (by omega)] at og
  simp[↓hR.ln,oh,g4,g5]
  refine cH _ _ _ l c4 jw ?_ G og.symm kp h0 K9 F
  simp[g4]
end Ln
/-
 LN: parts of rows that are read; rows put together. No condition.
-/
namespace Go.Sx
open Go
section
variable{z:Nat}{c:AV}{α:Type}{enc:α→List AV}{us:List α}{h:T ah}{nx:Key}
theorem Rd.ixS(F:Flat z enc)(g:Rd z c (ai enc us) us.length h nx){i:Nat}(hi:i<us.length){C:dm}{Q:cX}{ds:List Key}{aj:List (Nat×Key×ah)}{L:List aN}{tm:T AV}{n2 k1 k2 d1 d2:Key}{a b:Nat}{gu:Option (Key×Bool)}(h1:aa k1 tm=some c)(h2:aa k2 tm=some (I i))
  (hg:b9 gu tm=some true) (hg2:b9 gu (av d1 (some (KB z i c)) tm)=some true) :
  wpS C Q ⟨ds,[]⟩ (.L a ⟨some d1,.indexL z (.t k1) (.t k2),gu⟩ ::.L b ⟨some d2,.load true z (.t d1),gu⟩ ::L) aj tm h n2=wpS C Q ⟨ds,[]⟩ L aj (av d2 (some (.agg (enc us[i]))) (av d1 (some (KB z i c)) tm)) h n2:=by
 have hr:=F.rows us
 have he:=F.at hi
 have hl:=F.len us[i]
 have tx:z≤us.length*z-i*z:=by
  rw[← Nat.sub_mul]
  exact Nat.le_mul_of_pos_left z (by omega)
 have tk:List.take z (enc us[i])=enc us[i]:=P8 (by omega)
 rcases g with⟨_,_,e⟩|⟨f,rfl⟩|⟨b,k,rfl,hb,_,_⟩
 ·omega
 ·simp only[KB] at hg2
  simp[h1,h2,hi,hr,tx,he,hl,tk,KB,hg]
  rw[he] at hg2
  rw[hg2]
  simp[hl,tk]
 ·simp only[KB] at hg2
  simp[h1,h2,hi,hr,tx,he,hl,tk,KB,hb,hg]
  rw[Nat.zero_add] at hg2
  rw[hg2]
  simp[hb,hr,tx,he]
def loV(z k:Nat):AV→AV
 |.slice b off _ _=>.slice b off k z
 |.sl cs len _ fl=>.sl (List.take (k*z) cs) k z (bif decide (k=len) then fl else .any)
 |c=>c
def hiV(z k:Nat):AV→AV
 |.slice b off len _=>.slice b (off+k*z) (len-k) z
 |.sl cs len _ fl=>.sl (List.take ((len-k)*z) (List.drop (k*z) cs)) (len-k) z fl
 |c=>c
theorem Rd.aDk(F:Flat z enc)(g:Rd z c (ai enc us) us.length h nx){k:Nat}(hk:k≤us.length){C:dm}{Q:cX}{L:List J}{tm:T AV}{n2 k1 k2 k3 d1 d2:Key}{s c':AV}{h':T ah}{n':Key}(ha:appendTo z s (ai enc (us.take k)) k h n2=.val c' h' n')
  (h1:aa k1 tm=some c) (h2:aa k2 tm=some (I k)) (h3:aa k3 (av d1 (some (loV z k c)) tm)=some s) :
  mF C Q (⟨some d1,.sliceL z (.t k1) none (some (.t k2)),none⟩ ::⟨some d2,.append z (.t k3) (.t d1),none⟩ ::L) tm h n2=mF C Q L (av d2 (some c') (av d1 (some (loV z k c)) tm)) h' n':=by
 have hr:=F.rows us
 have CU:=F.take us k
 have hkz:k*z≤us.length*z:=Nat.mul_le_mul_right z hk
 have hz:cn (aY 9999) (ai enc (us.take k)) h=(ai enc (us.take k),h):=du (F.HD _)
 rcases g with⟨rfl,e1,e2⟩|⟨f,rfl⟩|⟨b,kk,rfl,hb,_,_⟩
 ·have e0:us=[]:=TW e2
  subst e0
  have:k=0:=by simpa using hk
  subst this
  simp only[loV] at h3 ⊢
  simp[-appendTo] at ha
  simp[-appendTo,h1,h2,h3,ha]
 ·simp only[loV] at h3 ⊢
  rw[CU] at h3 ⊢
  simp[-appendTo,h1,h2,hk,hr,hkz,CU,h3,ha]
 ·simp only[loV] at h3 ⊢
  simp[-appendTo,h1,h2,hk,hb,hr,hkz,CU,h3,hz,ha]
theorem Rd.aDl(F:Flat z enc)(g:Rd z c (ai enc us) us.length h nx){k:Nat}(hk:k≤us.length){C:dm}{Q:cX}{L:List J}{tm:T AV}{n2 k1 k2 k3 d1 d2:Key}{s c':AV}{h':T ah}{n':Key}(ha:appendTo z s (ai enc (us.drop k)) (us.length-k) h n2=.val c' h' n')
  (h1:aa k1 tm=some c) (h2:aa k2 tm=some (I k)) (h3:aa k3 (av d1 (some (hiV z k c)) tm)=some s) :
  mF C Q (⟨some d1,.sliceL z (.t k1) (some (.t k2)) none,none⟩ ::⟨some d2,.append z (.t k3) (.t d1),none⟩ ::L) tm h n2=mF C Q L (av d2 (some c') (av d1 (some (hiV z k c)) tm)) h' n':=by
 have hr:=F.rows us
 have hdr:=F.drop us k
 have hrd:=F.rows (us.drop k)
 rw[List.length_drop] at hrd
 have hkz:k*z≤us.length*z:=Nat.mul_le_mul_right z hk
 have aw1:(us.length-k)*z=us.length*z-k*z:=Nat.sub_mul _ _ _
 have CU:List.take ((us.length-k)*z) (ai enc (us.drop k))=ai enc (us.drop k):=P8 (by omega)
 have hz:cn (aY 9999) (ai enc (us.drop k)) h=(ai enc (us.drop k),h):=du (F.HD _)
 rcases g with⟨rfl,e1,e2⟩|⟨f,rfl⟩|⟨b,kk,rfl,hb,_,_⟩
 ·have e0:us=[]:=TW e2
  subst e0
  have:k=0:=by simpa using hk
  subst this
  simp only[hiV] at h3 ⊢
  simp[-appendTo] at ha
  simp[-appendTo,h1,h2,h3,ha]
 ·simp only[hiV] at h3 ⊢
  rw[hdr,CU] at h3 ⊢
  have bN:¬ us.length<k:=by omega
  simp[-appendTo,h1,h2,hk,hr,hrd,hdr,CU,h3,ha]
 ·simp only[hiV] at h3 ⊢
  rw[Nat.zero_add] at h3 ⊢
  simp[-appendTo,h1,h2,hk,hb,hr,hrd,hdr,CU,h3,hz,ha]
end
theorem Un{z k:Nat}{new:List AV}{h:T ah}{nx:Key}(hn:new.length=k*z)(hk:k≤1048576):∃ c' h' nx' jw,appendTo z .nils new k h nx=.val c' h' nx'∧Gr z c' new k h' nx' jw∧lU h nx none h' nx' jw:=by
 have s1:=kTSu nx
 by_cases h0:k=0
 ·subst h0
  have:new=[]:=TW (by omega)
  subst this
  exact⟨.nils,h,nx,none,by simp,Gr.nil _ _ _,lU.refl _ _ _⟩
 ·exact⟨.slice nx 0 k z,av nx (some (.cells new .part)) h,nx.succ,some nx,by simp[h0,hk],.inr (.inl ⟨nx,.part,rfl,rfl,by simp,by omega,hn,.inl rfl⟩),by omega,fun b hb _=>az hb,.inr ⟨nx,rfl,fe _⟩⟩
theorem Gr.add0{z:Nat}{c:AV}{l:List AV}{len:Nat}{h:T ah}{nx:Key}{ob:Option Key}(g:Gr z c l len h nx ob)(hl:len≤1048576):∃ h',appendTo z c [] 0 h nx=.val c h' nx∧∀ b:Key,aa b h'=aa b h:=by
 rcases g with⟨rfl,rfl,rfl,rfl⟩|⟨b,k,rfl,rfl,h2,h3,h4,hk⟩|⟨t,rfl,rfl,h2,h3⟩
 ·exact⟨h,by simp,fun _=>rfl⟩
 ·rcases hk with rfl|rfl
  ·exact⟨h,by simp[h2,hl],fun _=>rfl⟩
  ·refine⟨av b (some (.cells l .fix)) h,by simp[h2,hl,h4],fun x=>?_⟩
   by_cases e:x=b
   ·subst e;simp[h2]
   ·rw[bZ _ _ _ _ e]
 ·exact⟨h,by simp,fun _=>rfl⟩
theorem Gr.asg{z m:Nat}{c:AV}{l new:List AV}{len:Nat}{h:T ah}{nx:Key}{ob:Option Key}(g:Gr z c l len h nx ob)(hw:BD z=false)(hz:0<z)(hs:∀ x∈l,Rm x)(hn:new.length=m*z)(hl:len+m≤1048576)(hc:new.all AV.aK=true) :
  ∃ c' h' nx' jw,appendTo z c new m h nx=.val c' h' nx'∧Gr z c' (l++new) (len+m) h' nx' jw∧lU h nx ob h' nx' jw:=by
 by_cases hm:m=0
 ·subst hm
  have:new=[]:=TW (by omega)
  subst this
  obtain⟨h',e,hk⟩:=g.add0 (by omega)
  exact⟨c,h',nx,ob,e,by rw[List.append_nil];exact g.kN (fe _) (fun b _=>hk b),fe _,fun b _ _=>hk b,.inl rfl⟩
 ·exact g.add hw hz (by omega) hs hn hl hc
end Go.Sx
/-
 LN: configurations in order: the reference. No condition.
-/
namespace Ln
open Go.Sx Go
variable{C:dm}{X:Kn}(S:Std C X)
def LtI(out:List (Cf St))(x:Cf St)(j:Nat)(c4 c8:AV)(h:T ah)(nx:Key)(m:Nat)(an:T AV)(h':T ah)(nx':Key):Prop:=∃ k:Nat,m=k∧k≤out.length∧aa (K 4) an=some c4∧aa (K 8) an=some c8∧aa (K 9) an=some (I j)∧aa (K 10) an=some (I k)∧Ext h nx h' nx'∧∀ q (hq:q<out.length),k≤q→RZ x out[q]
include S
theorem apF{l out:List (Cf St)}(ho:out.length≤1024)(K9:∀ y∈out,y.2.kids.length≤3){j:Nat}(hj:j<l.length)(hx:l[j].2.kids.length≤3){c4 c8:AV}{h:T ah}{nx:Key}(R4:Rd 5 c4 (ai eC l) l.length h nx)(R8:Rd 5 c8 (ai eC out) out.length h nx){Q:cX}{m:Nat}{tm:T AV}{h1:T ah}{bM:Key}(A:LtI out l[j] j c4 c8 h nx m tm h1 bM)
  (cH:∀ an h' nx' (k:Nat),k≤out.length→aa (K 4) an=some c4→aa (K 8) an=some c8→aa (K 9) an=some (I j)→aa (K 10) an=some (I k)→Ext h nx h' nx'→(∀ q (hq:q<out.length),k≤q→RZ l[j] out[q])→(k=0∨∃ hq:k-1<out.length,¬ RZ l[j] out[k-1])→Q .norm an h' nx') :
  W C (.loop pP) (ak 6 Q) tm h1 bM:=by
 have rL:C.raw nj=false:=S.nr (by decide)
 refine W.di (LtI out l[j] j c4 c8 h nx) A ?_
 rintro m cu h2 aI ⟨k,rfl,hk,g4,g8,g9,yW,e2,bN⟩
 refine W.of ?_
 simp[pP]
 cases m with
 |zero=>
  simp[nL,yW]
  refine cH _ _ _ 0 (by omega) ?_ ?_ ?_ ?_ e2 bN (.inl rfl)<;>simp[g4,g8,g9,yW]
 |succ k=>
  have OA:k<out.length:=by omega
  have ML:(0:Int)<(k:Int)+1:=by omega
  have hw:bV .i64 (k:Int)=k:=au (by omega) (by omega)
  have R4':=R4.ext e2
  have R8':=R8.ext e2
  have hl:=axo S hx (K9 _ (JW OA)) h2 aI
  simp[↓R4'.ixS gP hj,↓R8'.ixS gP OA,nL,g4,g8,g9,yW,ML,hw,rL,T8]
  refine hl.mono ?_
  rintro o h3 bu ⟨⟨v,rfl,hv⟩,e3⟩
  cases v with
  |false=>
   simp
   refine cH _ _ _ (k+1) hk ?_ ?_ ?_ ?_ (e2.trans e3) bN (.inr ⟨by omega,fun q=>?_⟩)
   ·simp[g4]
   ·simp[g8]
   ·simp[g9]
   ·simp[yW]
   ·have:=hv.2 q
    cases this
  |true=>
   simp
   simp[v8,yW,hw]
   refine⟨k,by omega,k,rfl,by omega,by simp[g4],by simp[g8],by simp[g9],by simp,e2.trans e3,fun q hq hkq=>?_⟩
   by_cases e:q=k
   ·subst e;exact hv.1 rfl
   ·exact bN q hq (by omega)
end Ln
