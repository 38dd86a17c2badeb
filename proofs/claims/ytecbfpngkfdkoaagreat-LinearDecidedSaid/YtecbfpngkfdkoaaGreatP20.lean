/- A part of the proof. No condition. -/
import Derived.Test.YtecbfpngkfdkoaaGreatP19
import Derived.Test.YtecbfpngkfdkoaaGreatP6
import Derived.Test.YtecbfpngkfdkoaaGreatP9
import Derived.Test.YtecbfpngkfdkoaaGreatP17
import Derived.Test.YtecbfpngkfdkoaaGreatP18
set_option linter.unusedSimpArgs false
set_option linter.unusedVariables false
set_option linter.unusedSectionVars false
namespace Ln
open Go.Sx Go
def jD(i:Nat)(l:List Ev):Int:=if dI [] l=0 then ux i (aI 0 l)else EI (dI [] l)
def iN(os:List Op):Nat→Nat
 |0=>0
 |j+1=>if 0≤(os.getD j default).e then iN os j ||| 2^j else iN os j
theorem Yn(os:List Op):∀j,iN os j<2^j
 |0=>by simp[iN]
 |j+1=>by
  have h:=Yn os j;have h2:2^j<2^(j+1):=Nat.pow_lt_pow_right (by omega) (by omega);unfold iN;split
  ·exact Nat.or_lt_two_pow (by omega) h2
  ·omega
theorem tz{j:Nat}(h:j≤16):2^j≤65536:=Nat.pow_le_pow_right (n:=2) (by omega) h
theorem vD{n:Nat}(h:n≤65536):QQ .i64 (n:Int)=n:=by unfold QQ full;show Int.toNat (Int.emod (n:Int) 18446744073709551616)=n;have:Int.emod (n:Int) 18446744073709551616=(n:Int):=Int.emod_eq_of_lt (by omega) (by omega);rw[this];rfl
def jB(X:Kn)(i:Nat)(cO:AV)(s:St)(e:Nat):List AV:=[.sl X.rows 7 45 .any,gH i,cO,I 200,I 50,I 0,I s.k,I s.n,.str 0 0,bB s.kids,I e]
variable{C:bU}{X:Kn}(S:Std C X)
include S
structure BgA(X:Kn)(i:Nat)(os:List Op)(cO:AV)(bm bl bd bj n0:Key)(e:Nat)(tm:T AV)(h:T ag)(nx:Key):Prop where
 g1:ae (K 1) tm=some (gH i)
 g4:ae (K 4) tm=some (.ptr bm 0)
 g7:ae (K 7) tm=some (.ptr bl 0)
 g10:ae (K 10) tm=some cO
 g12:ae (K 12) tm=some (.ptr bd 0)
 g14:ae (K 14) tm=some (.ptr bj 0)
 m:ae bm h=Qw [.sl X.rows 7 45 .any]
 l:ae bl h=Qw [I 200,I 50]
 d:ae bd h=Qw (X.dec i)
 j:ae bj h=Qw (jB X i cO ⟨0,0,[]⟩ e)
 lt:bm.toNat<nx.toNat∧bl.toNat<nx.toNat∧bd.toNat<nx.toNat∧bj.toNat<nx.toNat
 ge:n0.toNat≤bj.toNat
 ne:bm≠bj∧bl≠bj∧bd≠bj
def BgL(X:Kn)(i:Nat)(os:List Op)(cO:AV)(bm bl bd bj n0:Key)(h:T ag)(m:Nat)(tm':T AV)(h':T ag)(nx':Key):Prop:=∃j:Nat,m=os.length-j∧j≤os.length∧ae (K 41) tm'=some cO∧ae (K 42) tm'=some (I os.length)∧ae (K 43) tm'=some (I j)∧BgA X i os cO bm bl bd bj n0 (iN os j) tm' h' nx'∧Ext h n0 h' nx'∧ux i os=ux i (os.drop j)
theorem aoK{i:Nat}(hi:i<3){os:List Op}(ho:os.length≤16){cO:AV}(hc:gR 10 eO cO os){bm bl bd bj n0:Key}{h:T ag}{Q:cJ}{m:Nat}{tm:T AV}{h1:T ag}{bW:Key}(A:BgL X i os cO bm bl bd bj n0 h m tm h1 bW)
  (uz:∀tm' h' nx',ae (K 8) tm'=some .nilp→ae (K 9) tm'=some (I (ux i os))→ux i os≠0→Ext h n0 h' nx'→Q .ret tm' h' nx')
  (gC:∀tm' h' nx',BgA X i os cO bm bl bd bj n0 (iN os os.length) tm' h' nx'→Ext h n0 h' nx'→ux i os=0→Q .norm tm' h' nx') :
  W C (.loop ru) (az 0 Q) tm h1 bW:=by
 have ri:=S.r cv;have d45:=S.ok.atT i hi;have d36:=S.ok.aAK i hi;have acT:∀hh,(X.dec i)[36]'hh=awJ X i:=fun hh=>by have q:=A6 hh;rw[d36]at q;exact(Option.some.inj q).symm
 refine W.eB (BgL X i os cO bm bl bd bj n0 h) A ?_;rintro m dF h2 aN ⟨j,rfl,hj,g41,g42,g43,B,e2,yb⟩;obtain⟨g1,g4,g7,g10,g12,g14,bm2,bl2,bd2,bj2,lt,ge,ne⟩:=B;refine W.of ?_;simp[ru];by_cases bY:j<os.length
 ·have Bh:(j:Int)<os.length:=by omega
  have Eh:cO=.sl (ai eO os) os.length 10 .any:=by
   rcases hc with⟨_,rfl⟩|e
   ·simp at bY
   ·exact e
  have acD:=g41;rw[Eh]at acD;have ec:=dP.at bY;have hr:=dP.rows os;have tx:10≤os.length*10-j*10:=by omega
  have s2:=kTSu aN;have UH:(eO os[j]).all AV.aV=true:=AQ.2 (dP.cell _);rw[zqt bY]at yb;have hbg:ux i (os[j] ::os.drop (j+1))=match w7 i os[j].name with|none=>6|some c=>if os[j].args.length=c.ar then ux i (os.drop (j+1))else 1:=rfl
  rw[hbg]at yb;have hgd:os.getD j default=os[j]:=by rw[List.getD_eq_getElem?_getD,A6 bY];rfl
  have heb:iN os (j+1)=if 0≤os[j].e then iN os j ||| 2^j else iN os j:=by rw[←hgd];rfl
  have elt:=Yn os j;have p16:=tz (j:=j) (by omega);generalize os[j]=o at *;simp[xY,g42,g43,Bh];simp[DU,acD,g43,bY,hr,tx,ec,Mg,De,UH];have e3:=E0 h2 aN (.cells (eO o) .fix);have gb3:ae aN (au aN (Qw (eO o)) h2)=Qw (eO o):=by simp
  have bd3:ae bd (au aN (Qw (eO o)) h2)=Qw (X.dec i):=by rw[e3.g bd lt.2.2.1];exact bd2
  generalize hH:au aN (Qw (eO o)) h2=h3 at *;simp[DV,g12,bd3,acT,d45,ri];refine(ann S hi o gb3 (by omega)).mono ?_;rintro out h4 kK ⟨rfl,e4⟩;simp;have gb4:ae aN h4=Qw (eO o):=by rw[e4.g aN (by omega)];exact gb3
  have Zt:=e3.trans e4;have bm4:ae bm h4=Qw [.sl X.rows 7 45 .any]:=by rw[Zt.g bm lt.1];exact bm2
  have bl4:ae bl h4=Qw [I 200,I 50]:=by rw[Zt.g bl lt.2.1];exact bl2
  have bd4:ae bd h4=Qw (X.dec i):=by rw[Zt.g bd lt.2.2.1];exact bd2
  have bj4:ae bj h4=Qw (jB X i cO ⟨0,0,[]⟩ (iN os j)):=by rw[Zt.g bj lt.2.2.2];exact bj2
  have n24:=Zt.n;have hix:(∃(t:Nat) (ht:t<(aU i).length),Pj i o.name=t∧w7 i o.name=some (aU i)[t])∨(Pj i o.name=-1∧w7 i o.name=none):=by
   unfold Pj w7;cases hf:(aU i).findIdx? (fun c=>c.name==o.name)with
   |none=>rw[List.findIdx?_eq_none_iff]at hf;exact .inr ⟨rfl,List.find?_eq_none.2 (fun c hc=>by simpa using hf c hc)⟩
   |some t=>rw[List.findIdx?_eq_some_iff_getElem]at hf;obtain⟨ht,h1,h2⟩:=hf;refine .inl ⟨t,ht,rfl,?_⟩;rw[List.find?_eq_some_iff_getElem];exact⟨h1,t,ht,rfl,fun s hs=>by simpa using h2 s hs⟩
  have next:∀(tm2:T AV) (h5:T ag),(∀k:Key,k=K 1∨k=K 4∨k=K 7∨k=K 10∨k=K 12∨k=K 14∨k=K 41∨k=K 42∨k=K 43→ae k tm2=ae k dF)→ae bj h5=Qw (jB X i cO ⟨0,0,[]⟩ (iN os (j+1)))→(∀k:Key,k≠bj→ae k h5=ae k h4)→ux i os=ux i (os.drop (j+1))→
    ns C (aO (fun tm h' nx'=>∃m,m<os.length-j∧BgL X i os cO bm bl bd bj n0 h m tm h' nx') (az 0 Q)) lA tm2 h5 kK:=by
   intro tm2 h5 q qj qk qe;have q43:=(q (K 43) (by simp)).trans g43;simp[lA,q43];rw[aH (by omega) (by omega)];refine⟨os.length-(j+1),by omega,j+1,rfl,by omega,?_,?_,by simp,⟨?_,?_,?_,?_,?_,?_,by rw[qk bm ne.1];exact bm4,by rw[qk bl ne.2.1];exact bl4,by rw[qk bd ne.2.2];exact bd4,qj,by omega,ge,ne⟩,?_,qe⟩
   ·simp;exact(q (K 41) (by simp)).trans g41
   ·simp;exact(q (K 42) (by simp)).trans g42
   ·simp;exact(q (K 1) (by simp)).trans g1
   ·simp;exact(q (K 4) (by simp)).trans g4
   ·simp;exact(q (K 7) (by simp)).trans g7
   ·simp;exact(q (K 10) (by simp)).trans g10
   ·simp;exact(q (K 12) (by simp)).trans g12
   ·simp;exact(q (K 14) (by simp)).trans g14
   ·exact⟨by have:=e2.n;omega,fun b hb=>by rw[qk b (fun e=>by subst e;omega),Zt.g b (by have:=e2.n;omega)];exact e2.g b hb⟩
  have asK:Ext h n0 h4 kK:=e2.trans Zt;rcases hix with⟨t,ht,hx,UE⟩|⟨hx,UE⟩
  ·have h1:=S.ok.aHJ i hi t _ (A6 ht);have ecr:=ahA S ht;have hlr:=ahB S (i:=i);have hl:=(S.ok.aec i).len t;have t23:23≤(aU i).length*23-t*23:=by omega
   rw[UE]at yb;simp only at yb;have hx0:¬(t:Int)<0:=by omega
   generalize (aU i)[t]=c at *;obtain⟨d,hd,hD⟩:=h1;have Qs:∀hh,(X.cmd i t)[1]'hh=d:=fun hh=>by have q:=A6 hh;rw[hd]at q;exact(Option.some.inj q).symm
   simp[wy,hx,hx0];have hA:(bB o.args=.nils∧o.args.length=0)∨∃l,bB o.args=.sl l o.args.length 4 .any:=by
    cases o.args with
    |nil=>exact .inl ⟨rfl,rfl⟩
    |cons a t=>exact .inr ⟨_,rfl⟩
   have rest:∀tm2:T AV,(∀k:Key,k=K 1∨k=K 4∨k=K 7∨k=K 10∨k=K 12∨k=K 14∨k=K 15∨k=K 16∨k=K 41∨k=K 42∨k=K 43→ae k tm2=ae k (au (K 15) (some (I j)) (au (K 16) (some (.ptr aN 0)) dF)))→o.args.length=c.ar→
     ns C (aO (fJ C (.cond (.t (K 67)) (.staged wA ⟨[K 68,K 69,K 70,K 71,K 72,K 73,K 74,K 75,K 76],[]⟩) .skip) (az 1 (aO (fJ C (.ops lA) (aO (fun tm h' nx'=>∃m,m<os.length-j∧BgL X i os cO bm bl bd bj n0 h m tm h' nx') (az 0 Q))) (aO (fun tm h' nx'=>∃m,m<os.length-j∧BgL X i os cO bm bl bd bj n0 h m tm h' nx') (az 0 Q))))) (az 1 (aO (fJ C (.ops lA) (aO (fun tm h' nx'=>∃m,m<os.length-j∧BgL X i os cO bm bl bd bj n0 h m tm h' nx') (az 0 Q))) (aO (fun tm h' nx'=>∃m,m<os.length-j∧BgL X i os cO bm bl bd bj n0 h m tm h' nx') (az 0 Q))))) pO tm2 h4 kK:=by
    intro tm2 q hlen;rw[if_pos hlen]at yb;have q15:ae (K 15) tm2=some (I j):=by rw[q (K 15) (by simp)];simp
    have q16:ae (K 16) tm2=some (.ptr aN 0):=by rw[q (K 16) (by simp)];simp
    have q14:ae (K 14) tm2=some (.ptr bj 0):=by rw[q (K 14) (by simp)];simp[g14]
    have q9:∀k:Key,k=K 1∨k=K 4∨k=K 7∨k=K 10∨k=K 12∨k=K 14∨k=K 41∨k=K 42∨k=K 43→ae k tm2=ae k dF:=by rintro k (rfl|rfl|rfl|rfl|rfl|rfl|rfl|rfl|rfl)<;>(rw[q _ (by simp)];simp)
    by_cases he:o.e<0
    ·rw[if_neg (by omega)]at heb;simp[pO,q16,gb4,eO,he];refine next _ h4 ?_ (by rw[heb];exact bj4) (fun _ _=>rfl) yb
     rintro k (rfl|rfl|rfl|rfl|rfl|rfl|rfl|rfl|rfl)<;>(simp;exact q9 _ (by simp))
    ·rw[if_pos (by omega)]at heb;simp[pO,q16,gb4,eO,he];have hsh:F0 .i64 j=true:=by unfold F0;exact Nat.ble_eq_true_of_le (by omega)
     have Zy:((2:Int)^j)=((2^j:Nat):Int):=by simp
     have hp2:2^j≤65536:=tz (by omega);have hw:bF .i64 ((2:Int)^j)=((2^j:Nat):Int):=by rw[Zy];exact aH (by omega) (by omega)
     have Wr:QQ .i64 ((2^j:Nat):Int)=2^j:=vD hp2;have Wm:QQ .i64 (iN os j:Int)=iN os j:=vD (by omega);have hor:iN os j ||| 2^j<2^(j+1):=Nat.or_lt_two_pow (by have:2^j<2^(j+1):=Nat.pow_lt_pow_right (by omega) (by omega);omega) (Nat.pow_lt_pow_right (by omega) (by omega));have hp3:2^(j+1)≤131072:=Nat.pow_le_pow_right (n:=2) (by omega) (by omega:j+1≤17);have Zp:bF .i64 ((iN os j ||| 2^j:Nat):Int)=((iN os j ||| 2^j:Nat):Int):=aH (by omega) (by omega);simp[wA,q14,q15,bj4,jB,hsh,-Int.natCast_pow,hw,Wr,Wm,Zp];refine next _ _ ?_ ?_ (fun k hk=>aG _ _ _ _ hk) yb
     ·rintro k (rfl|rfl|rfl|rfl|rfl|rfl|rfl|rfl|rfl)<;>(simp;exact q9 _ (by simp))
     ·rw[heb];simp[jB];rw[hw,Wr,Zp]
   rcases hA with⟨ea,ha0⟩|⟨la,ea⟩<;>rcases hD with⟨rfl,hk0⟩|⟨ld,z,rfl⟩
   ·simp[fo,g12,gb4,bd4,eO,acT,d45,ht,hlr,t23,ecr,hl,Qs,ea];refine rest _ ?_ (by omega);rintro k (rfl|rfl|rfl|rfl|rfl|rfl|rfl|rfl|rfl|rfl|rfl)<;>simp
   ·by_cases IA:c.ar=0
    ·simp[fo,g12,gb4,bd4,eO,acT,d45,ht,hlr,t23,ecr,hl,Qs,ea,IA];refine rest _ ?_ (by omega);rintro k (rfl|rfl|rfl|rfl|rfl|rfl|rfl|rfl|rfl|rfl|rfl)<;>simp
    ·have Nb:((0:Int)==(c.ar:Int))=false:=bq (by omega);rw[if_neg (by omega)]at yb;simp[fo,g12,gb4,bd4,eO,acT,d45,ht,hlr,t23,ecr,hl,Qs,ea,Nb];simp[pN];refine uz _ _ _ ?_ ?_ (by rw[yb];decide) asK
     ·simp
     ·simp[yb]
   ·by_cases IA:o.args.length=0
    ·simp[fo,g12,gb4,bd4,eO,acT,d45,ht,hlr,t23,ecr,hl,Qs,ea,IA];refine rest _ ?_ (by omega);rintro k (rfl|rfl|rfl|rfl|rfl|rfl|rfl|rfl|rfl|rfl|rfl)<;>simp
    ·have Nb:((o.args.length:Int)==0)=false:=bq (by omega);rw[if_neg (by omega)]at yb;simp[fo,g12,gb4,bd4,eO,acT,d45,ht,hlr,t23,ecr,hl,Qs,ea,Nb];simp[pN];refine uz _ _ _ ?_ ?_ (by rw[yb];decide) asK
     ·simp
     ·simp[yb]
   ·by_cases IA:o.args.length=c.ar
    ·simp[fo,g12,gb4,bd4,eO,acT,d45,ht,hlr,t23,ecr,hl,Qs,ea,IA];refine rest _ ?_ IA;rintro k (rfl|rfl|rfl|rfl|rfl|rfl|rfl|rfl|rfl|rfl|rfl)<;>simp
    ·have Nb:((o.args.length:Int)==(c.ar:Int))=false:=bq (by omega);rw[if_neg IA]at yb;simp[fo,g12,gb4,bd4,eO,acT,d45,ht,hlr,t23,ecr,hl,Qs,ea,Nb];simp[pN];refine uz _ _ _ ?_ ?_ (by rw[yb];decide) asK
     ·simp
     ·simp[yb]
  ·rw[UE]at yb;simp only at yb;simp[wy,hx];simp[DW];refine uz _ _ _ ?_ ?_ (by rw[yb];decide) asK
   ·simp
   ·simp[yb]
 ·have yi:j=os.length:=by omega
  subst yi;rw[List.drop_length]at yb;simp[xY,g42,g43];exact gC _ _ _ ⟨by simp[g1],by simp[g4],by simp[g7],by simp[g10],by simp[g12],by simp[g14],bm2,bl2,bd2,bj2,lt,ge,ne⟩ e2 yb
end Ln
namespace Ln
open Go.Sx Go
variable{C:bU}{X:Kn}(S:Std C X)
include S
def axd(mk:AV→List AV)(i:Nat)(l:List Ev)(h:T ag)(nx:Key)(o:Out)(h':T ag)(nx':Key):Prop:=Ext h nx h' nx'∧
 ((jD i l≠0∧o=.ret (.tuple [.nilp,I (jD i l)]))∨
  (jD i l=0∧∃(b:Key) (cO:AV),o=.ret (.tuple [.ptr b 0,I 0])∧ae b h'=Qw (mk cO)∧gR 10 eO cO (aI 0 l)∧nx.toNat≤b.toNat∧b.toNat<nx'.toNat))
omit S in
theorem agh(i:Nat):∃k n,aQ i=⟨k,n,[]⟩:=by unfold aQ;split<;>exact⟨_,_,rfl⟩
theorem S0{i:Nat}(hi:i<3){ev:AV}{l:List Ev}(hv:gR 8 eE ev l)(hl:Few l){h:T ag}{nx:Key}:aM C fL [X.m,gH i,ev,mF] h nx (axd (fun cO=>jB X i cO (aQ i) (iN (aI 0 l) (aI 0 l).length)) i l h nx):=by
 have s1:=kTSu nx;have s2:=kTSu nx.succ;have rO:=S.r j0;have rD:=S.r Cz;have rI:=S.r EE;have hz:∀H,aW 9999 ev H=(ev,H):=fun H=>hv.wH _ _;have xp:(aI 0 l).length≤16:=by have:=sW l 0;have:=hl.len;omega
 refine S.HY.call ?_;simp[Ew];simp[Fv,Kn.m,mF];have e2:=(E0 h nx (.cells [.sl X.rows 7 45 .any] .fix)).trans (E0 _ nx.succ (.cells [I 200,I 50] .fix));have bm2:ae nx (au nx.succ (Qw [I 200,I 50]) (au nx (Qw [.sl X.rows 7 45 .any]) h))=Qw [.sl X.rows 7 45 .any]:=by rw[aw (by omega)];simp
 have bl2:ae nx.succ (au nx.succ (Qw [I 200,I 50]) (au nx (Qw [.sl X.rows 7 45 .any]) h))=Qw [I 200,I 50]:=by simp
 generalize au nx.succ (Qw [I 200,I 50]) (au nx (Qw [.sl X.rows 7 45 .any]) h)=h2 at *;simp[Fw,rO,hz];refine(agw S hv hl _ _).mono ?_;rintro o h3 bP ⟨⟨cO,rfl,hc⟩,e3⟩;have Ns:=e2.trans e3;have bm3:ae nx h3=Qw [.sl X.rows 7 45 .any]:=by rw[e3.g nx (by omega)];exact bm2
 have bl3:ae nx.succ h3=Qw [I 200,I 50]:=by rw[e3.g nx.succ (by omega)];exact bl2
 have n3:=e3.n;simp;by_cases hvd:dI [] l=0
 ·rw[if_pos hvd]at hc;have hcb:jD i l=ux i (aI 0 l):=by unfold jD;rw[if_pos hvd]
  simp[xO,hvd,EI];have d45:=S.ok.atT i hi;have dC:(X.dec i).all AV.aV=true:=AQ.2 (S.ok.aHK i hi);simp[Fx,bm3,rD];refine aM.known (S.s_parser_Decl i hi _ _) ?_;have s3:=kTSu bP;have s4:=kTSu bP.succ;simp[d45,dC];have dt:List.drop 45 (X.dec i)=[]:=List.drop_eq_nil_of_le (by omega);have e4:=E0 h3 bP (.cells (X.dec i) .fix);have bd4:ae bP (au bP (Qw (X.dec i)) h3)=Qw (X.dec i):=by simp
  have bm4:ae nx (au bP (Qw (X.dec i)) h3)=Qw [.sl X.rows 7 45 .any]:=by rw[e4.g nx (by omega)];exact bm3
  have bl4:ae nx.succ (au bP (Qw (X.dec i)) h3)=Qw [I 200,I 50]:=by rw[e4.g nx.succ (by omega)];exact bl3
  generalize au bP (Qw (X.dec i)) h3=h4 at *;simp[Fy];have Zu:cO.aV=true∧cO.cells=[cO]:=hc.cell;have hcz:∀n H,aW n cO H=(cO,H):=fun n H=>hc.wH n H;simp[Fz,bm4,bl4,Zu.1,Zu.2,hcz];have e5:=E0 h4 bP.succ (.cells (jB X i cO ⟨0,0,[]⟩ 0) .fix);have ejB:jB X i cO ⟨0,0,[]⟩ 0=[.sl X.rows 7 45 .any,gH i,cO,I 200,I 50,I 0,I 0,I 0,.str 0 0,.nils,I 0]:=rfl;rw[ejB]at e5;have s5:=kTSu bP.succ;have bj5:ae bP.succ (au bP.succ (Qw [.sl X.rows 7 45 .any,gH i,cO,I 200,I 50,I 0,I 0,I 0,.str 0 0,.nils,I 0]) h4)=Qw (jB X i cO ⟨0,0,[]⟩ 0):=by rw[gTSm];rfl
  have bm5:ae nx (au bP.succ (Qw [.sl X.rows 7 45 .any,gH i,cO,I 200,I 50,I 0,I 0,I 0,.str 0 0,.nils,I 0]) h4)=Qw [.sl X.rows 7 45 .any]:=by rw[e5.g nx (by omega)];exact bm4
  have bl5:ae nx.succ (au bP.succ (Qw [.sl X.rows 7 45 .any,gH i,cO,I 200,I 50,I 0,I 0,I 0,.str 0 0,.nils,I 0]) h4)=Qw [I 200,I 50]:=by rw[e5.g nx.succ (by omega)];exact bl4
  have bd5:ae bP (au bP.succ (Qw [.sl X.rows 7 45 .any,gH i,cO,I 200,I 50,I 0,I 0,I 0,.str 0 0,.nils,I 0]) h4)=Qw (X.dec i):=by rw[e5.g bP (by omega)];exact bd4
  have e25:=(Ns.trans e4).trans e5;generalize au bP.succ (Qw [.sl X.rows 7 45 .any,gH i,cO,I 200,I 50,I 0,I 0,I 0,.str 0 0,.nils,I 0]) h4=h5 at *;have main:∀tm5:T AV,ae (K 41) tm5=some cO→ae (K 42) tm5=some (I (aI 0 l).length)→ae (K 43) tm5=some (I 0)→ae (K 1) tm5=some (gH i)→ae (K 4) tm5=some (.ptr nx 0)→ae (K 7) tm5=some (.ptr nx.succ 0)→ae (K 10) tm5=some cO→ae (K 12) tm5=some (.ptr bP 0)→ae (K 14) tm5=some (.ptr bP.succ 0)→
    W C (.loop ru) (az 0 (aO (fJ C (.seq (.ops vZ) (.seq (.seq (.ops wa) (.cond (.t (K 86)) (.seq (.ops DK) .ret) .skip)) (.seq (.ops wc) (.seq (.ops we) .ret)))) (cY [.tmp (K 8),.tmp (K 9)] (axd (fun cO=>jB X i cO (aQ i) (iN (aI 0 l) (aI 0 l).length)) i l h nx))) (cY [.tmp (K 8),.tmp (K 9)] (axd (fun cO=>jB X i cO (aQ i) (iN (aI 0 l) (aI 0 l).length)) i l h nx)))) tm5 h5 bP.succ.succ:=by
   intro tm5 q41 q42 q43 q1 q4 q7 Gm JA q14;refine aoK S hi xp hc (h:=h) (n0:=nx) (bm:=nx) (bl:=nx.succ) (bd:=bP) (bj:=bP.succ) (m:=(aI 0 l).length) ⟨0,by simp,by omega,q41,q42,by simpa using q43,⟨q1,q4,q7,Gm,JA,q14,bm5,bl5,bd5,bj5,by omega,by omega,?_⟩,e25,rfl⟩ ?_ ?_
   ·refine⟨?_,?_,?_⟩<;>(intro e;have:=congrArg Key.toNat e;omega)
   ·intro tm' h' nx' a8 a9 bT e';simp[a8,a9];exact⟨e',.inl ⟨by rw[hcb];exact bT,by rw[hcb]⟩⟩
   ·rintro tm' h' nx' ⟨a1,a4,a7,a10,a12,a14,bm',bl',bd',bj',lt,ge,ne⟩ e' Nb;simp;simp[vZ,a1,a4,a7,bm',bl',rI];refine aM.known (S.s_InitP i hi _ _) ?_;obtain⟨k,n,Ae⟩:=agh i;have es:eS (aQ i)=[I k,I n,.str 0 0,.nils]:=by rw[Ae];rfl
    have s6:=kTSu nx';simp[es];have bj6:ae bP.succ (au nx' (Qw [I k,I n,.str 0 0,.nils]) h')=Qw (jB X i cO ⟨0,0,[]⟩ (iN (aI 0 l) (aI 0 l).length)):=by rw[aw lt.2.2.2];exact bj'
    simp[wa];simp[wc,a14,bj6,jB];simp[we,a14];refine⟨?_,.inr ⟨by rw[hcb];exact Nb,bP.succ,cO,rfl,?_,hc,by omega,by omega⟩⟩
    ·exact⟨by have:=e'.n;omega,fun b hb=>by rw[aw (by omega),aw (by have:=e'.n;omega)];exact e'.g b hb⟩
    ·simp[jB,Ae,bB]
  rcases id hc with⟨ec,eo⟩|ec
  ·have Zx:(aI 0 l).length=0:=by rw[eo];rfl
   have aJp:((aI 0 l).length:Int)=0:=by omega
   rw[aJp]at main;simp[xP,ec];refine main _ ?_ ?_ ?_ ?_ ?_ ?_ ?_ ?_ ?_<;>simp[ec]
  ·simp[xP,ec];refine main _ ?_ ?_ ?_ ?_ ?_ ?_ ?_ ?_ ?_<;>simp[ec]
 ·have bT:EI (dI [] l)≠0:=by unfold EI;split<;>first|exact absurd ‹_› hvd|decide
  have hcb:jD i l=EI (dI [] l):=by unfold jD;rw[if_neg hvd]
  simp[xO,bq bT];simp[FB];exact⟨Ns,.inl ⟨by rw[hcb];exact bT,by rw[hcb]⟩⟩
end Ln
namespace Ln
open Go.Sx Go
variable{C:bU}{X:Kn}(S:Std C X)
include S
end Ln
namespace Ln
open Go.Sx Go
def wB(X:Kn)(i:Nat)(cO:AV)(s:St):List AV:=[.sl X.rows 7 45 .any,gH i,I 200,I 50,cO,I s.k,I s.n,.str 0 0,bB s.kids]
variable{C:bU}{X:Kn}(S:Std C X)
include S
end Ln
namespace Ln
open Go.Sx Go
theorem aHz(u:U)(H:T ag):cn (aW 9998) (eU u) H=(eU u,H):=dw (CV.wH u)
theorem aHA(s:St):∀y∈eS s,UC y:=by
 intro y hy;simp[eS]at hy;rcases hy with rfl|rfl|rfl|rfl
 ·exact dG _ _
 ·exact dG _ _
 ·exact wC _ _
 ·exact kz _
theorem CZ(s:St)(H:T ag):cn (aW 9998) (eS s) H=(eS s,H):=dw (aHA s)
theorem C7(s:St):(eS s).all AV.aV=true:=by simp[eS,(eu s.kids).1]
theorem lenS(s:St):(eS s).length=4:=rfl
theorem zR(s:St):List.take 4 (eS s)=eS s:=rfl
theorem aay(s:St):List.drop 4 (eS s)=[]:=rfl
def avM(X:Kn)(c:j6)(o:Op)(s:St)(out:Out):Prop:=∃u:St,out=.ret (.tuple [.agg (eS u),.bool (X.take c o s).isSome])∧∀t,X.take c o s=some t→u=t
structure amI(mi:Nat)(os:List Op)(x:Nat)(o:Op)(c:j6):Prop where
 get:os[x]?=some o
 name:o.name=c.name
 ar:o.args.length=c.ar
 yW:c.yW=mi
variable{C:bU}{X:Kn}(S:Std C X)
include S
theorem aaN{mi:Nat}{os:List Op}{cO:AV}(hc:gR 10 eO cO os){x:Nat}{o:Op}{c:j6}(hx:amI mi os x o c){s s0:St}(hs:iX mi s){e:Nat}{h:T ag}{nx bj:Key}(hb:ae bj h=Qw (jB X mi cO s0 e))(Ch:bj.toNat<nx.toNat) :
  aM C dz [.ptr bj 0,I x,.agg (eS s)] h nx (fun out h' nx'=>avM X c o s out∧Ext h nx h' nx'):=by
 obtain⟨hxo,hn,har,rfl⟩:=hx;obtain⟨M7,hox⟩:=List.getElem?_eq_some_iff.1 hxo;have s1:=kTSu nx;have s2:=kTSu nx.succ;have s3:=kTSu nx.succ.succ;have rC:=S.r HB;have rH:=S.r Ct;have rN:=S.r Ei;have Eh:cO=.sl (ai eO os) os.length 10 .any:=by
  rcases hc with⟨_,rfl⟩|e
  ·simp at M7
  ·exact e
 subst Eh;have ec:=dP.at M7;have hr:=dP.rows os;have tx:10≤os.length*10-x*10:=by omega
 have UH:(eO os[x]).all AV.aV=true:=AQ.2 (dP.cell _);rw[hox]at ec UH;have scC:=S.s_CanP c s o.args hs har;have scH:=S.s_HoldsP c s o.args o.res hs har;have scN:=S.s_NextP c s o.args o.res hs har;have aaa:X.take c o s=if X.Xr c s o.args≠0∨X.Xq c s o.args=false then none
  else if 0≤o.e∧(X.Cm c s o.args o.res≠0∨X.Cl c s o.args o.res=false)then none
  else if X.GM c s o.args o.res≠0 then none else some (X.EM c s o.args o.res):=rfl
 refine S.uH.call ?_;simp[qu];simp[tG,C7,lenS];have e2:=(E0 h nx (.cells (eS s) .fix)).trans (E0 _ nx.succ (.cells [I 0,I 0,.str 0 0,.nils] .fix));have bs2:ae nx (au nx.succ (Qw [I 0,I 0,.str 0 0,.nils]) (au nx (Qw (eS s)) h))=Qw (eS s):=by rw[aw (by omega)];simp
 have b62:ae nx.succ (au nx.succ (Qw [I 0,I 0,.str 0 0,.nils]) (au nx (Qw (eS s)) h))=Qw [I 0,I 0,.str 0 0,.nils]:=by simp
 have bj2:ae bj (au nx.succ (Qw [I 0,I 0,.str 0 0,.nils]) (au nx (Qw (eS s)) h))=Qw (jB X c.yW (.sl (ai eO os) os.length 10 .any) s0 e):=by rw[e2.g bj Ch];exact hb
 generalize au nx.succ (Qw [I 0,I 0,.str 0 0,.nils]) (au nx (Qw (eS s)) h)=h2 at *;simp[tH,bj2,jB,M7,hr,tx,ec,De,Mg,UH];have e3:=E0 h2 nx.succ.succ (.cells (eO o) .fix);have bo3:ae nx.succ.succ (au nx.succ.succ (Qw (eO o)) h2)=Qw (eO o):=by simp
 have bs3:ae nx (au nx.succ.succ (Qw (eO o)) h2)=Qw (eS s):=by rw[e3.g nx (by omega)];exact bs2
 have b63:ae nx.succ (au nx.succ.succ (Qw (eO o)) h2)=Qw [I 0,I 0,.str 0 0,.nils]:=by rw[e3.g nx.succ (by omega)];exact b62
 have Ye:ae bj (au nx.succ.succ (Qw (eO o)) h2)=Qw (jB X c.yW (.sl (ai eO os) os.length 10 .any) s0 e):=by rw[e3.g bj (by omega)];exact bj2
 have Ns:=e2.trans e3;generalize au nx.succ.succ (Qw (eO o)) h2=h3 at *;have af:∀n H,aW n (bB o.args) H=(bB o.args,H):=kz _;have done:∀(c6:List AV),Ext h nx (au nx.succ (Qw c6) h3) nx.succ.succ.succ:=fun c6=>Ns.put (by omega);simp[tI,Ye,jB,bo3,bs3,eO,hn,rC,zR,lenS,CZ,af];refine aM.known (scC _ _) ?_;simp;have Q0:X.take c o s=none→avM X c o s (.ret (.tuple [.agg [I 0,I 0,.str 0 0,.nils],.bool false])):=fun e=>⟨⟨0,0,[]⟩,by rw[e];rfl,by rw[e];simp⟩;by_cases h1:X.Xr c s o.args=0
 ·cases h2:X.Xq c s o.args with
  |false=>
   have ht:X.take c o s=none:=by rw[aaa,if_pos (.inr h2)]
   simp[iA,h1];simp[lU,b63];exact⟨Q0 ht,done _⟩
  |true=>
   have HC:X.take c o s=if 0≤o.e∧(X.Cm c s o.args o.res≠0∨X.Cl c s o.args o.res=false)then none else if X.GM c s o.args o.res≠0 then none else some (X.EM c s o.args o.res):=by rw[aaa,if_neg];rw[h1,h2];simp
   have s4:=kTSu nx.succ.succ.succ;simp[iA,h1];have last:∀tm2:T AV,ae (K 0) tm2=some (.ptr bj 0)→ae (K 5) tm2=some (.ptr nx 0)→ae (K 6) tm2=some (.ptr nx.succ 0)→ae (K 8) tm2=some (.ptr nx.succ.succ 0)→(X.take c o s=if X.GM c s o.args o.res≠0 then none else some (X.EM c s o.args o.res))→
     fJ C (.seq (.staged lV ⟨[K 83,K 84,K 85,K 86,K 87,K 88,K 89,K 90,K 91,K 92,K 93,K 94,K 95,K 96,K 97,K 98,K 99,K 100,K 101,K 102,K 82,K 103,K 104,K 13,K 10],[]⟩) (.seq (.ops kU) .ret)) (cY [.cell (K 6) true 4,.tmp (K 7)] fun out h' nx'=>avM X c o s out∧Ext h nx h' nx') tm2 h3 nx.succ.succ.succ:=by
    intro tm2 q0 q5 q6 q8 ht;simp;simp[lV,q0,q5,q8,Ye,jB,bo3,bs3,eO,hn,rN,zR,lenS,CZ,af];refine aM.known (scN _ _) ?_;simp[C7,lenS,aay];have b64:ae nx.succ (au nx.succ.succ.succ (Qw (eS (X.EM c s o.args o.res))) h3)=Qw [I 0,I 0,.str 0 0,.nils]:=by rw[aw (by omega)];exact b63
    simp[kU,q6,b64,C7,lenS,zR,CZ];refine⟨⟨X.EM c s o.args o.res,?_,?_⟩,?_⟩
    ·rw[ht];by_cases he:X.GM c s o.args o.res=0
     ·rw[if_neg (by simpa using he),bt he];rfl
     ·rw[if_pos he,bq he];rfl
    ·intro t hts;rw[ht]at hts;split at hts
     ·cases hts
     ·exact Option.some.inj hts
    ·exact⟨by have:=Ns.n;omega,fun b hb=>by rw[aw (by omega),aw (by omega)];exact Ns.g b hb⟩
   simp only[bR,cr]at last;by_cases he:o.e<0
   ·rw[if_neg (by omega)]at HC;simp[lW,bo3,eO,he];refine last _ ?_ ?_ ?_ ?_ HC<;>simp
   ·simp[lW,bo3,eO,he];simp[tJ,Ye,jB,bo3,bs3,eO,hn,rH,zR,lenS,CZ,af];refine aM.known (scH _ _) ?_;simp;by_cases h3':X.Cm c s o.args o.res=0
    ·cases h4:X.Cl c s o.args o.res with
     |false=>rw[if_pos ⟨by omega,.inr h4⟩]at HC;simp[iB,h3'];simp[lX,b63];exact⟨Q0 HC,done _⟩
     |true=>rw[if_neg (by rw[h3',h4];simp)]at HC;simp[iB,h3'];refine last _ ?_ ?_ ?_ ?_ HC<;>simp
    ·rw[if_pos ⟨by omega,.inl h3'⟩]at HC;simp[iB,bq h3'];simp[lX,b63];exact⟨Q0 HC,done _⟩
 ·have ht:X.take c o s=none:=by rw[aaa,if_pos (.inl h1)]
  simp[iA,bq h1];simp[lU,b63];exact⟨Q0 ht,done _⟩
end Ln
namespace Ln
open Go.Sx Go
variable{C:bU}{X:Kn}(S:Std C X)
include S
end Ln
namespace Ln
open Go.Sx Go
def cm(i:Nat)(o:Op):j6:=(w7 i o.name).getD default
def Kn.run(X:Kn)(i:Nat)(os:List Op):List Int→St→Bool
 | [],_=>true
 |x ::l,s=>match X.take (cm i (at_ os x)) (at_ os x) s with
  |none=>false
  |some t=>X.run i os l t
noncomputable def Kn.check(X:Kn)(i:Nat)(l:List Ev)(ord:List Int):Int:=if jD i l=0 then(if kI (aI 0 l) ord=true then(if X.run i (aI 0 l) ord (aQ i)=true then 0 else 25)else 12)else jD i l
theorem BA{i:Nat}{l:List Ev}(h:jD i l=0):dI [] l=0∧ux i (aI 0 l)=0:=by
 unfold jD at h;by_cases hv:dI [] l=0
 ·rw[if_pos hv]at h;exact⟨hv,h⟩
 ·rw[if_neg hv]at h;exfalso;unfold EI at h;split at h
  ·exact hv ‹_›
  ·exact absurd h (by decide)
  ·exact absurd h (by decide)
  ·exact absurd h (by decide)
theorem Xx{i:Nat}(hi:i<3){os:List Op}(hb:ux i os=0){x:Nat}{o:Op}(h:os[x]?=some o):amI i os x o (cm i o):=by
 obtain⟨c,h1,h2⟩:=Yx hb o (List.mem_of_getElem? h);have e:cm i o=c:=by unfold cm;rw[h1];rfl
 rw[e];exact⟨h,(Tm h1).1.symm,h2,ai8 hi h1⟩
theorem Q4{i:Nat}(hi:i<3):iX i (aQ i):=by unfold iX aQ Cr;split<;>simp
variable{C:bU}{X:Kn}(S:Std C X)
def CkI(X:Kn)(i:Nat)(os:List Op)(ord:List Int)(c3:AV)(bj bs:Key)(s0:St)(h:T ag)(nx:Key)(cells:List AV)(m:Nat)(tm':T AV)(h':T ag)(nx':Key):Prop:=∃(j:Nat) (s:St),m=ord.length-j∧j≤ord.length∧ae (K 11) tm'=some (.ptr bj 0)∧ae (K 13) tm'=some (.ptr bs 0)∧ae (K 41) tm'=some c3∧ae (K 42) tm'=some (I ord.length)∧ae (K 43) tm'=some (I j)∧
 ae bj h'=Qw cells∧ae bs h'=Qw (eS s)∧bj.toNat<nx'.toNat∧bs.toNat<nx'.toNat∧Ext h nx h' nx'∧iX i s∧X.run i os ord s0=X.run i os (ord.drop j) s
include S
theorem ash{i:Nat}(hi:i<3){os:List Op}(yb:ux i os=0){ord:List Int}(hlen:ord.length≤1000)(rng:∀x∈ord,0≤x∧x<os.length){c3 cO:AV}(hc:gR 10 eO cO os){bj bs:Key}{s0 s1:St}{e:Nat}{h:T ag}{nx:Key}{Q:cJ}(hbs:nx.toNat≤bs.toNat)(bT:bj≠bs)(o0:Ord c3 ord ord.length h nx){m:Nat}{tm:T AV}{h1:T ag}{bW:Key}(A:CkI X i os ord c3 bj bs s0 h nx (jB X i cO s1 e) m tm h1 bW)
  (uz:∀tm' h' nx',ae (K 10) tm'=some (I 25)→X.run i os ord s0=false→Ext h nx h' nx'→Q .ret tm' h' nx')
  (gC:∀tm' h' nx',X.run i os ord s0=true→Ext h nx h' nx'→Q .norm tm' h' nx') :
  W C (.loop rq) (az 0 Q) tm h1 bW:=by
 have rp:=S.r dz;refine W.eB (CkI X i os ord c3 bj bs s0 h nx (jB X i cO s1 e)) A ?_;rintro m dF h2 aN ⟨j,s,rfl,hj,g11,g13,g41,g42,g43,bj2,bs2,ltj,lts,e2,hs,fp⟩;refine W.of ?_;simp[rq];by_cases bY:j<ord.length
 ·have Bh:(j:Int)<ord.length:=by omega
  have rj:=rng _ (DX bY);obtain⟨x,hx⟩:=Int.eq_ofNat_of_zero_le rj.1;have M7:x<os.length:=by omega
  have hco:=Xx hi yb (A6 M7);have Ec:=XI hx M7;rw[zqt bY]at fp;have hru:X.run i os (ord[j] ::ord.drop (j+1)) s=match X.take (cm i os[x]) os[x] s with|none=>false|some t=>X.run i os (ord.drop (j+1)) t:=by show(match X.take (cm i (at_ os ord[j])) (at_ os ord[j]) s with|none=>false|some t=>X.run i os (ord.drop (j+1)) t)=_;rw[Ec]
  rw[hru]at fp;have n2:=e2.n;simp[xL,g42,g43,Bh];have body:∀tm2:T AV,(∀k:Key,k=K 11∨k=K 13∨k=K 41∨k=K 42∨k=K 43→ae k tm2=ae k dF)→ae (K 15) tm2=some (I ord[j])→
    fJ C (.seq (.ops vS) (.seq (.seq (.ops pE) (.cond (.t (K 55)) (.seq (.ops vT) .ret) .skip)) (.ops vU))) (az 1 (aO (fJ C (.ops vV) (aO (fun tm h' nx'=>∃m,m<ord.length-j∧CkI X i os ord c3 bj bs s0 h nx (jB X i cO s1 e) m tm h' nx') (az 0 Q))) (aO (fun tm h' nx'=>∃m,m<ord.length-j∧CkI X i os ord c3 bj bs s0 h nx (jB X i cO s1 e) m tm h' nx') (az 0 Q)))) tm2 h2 aN:=by
   intro tm2 q q15;have UG:=(q (K 11) (by simp)).trans g11;have NB:=(q (K 13) (by simp)).trans g13;have q41:=(q (K 41) (by simp)).trans g41;have q42:=(q (K 42) (by simp)).trans g42;have q43:=(q (K 43) (by simp)).trans g43;rw[hx]at q15;simp;simp[vS,UG,NB,q15,bs2,lenS,zR,rp,CZ];refine(aaN S hc hco hs bj2 ltj).mono ?_;rintro out h3 bP ⟨⟨u,rfl,hu⟩,e3⟩;have n3:=e3.n;have s3:=kTSu bP;simp[C7,lenS,aay];have e4:=E0 h3 bP (.cells (eS u) .fix);have b16:ae bP (au bP (Qw (eS u)) h3)=Qw (eS u):=by simp
   have bs4:ae bs (au bP (Qw (eS u)) h3)=Qw (eS s):=by rw[e4.g bs (by omega),e3.g bs lts];exact bs2
   have bj4:ae bj (au bP (Qw (eS u)) h3)=Qw (jB X i cO s1 e):=by rw[e4.g bj (by omega),e3.g bj ltj];exact bj2
   have Zt:=(e2.trans e3).trans e4;generalize au bP (Qw (eS u)) h3=h4 at *;cases ht:X.take (cm i os[x]) os[x] s with
   |none=>rw[ht]at fp;simp[pE];simp[vT];refine uz _ _ _ ?_ fp Zt;simp
   |some t=>rw[ht]at fp;have:=hu t ht;subst this;simp[pE];simp[vU,NB,b16,bs4,lenS,zR,aay,C7];simp[vV,q43];rw[aH (by omega) (by omega)];refine⟨ord.length-(j+1),by omega,j+1,u,rfl,by omega,by simp[UG],by simp[NB],by simp[q41],by simp[q42],by simp,by rw[aG _ _ _ _ bT];exact bj4,by simp,by omega,by omega,Zt.put hbs,?_,fp⟩;have:=S.ok.take (cm i os[x]) os[x] s u (by rw[hco.yW];exact hs) hco.ar ht;rw[hco.yW]at this;exact this
  simp only[bR,cp]at body;rcases (o0.ext e2).cases with⟨_,e'⟩|⟨f,e'⟩|⟨b,kd,e',hb,Ch⟩
  ·rw[e']at bY;simp at bY
  ·have jo:1≤ord.length-j:=by omega
   have EL:(ai eI ord).length=ord.length:=eF _;have rdj:=zd bY;have acD:=g41;rw[e']at acD;simp[xM,acD,g43,bY,EL,jo,rdj];refine body _ ?_ ?_
   ·rintro k (rfl|rfl|rfl|rfl|rfl)<;>simp
   ·simp
  ·have EL:(ai eI ord).length=ord.length:=eF _;have acD:=g41;rw[e']at acD;simp[xM,acD,g43,bY,EL,hb];refine body _ ?_ ?_
   ·rintro k (rfl|rfl|rfl|rfl|rfl)<;>simp
   ·simp
 ·have yi:j=ord.length:=by omega
  subst yi;rw[List.drop_length]at fp;simp[xL,g42,g43];exact gC _ _ _ fp e2
end Ln
namespace Ln
open Go.Sx Go
variable{C:bU}{X:Kn}(S:Std C X)
include S
theorem aoU{i:Nat}(hi:i<3){ev:AV}{l:List Ev}(hv:gR 8 eE ev l)(hl:Few l){c3:AV}{ord:List Int}(hlen:ord.length≤1000){h:T ag}{nx:Key}(o0:Ord c3 ord ord.length h nx) :
  aM C n9 [X.m,gH i,ev,c3,mF] h nx (fun o h' nx'=>o=.ret (I (X.check i l ord))∧Ext h nx h' nx'):=by
 have s1:=kTSu nx;have s2:=kTSu nx.succ;have rb:=S.r fL;have rL:C.raw kV=true:=S.rw (by decide);have hz:∀H,aW 9999 ev H=(ev,H):=fun H=>hv.wH _ _;have xp:(aI 0 l).length≤16:=by have:=sW l 0;have:=hl.len;omega
 refine S.HX.call ?_;simp[Eu];simp[FP,Kn.m,mF];have e2:=(E0 h nx (.cells [.sl X.rows 7 45 .any] .fix)).trans (E0 _ nx.succ (.cells [I 200,I 50] .fix));have bm2:ae nx (au nx.succ (Qw [I 200,I 50]) (au nx (Qw [.sl X.rows 7 45 .any]) h))=Qw [.sl X.rows 7 45 .any]:=by rw[aw (by omega)];simp
 have bl2:ae nx.succ (au nx.succ (Qw [I 200,I 50]) (au nx (Qw [.sl X.rows 7 45 .any]) h))=Qw [I 200,I 50]:=by simp
 generalize au nx.succ (Qw [I 200,I 50]) (au nx (Qw [.sl X.rows 7 45 .any]) h)=h2 at *;simp[FQ,bm2,bl2,rb,hz];refine(S0 S hi hv hl).mono ?_;rintro o h3 bP ⟨e3,hR⟩;have Ns:=e2.trans e3;have n3:=e3.n;rcases hR with⟨bT,rfl⟩|⟨uC,bj,cO,rfl,Ye,hc,bj0,bjn⟩
 ·have IA:X.check i l ord=jD i l:=by unfold Kn.check;rw[if_neg bT]
  simp;simp[xX,bq bT];simp[FR];exact⟨IA.symm,Ns⟩
 ·obtain⟨hvd,yb⟩:=BA uC;have IA:X.check i l ord=if kI (aI 0 l) ord=true then(if X.run i (aI 0 l) ord (aQ i)=true then 0 else 25)else 12:=by unfold Kn.check;rw[if_pos uC]
  simp;simp[xX];simp[FU,Ye,jB,rL];refine(asg S xp hlen hc (o0.ext Ns)).mono ?_;rintro o h4 kK ⟨rfl,e4⟩;have bj4:ae bj h4=Qw (jB X i cO (aQ i) (iN (aI 0 l) (aI 0 l).length)):=by rw[e4.g bj bjn];exact Ye
  have Zt:=Ns.trans e4;have n4:=e4.n;have s4:=kTSu kK;cases hL:kI (aI 0 l) ord with
  |false=>rw[hL]at IA;simp;simp[FV];exact⟨by rw[IA];rfl,Zt⟩
  |true=>
   rw[hL,if_pos rfl]at IA;have rng:∀x∈ord,0≤x∧x<(aI 0 l).length:=by
    by_cases aCe:Lin (aI 0 l) ord
    ·exact aCe.rng
    ·rw[pC aCe]at hL;cases hL
   simp;have e5:=E0 h4 kK (.cells (eS (aQ i)) .fix);have bs5:ae kK (au kK (Qw (eS (aQ i))) h4)=Qw (eS (aQ i)):=by simp
   have bj5:ae bj (au kK (Qw (eS (aQ i))) h4)=Qw (jB X i cO (aQ i) (iN (aI 0 l) (aI 0 l).length)):=by rw[e5.g bj (by omega)];exact bj4
   have e25:=Zt.trans e5;have UH:=(eu (aQ i).kids).1;simp[FW,bj4,jB,UH];have ees:eS (aQ i)=[I (aQ i).k,I (aQ i).n,.str 0 0,bB (aQ i).kids]:=rfl;rw[ees]at bs5 bj5 e25;have main:∀tm2:T AV,ae (K 11) tm2=some (.ptr bj 0)→ae (K 13) tm2=some (.ptr kK 0)→ae (K 41) tm2=some c3→ae (K 42) tm2=some (I ord.length)→ae (K 43) tm2=some (I 0)→
     W C (.loop rq) (az 0 (aO (fJ C (.seq (.ops wx) .ret) (cY [.tmp (K 10)] fun o h' nx'=>o=.ret (I (X.check i l ord))∧Ext h nx h' nx')) (cY [.tmp (K 10)] fun o h' nx'=>o=.ret (I (X.check i l ord))∧Ext h nx h' nx'))) tm2 (au kK (Qw [I (aQ i).k,I (aQ i).n,.str 0 0,bB (aQ i).kids]) h4) kK.succ:=by
    intro tm2 UG NB q41 q42 q43;refine ash S hi yb hlen rng hc (h:=h) (nx:=nx) (bj:=bj) (bs:=kK) (s0:=aQ i) (s1:=aQ i) (e:=iN (aI 0 l) (aI 0 l).length) (by have:=Zt.n;omega) (by rintro rfl;omega) o0 (m:=ord.length) ⟨0,aQ i,by simp,by omega,UG,NB,q41,q42,by simpa using q43,bj5,bs5,by omega,by omega,e25,Q4 hi,rfl⟩ ?_ ?_
    ·intro tm' h' nx' Gm hr e';rw[hr]at IA;simp[Gm];exact⟨by rw[IA];rfl,e'⟩
    ·intro tm' h' nx' hr e';rw[hr,if_pos rfl]at IA;simp;simp[wx];exact⟨by rw[IA],e'⟩
   rcases ar9 S o0 with⟨e,e'⟩|⟨l',f,e⟩|⟨b,e⟩
   ·have Zx:(ord.length:Int)=0:=by omega
    rw[Zx]at main;simp[ry,e];refine main _ ?_ ?_ ?_ ?_ ?_<;>simp[e]
   ·simp[ry,e];refine main _ ?_ ?_ ?_ ?_ ?_<;>simp[e]
   ·simp[ry,e];refine main _ ?_ ?_ ?_ ?_ ?_<;>simp[e]
end Ln
namespace Ln
open Go.Sx Go
variable{C:bU}{X:Kn}(S:Std C X)
include S
end Ln
namespace Ln
section
variable{σ:Type}
abbrev Cf(σ:Type):=Nat×σ
structure Sys(σ:Type) where
 n:Nat
 FZ:Nat→Nat→Bool
 take:Nat→σ→Option σ
 acc:Nat→Bool
def Sys.step(S:Sys σ)(c:Cf σ)(i:Nat):Option (Nat×Cf σ):=if S.FZ i c.1=true then(S.take i c.2).map fun s=>(i,(c.1+2^i,s))else none
def Sys.steps(S:Sys σ)(c:Cf σ):List (Nat×Cf σ):=(List.range S.n).filterMap (S.step c)
def Sys.Ok(S:Sys σ):Prop:=∀i d,S.FZ i d=true→d.testBit i=false
inductive Good(S:Sys σ):Cf σ→Prop
 |now {c:Cf σ} (h:S.acc c.1=true):Good S c
 |step {c c':Cf σ} {i:Nat} (h:(i,c')∈S.steps c) (g:Good S c'):Good S c
inductive Path(S:Sys σ):Cf σ→List Nat→Prop
 |now {c:Cf σ} (h:S.acc c.1=true):Path S c []
 |step {c c':Cf σ} {i:Nat} {p:List Nat} {a b:List (Nat×Cf σ)} (h:S.acc c.1=false) (e:S.steps c=a++(i,c') ::b) (no:∀x∈a,¬Good S x.2) (g:Path S c' p):Path S c (i ::p)
theorem Path.IT{S:Sys σ}{c:Cf σ}{p:List Nat}(h:Path S c p):Good S c:=by
 induction h with
 |now h=>exact .now h
 | @step c c' i p a b h e no g ih=>exact .step (i:=i) (by rw[e];simp) ih
theorem Path.uniq{S:Sys σ}{c:Cf σ}{p:List Nat}(h:Path S c p):∀{q:List Nat},Path S c q→p=q:=by
 induction h with
 |now h=>
  intro q hq;cases hq with
  |now _=>rfl
  |step h'=>rw[h]at h';cases h'
 | @step c c' i p a b h e no g ih=>
  intro q hq;cases hq with
  |now h'=>rw[h]at h';cases h'
  | @step _ c2 i2 p2 a2 b2 h' e' no' g'=>
   have key:∀(a a2:List (Nat×Cf σ)),a++(i,c') ::b=a2++(i2,c2) ::b2→(∀x∈a,¬Good S x.2)→(∀x∈a2,¬Good S x.2)→(i,c')=(i2,c2):=by
    intro a
    induction a with
    |nil=>
     intro a2 e3 n1 n2;cases a2 with
     |nil=>simp only[List.nil_append,List.cons.injEq]at e3;exact e3.1
     |cons y t=>simp only[List.nil_append,List.cons_append,List.cons.injEq]at e3;exact absurd g.IT (by have:=n2 y (by simp);rw[←e3.1]at this;exact this)
    |cons x t iht=>
     intro a2 e3 n1 n2;cases a2 with
     |nil=>simp only[List.nil_append,List.cons_append,List.cons.injEq]at e3;exact absurd g'.IT (by have:=n1 x (by simp);rw[e3.1]at this;exact this)
     |cons y s=>simp only[List.cons_append,List.cons.injEq]at e3;exact iht s e3.2 (fun x hx=>n1 x (by simp[hx])) (fun x hx=>n2 x (by simp[hx]))
   have:=key a a2 (e.symm.trans e') no no';cases this;rw[ih g']
theorem CX{S:Sys σ}{c c':Cf σ}{i:Nat}(h:(i,c')∈S.steps c):i<S.n∧S.FZ i c.1=true∧c'.1=c.1+2^i∧S.take i c.2=some c'.2:=by
 unfold Sys.steps at h;rw[List.mem_filterMap]at h;obtain⟨j,hj,e⟩:=h;unfold Sys.step at e;split at e
 ·rename_i ho;cases ht:S.take j c.2 with
  |none=>rw[ht]at e;cases e
  |some s=>rw[ht]at e;simp only[Option.map_some,Option.some.injEq,Prod.mk.injEq]at e;obtain⟨rfl,rfl⟩:=e;exact⟨List.mem_range.1 hj,ho,rfl,ht⟩
 ·cases e
theorem Cp:∀(i d:Nat),d.testBit i=false→d ||| 2^i=d+2^i
 |0,d,h=>by
  have h1:(d ||| 2^0) / 2=d / 2:=by rw[Nat.or_div_two];simp
  have h2:(d ||| 2^0)%2=1:=by
   have:(d ||| 2^0)%2^1=d%2^1 ||| 2^0%2^1:=Nat.or_mod_two_pow;have hd:d%2=0:=by rw[Nat.testBit_zero]at h;simp at h;omega
   rw[show(2:Nat)^1=2 from rfl,hd]at this;exact this
  have hd:d%2=0:=by rw[Nat.testBit_zero]at h;simp at h;omega
  generalize d ||| 2^0=x at h1 h2 ⊢;rw[Nat.pow_zero];omega
 |i+1,d,h=>by
  have h1:(d ||| 2^(i+1)) / 2=d / 2 ||| 2^i:=by rw[Nat.or_div_two,Nat.pow_succ,Nat.mul_div_cancel _ (by omega)]
  have h2:(d ||| 2^(i+1))%2=d%2:=by
   have:(d ||| 2^(i+1))%2^1=d%2^1 ||| 2^(i+1)%2^1:=Nat.or_mod_two_pow;have e:2^(i+1)%2=0:=by rw[Nat.pow_succ];omega
   simpa[e]using this
  have:=Cp i (d / 2) (by rw[←Nat.testBit_succ];exact h);rw[this]at h1;generalize d ||| 2^(i+1)=x at h1 h2 ⊢;rw[Nat.pow_succ];omega
theorem Xy{d n i:Nat}(hd:d<2^n)(hi:i<n)(hb:d.testBit i=false):d+2^i<2^n∧d ||| 2^i=d+2^i:=by have e:=Cp i d hb;refine⟨?_,e⟩;rw[←e];exact Nat.or_lt_two_pow hd (Nat.pow_lt_pow_right (by omega) hi)
theorem ak8{S:Sys σ}(hS:S.Ok){c c':Cf σ}{i:Nat}(h:(i,c')∈S.steps c)(hc:c.1<2^S.n):c'.1<2^S.n∧2^S.n-c'.1<2^S.n-c.1∧c.1<c'.1:=by obtain⟨h1,h2,h3,h4⟩:=CX h;have:=Xy hc h1 (hS _ _ h2);have:0<2^i:=Nat.two_pow_pos i;omega
variable[DecidableEq σ]
def fX(l:List (Cf σ))(c:Cf σ):List (Cf σ):=if c∈l then l else l ++ [c]
def ib:List (Cf σ)→List (Cf σ)→Option (List (Cf σ))
 |l,[]=>some l
 |l,c ::r=>if (fX l c).length>1024 then none else ib (fX l c) r
def Rt(S:Sys σ):Nat→Nat→List (Cf σ)→Option (List (Cf σ))
 |0,_,l=>some l
 |f+1,i,l=>match l[i]? with
  |none=>some l
  |some c=>match ib l ((S.steps c).map (·.2))with
   |none=>none
   |some l'=>Rt S f (i+1) l'
theorem ak9(l:List (Cf σ))(c:Cf σ):∃r,fX l c=l++r:=by
 unfold fX;split
 ·exact⟨[],by simp⟩
 ·exact⟨[c],rfl⟩
theorem ala(l:List (Cf σ))(c:Cf σ):c∈fX l c:=by unfold fX;split<;>simp_all
theorem Kf{l:List (Cf σ)}(h:l.Nodup)(c:Cf σ):(fX l c).Nodup:=by
 unfold fX;split
 ·exact h
 ·rename_i hc;rw[List.nodup_append];refine⟨h,by simp,?_⟩;intro a ha b hb;simp at hb;rintro rfl;subst hb;exact hc ha
theorem ZV{p:Cf σ→Prop}{l:List (Cf σ)}{c:Cf σ}(h:∀x∈l,p x)(hc:p c):∀x∈fX l c,p x:=by
 unfold fX;split
 ·exact h
 ·intro x hx;rcases List.mem_append.1 hx with hx|hx
  ·exact h x hx
  ·simp at hx;rw[hx];exact hc
theorem nC:∀{r l l':List (Cf σ)},ib l r=some l'→(∃t,l'=l++t)∧(∀c∈r,c∈l')∧(l.Nodup→l'.Nodup)∧(l.length≤1024→l'.length≤1024)∧(∀x∈l',x∈l∨x∈r)
 | [],l,l',h=>by unfold ib at h;cases h;exact⟨⟨[],by simp⟩,by simp,id,id,fun x hx=>.inl hx⟩
 |c ::r,l,l',h=>by
  unfold ib at h;split at h
  ·cases h
  ·rename_i hl;obtain⟨⟨t,e⟩,h2,h3,h4,h5⟩:=nC h;obtain⟨u,e2⟩:=ak9 l c;refine⟨⟨u++t,by rw[e,e2];simp⟩,?_,fun hn=>h3 (Kf hn c),fun _=>h4 (by omega),?_⟩
   ·intro x hx;rcases List.mem_cons.1 hx with rfl|hx
    ·rw[e];exact List.mem_append_left _ (ala _ _)
    ·exact h2 x hx
   ·intro x hx;rcases h5 x hx with hx|hx
    ·unfold fX at hx;split at hx
     ·exact .inl hx
     ·rcases List.mem_append.1 hx with hx|hx
      ·exact .inl hx
      ·simp at hx;subst hx;exact .inr (by simp)
    ·exact .inr (by simp[hx])
def pop:Nat→Nat→Nat
 |0,_=>0
 |n+1,d=>pop n d+(if d.testBit n then 1 else 0)
theorem Ru(d i:Nat)(hb:d.testBit i=false):∀n:Nat,pop n (d ||| 2^i)=pop n d+(if i<n then 1 else 0)
 |0=>by simp[pop]
 |n+1=>by
  unfold pop;rw[Ru d i hb n,Nat.testBit_or,Nat.testBit_two_pow];by_cases h:i=n
  ·subst h;rw[hb];simp
  ·by_cases h2:i<n
   ·simp[h,h2,show i<n+1 by omega];omega
   ·simp[h,h2,show ¬i<n+1 by omega]
theorem ZW:∀n:Nat,pop n 0=0
 |0=>rfl
 |n+1=>by unfold pop;rw[ZW n];simp
structure Kept(S:Sys σ)(i:Nat)(l:List (Cf σ)):Prop where
 nodup:l.Nodup
 len:l.length≤1024
 lt:∀c∈l,c.1<2^S.n
 mono:l.Pairwise fun a b=>pop S.n a.1≤pop S.n b.1
 aEo:∀c,l[i]?=some c→∀x∈l,pop S.n x.1≤pop S.n c.1+1
 done:∀(j:Nat) (c:Cf σ),j<i→l[j]?=some c→∀x∈S.steps c,x.2∈l
theorem ZX{S:Sys σ}(hS:S.Ok){c c':Cf σ}{i:Nat}(h:(i,c')∈S.steps c)(hc:c.1<2^S.n):pop S.n c'.1=pop S.n c.1+1:=by obtain⟨h1,h2,h3,h4⟩:=CX h;have hb:=hS _ _ h2;rw[h3,←(Xy hc h1 hb).2,Ru _ _ hb,if_pos h1]
theorem aip{S:Sys σ}{l:List (Cf σ)}{c:Cf σ}{k:Nat}(hk:pop S.n c.1=k+1)(hle:∀x∈l,pop S.n x.1≤k+1)(hm:l.Pairwise fun a b=>pop S.n a.1≤pop S.n b.1) :
  (fX l c).Pairwise (fun a b=>pop S.n a.1≤pop S.n b.1)∧∀x∈fX l c,pop S.n x.1≤k+1:=by
 refine⟨?_,ZV hle (by omega)⟩;unfold fX;split
 ·exact hm
 ·rw[List.pairwise_append];refine⟨hm,by simp,?_⟩;intro a ha b hb;simp at hb;subst hb;have:=hle a ha;omega
theorem OA{S:Sys σ}{k:Nat}:∀{r l l':List (Cf σ)},ib l r=some l'→(∀c∈r,pop S.n c.1=k+1)→(∀x∈l,pop S.n x.1≤k+1)→(l.Pairwise fun a b=>pop S.n a.1≤pop S.n b.1)→
  (l'.Pairwise fun a b=>pop S.n a.1≤pop S.n b.1)∧∀x∈l',pop S.n x.1≤k+1
 | [],l,l',h,_,h2,h3=>by unfold ib at h;cases h;exact⟨h3,h2⟩
 |c ::r,l,l',h,h1,h2,h3=>by
  unfold ib at h;split at h
  ·cases h
  ·obtain⟨a,b⟩:=aip (S:=S) (h1 c (by simp)) h2 h3;exact OA h (fun c hc=>h1 c (by simp[hc])) b a
theorem Kept.next{S:Sys σ}(hS:S.Ok){i:Nat}{l l':List (Cf σ)}(h:Kept S i l){c:Cf σ}(hc:l[i]?=some c)(ha:ib l ((S.steps c).map (·.2))=some l'):Kept S (i+1) l':=by
 have Ld:c∈l:=List.mem_of_getElem? hc;have azw:=h.lt c Ld;obtain⟨⟨t,e⟩,h2,h3,h4,h5⟩:=nC ha;obtain⟨m1,m2⟩:=OA (S:=S) (k:=pop S.n c.1) ha (by intro x hx;rw[List.mem_map]at hx;obtain⟨⟨j,y⟩,hy,rfl⟩:=hx;exact ZX hS hy azw) (h.aEo c hc) h.mono
 refine⟨h3 h.nodup,h4 h.len,?_,m1,?_,?_⟩
 ·intro x hx;rcases h5 x hx with hx|hx
  ·exact h.lt x hx
  ·rw[List.mem_map]at hx;obtain⟨⟨j,y⟩,hy,rfl⟩:=hx;exact(ak8 hS hy azw).1
 ·intro c2 hc2 x hx;have hle:=m2 x hx;have:pop S.n c.1≤pop S.n c2.1:=by
   have hp:=List.pairwise_iff_getElem.1 m1;obtain⟨q1,q2⟩:=List.getElem?_eq_some_iff.1 hc2;have hi:i<l'.length:=by omega
   have hci:l'[i]=c:=by
    have zz:i<l.length:=(List.getElem?_eq_some_iff.1 hc).1;have:l'[i]?=some c:=by rw[e,List.getElem?_append_left zz];exact hc
    exact(List.getElem?_eq_some_iff.1 this).2
   have:=hp i (i+1) hi q1 (by omega);rw[hci,q2]at this;exact this
  omega
 ·intro j c2 hj hc2 x hx;by_cases Bh:j=i
  ·subst Bh;have:c2=c:=by have zz:j<l.length:=(List.getElem?_eq_some_iff.1 hc).1;rw[e,List.getElem?_append_left zz,hc]at hc2;exact(Option.some.inj hc2).symm
   subst this;exact h2 _ (List.mem_map.2 ⟨x,hx,rfl⟩)
  ·have bY:j<l.length:=by have:=(List.getElem?_eq_some_iff.1 hc).1;omega
   rw[e,List.getElem?_append_left bY]at hc2;have:=h.done j c2 (by omega) hc2 x hx;rw[e];exact List.mem_append_left _ this
theorem Kept.up{S:Sys σ}(hS:S.Ok){i:Nat}{l:List (Cf σ)}(h:Kept S i l){j k:Nat}{c c':Cf σ}(hc:l[j]?=some c)(hk:l[k]?=some c'){q:Nat}(hs:(q,c')∈S.steps c):j<k:=by
 rcases Nat.lt_or_ge j k with hjk|hjk
 ·exact hjk
 ·exfalso;have hp:=ZX hS hs (h.lt c (List.mem_of_getElem? hc));obtain⟨a1,a2⟩:=List.getElem?_eq_some_iff.1 hc;obtain⟨b1,b2⟩:=List.getElem?_eq_some_iff.1 hk;rcases Nat.lt_or_ge k j with cH|Gx
  ·have:=List.pairwise_iff_getElem.1 h.mono k j b1 a1 cH;rw[a2,b2]at this;omega
  ·have:j=k:=by omega
   subst this;rw[hc]at hk;cases hk;omega
end
section
variable{σ:Type}[DecidableEq σ]
open Classical in
noncomputable def tA(S:Sys σ)(c:Cf σ):Bool:=decide (Good S c)
theorem IK{S:Sys σ}{c:Cf σ}:tA S c=true↔Good S c:=by unfold tA;exact @decide_eq_true_iff _ (Classical.propDecidable _)
theorem Wx{S:Sys σ}{c:Cf σ}:tA S c=false↔¬Good S c:=by rw[←IK];cases tA S c<;>simp
theorem acH{S:Sys σ}(c:Cf σ):tA S c=(S.acc c.1||(S.steps c).any fun x=>tA S x.2):=by
 rw[Bool.eq_iff_iff,IK,Bool.or_eq_true,List.any_eq_true];constructor
 ·intro h;cases h with
  |now h=>exact .inl h
  | @step c c' i h g=>exact .inr ⟨(i,c'),h,IK.2 g⟩
 ·rintro(h|⟨⟨i,c'⟩,hx,g⟩)
  ·exact .now h
  ·exact .step hx (IK.1 g)
def rowOf(S:Sys σ)(l:List (Cf σ))(c:Cf σ):List (Nat×Nat):=(S.steps c).map fun x=>(x.1,l.idxOf x.2)
theorem ag4{l t:List (Cf σ)}{c:Cf σ}(h:c∈l):(l++t).idxOf c=l.idxOf c:=by rw[List.idxOf_append,if_pos h]
theorem ake{S:Sys σ}{l t:List (Cf σ)}{c:Cf σ}(h:∀x∈S.steps c,x.2∈l):rowOf S (l++t) c=rowOf S l c:=by unfold rowOf;apply List.map_congr_left;intro x hx;rw[ag4 (h x hx)]
theorem IJ{l:List (Cf σ)}{c:Cf σ}(h:c∈l):l[l.idxOf c]?=some c:=by have:=List.idxOf_lt_length_of_mem h;rw[List.getElem?_eq_getElem this,List.getElem_idxOf]
theorem awY{l:List (Cf σ)}(hn:l.Nodup){c:Cf σ}{j:Nat}(h:l[j]?=some c):l.idxOf c=j:=by have h1:=IJ (List.mem_of_getElem? h);have a1:=(List.getElem?_eq_some_iff.1 h1);have a2:=(List.getElem?_eq_some_iff.1 h);obtain⟨p1,p2⟩:=a1;obtain⟨q1,q2⟩:=a2;exact(List.getElem_inj hn).1 (p2.trans q2.symm)
structure Whole(S:Sys σ)(l:List (Cf σ))(c0:Cf σ):Prop where
 kept:Kept S l.length l
 first:l[0]?=some c0
theorem Whole.closed{S:Sys σ}{l:List (Cf σ)}{c0:Cf σ}(h:Whole S l c0){c:Cf σ}(hc:c∈l):∀x∈S.steps c,x.2∈l:=by obtain⟨j,hj,e⟩:=List.getElem_of_mem hc;exact h.kept.done j c hj (by rw[List.getElem?_eq_getElem hj,e])
theorem Kept.start{S:Sys σ}{s:σ}(Ef:1≤1024):Kept S 0 [(0,s)]:=by
 refine⟨by simp,by simp,?_,by simp,?_,?_⟩
 ·intro c hc;simp at hc;subst hc;exact Nat.two_pow_pos _
 ·intro c hc x hx;simp at hc hx;subst hc;subst hx;omega
 ·intro j c hj;omega
theorem ao3{S:Sys σ}{f i:Nat}{l:List (Cf σ)}{c:Cf σ}(h:l[i]?=some c):Rt S (f+1) i l=match ib l ((S.steps c).map (·.2))with|none=>none|some l'=>Rt S f (i+1) l':=by show(match l[i]? with|none=>some l|some c=>_)=_;simp only[h]<;>rfl
theorem asC{S:Sys σ}{f i:Nat}{l:List (Cf σ)}(h:l.length≤i):Rt S f i l=some l:=by
 cases f with
 |zero=>rfl
 |succ f=>show(match l[i]? with|none=>some l|some c=>_)=_;rw[List.getElem?_eq_none h]
theorem Path.more{S:Sys σ}{c c':Cf σ}{i:Nat}{p:List Nat}{a b:List (Nat×Cf σ)}(h:S.acc c.1=false)(e:S.steps c=a++(i,c') ::b)(no:∀x∈a,¬Good S x.2)(g:Path S c' p):Path S c (i ::p):=.step h e no g
def Sys.kx(S:Sys σ)(c:Cf σ)(k:Nat):List (Nat×Cf σ):=(List.range k).filterMap (S.step c)
theorem lO(S:Sys σ)(c:Cf σ)(k:Nat):S.kx c (k+1)=S.kx c k++(S.step c k).toList:=by unfold Sys.kx;rw[List.range_succ,List.filterMap_append];cases h:S.step c k<;>simp[h]
theorem Wn(S:Sys σ)(c:Cf σ):S.kx c S.n=S.steps c:=rfl
theorem Hh(S:Sys σ)(c:Cf σ){k m:Nat}(h:k≤m):∃t,S.kx c m=S.kx c k++t:=by
 induction m with
 |zero=>exact⟨[],by obtain rfl:k=0:=Nat.le_zero.1 h;simp⟩
 |succ m ih=>
  rcases Nat.lt_or_ge k (m+1)with h1|h1
  ·obtain⟨t,e⟩:=ih (by omega);exact⟨t++(S.step c m).toList,by rw[lO,e,List.append_assoc]⟩
  ·have:k=m+1:=by omega
   subst this;exact⟨[],by simp⟩
theorem KJ(S:Sys σ)(c:Cf σ){k:Nat}(h:k<S.n){x:Nat×Cf σ}(e:S.step c k=some x):∃b,S.steps c=S.kx c k++x ::b:=by obtain⟨t,e2⟩:=Hh S c (k:=k+1) (m:=S.n) (by omega);refine⟨t,?_⟩;rw[←Wn,e2,lO,e];simp
theorem PM{α:Type}{lt:α→α→Prop}(irr:∀a,¬lt a a)(tr:∀a b c,lt a b→lt b c→lt a c):∀{l m:List α},l.Pairwise lt→m.Pairwise lt→(∀x,x∈l↔x∈m)→l=m
 | [],[],_,_,_=>rfl
 | [],b ::m,_,_,h=>absurd ((h b).2 (by simp)) (by simp)
 |a ::l,[],_,_,h=>absurd ((h a).1 (by simp)) (by simp)
 |a ::l,b ::m,h1,h2,h=>by
  rw[List.pairwise_cons]at h1 h2;have hab:a=b:=by
   rcases List.mem_cons.1 ((h a).1 (by simp))with e|ha
   ·exact e
   ·rcases List.mem_cons.1 ((h b).2 (by simp))with e|hb
    ·exact e.symm
    ·exact absurd (tr _ _ _ (h1.1 b hb) (h2.1 a ha)) (irr a)
  subst hab;congr 1;refine PM irr tr h1.2 h2.2 fun x=>?_;constructor
  ·intro hx;rcases List.mem_cons.1 ((h x).1 (by simp[hx]))with e|hm
   ·subst e;exact absurd (h1.1 x hx) (irr x)
   ·exact hm
  ·intro hx;rcases List.mem_cons.1 ((h x).2 (by simp[hx]))with e|hm
   ·subst e;exact absurd (h2.1 x hx) (irr x)
   ·exact hm
end
end Ln
namespace Ln
open Go.Sx Go
def pg(os:List Op)(k d:Nat):Bool:=!d.testBit k&&(List.range os.length).all fun q=>q==k || !(before (os.getD q default) (os.getD k default)&&decide (0≤(os.getD q default).e) && !d.testBit q) && !(d.testBit q&&before (os.getD k default) (os.getD q default))
def ve(os:List Op)(d:Nat):Bool:=(List.range os.length).all fun q=>!decide (0≤(os.getD q default).e)||d.testBit q
def aK(X:Kn)(i:Nat)(os:List Op):Sys St:=⟨os.length,pg os,fun k s=>X.take (cm i (os.getD k default)) (os.getD k default) s,ve os⟩
theorem ID(X:Kn)(i:Nat)(os:List Op):(aK X i os).Ok:=by intro k d h;have h:pg os k d=true:=h;unfold pg at h;rw[nn]at h;simpa using h.1
theorem kF{os:List Op}{k:Nat}(h:k<os.length):os.getD k default=os[k]:=by rw[List.getD_eq_getElem?_getD,A6 h];rfl
variable{C:bU}{X:Kn}(S:Std C X)
include S
end Ln
namespace Ln
open Go.Sx Go
theorem ahe{n:Nat}{p:Nat→Bool}{q:Nat}(hq:q<n)(h:p q=false):(List.range n).all p=false:=by rw[List.all_eq_false];exact⟨q,List.mem_range.2 hq,by simp[h]⟩
theorem aog{n:Nat}{p:Nat→Bool}(h:∀q,q<n→p q=true):(List.range n).all p=true:=AQ.2 fun q hq=>h q (List.mem_range.1 hq)
theorem Yg{j:Nat}{p:Nat→Prop}(h:∀q,q<j→p q)(hj:p j):∀q,q<j+1→p q:=fun q hq=>by
 by_cases e:q=j
 ·subst e;exact hj
 ·exact h q (by omega)
variable{C:bU}{X:Kn}(S:Std C X)
def Tb(os:List Op)(k d q:Nat):Bool:=q==k || !(before (os.getD q default) (os.getD k default)&&decide (0≤(os.getD q default).e) && !d.testBit q) && !(d.testBit q&&before (os.getD k default) (os.getD q default))
include S
end Ln
namespace Go.Sx
open Go
def Gr(z:Nat)(c:AV)(l:List AV)(len:Nat)(h:T ag)(nx:Key)(ob:Option Key):Prop:=
 (c=.nils∧l=[]∧len=0∧ob=none)∨(∃(b:Key) (k:CK),ob=some b∧c=.slice b 0 len z∧ae b h=some (.cells l k)∧b.toNat<nx.toNat∧l.length=len*z∧(k=.part∨k=.fix))∨
 (∃t:Key,ob=some t∧c=.sl l len z (.tok t)∧ae t h=some .tok∧t.toNat<nx.toNat)
structure Kj(h:T ag)(nx:Key)(ob:Option Key)(h':T ag)(nx':Key)(ob':Option Key):Prop where
 n:nx.toNat≤nx'.toNat
 g:∀b:Key,b.toNat<nx.toNat→ob≠some b→ae b h'=ae b h
 o:ob'=ob∨∃b:Key,ob'=some b∧nx.toNat≤b.toNat
theorem Kj.refl(h:T ag)(nx:Key)(ob:Option Key):Kj h nx ob h nx ob:=⟨dQ _,fun _ _ _=>rfl,.inl rfl⟩
theorem Kj.zK{h h':T ag}{nx nx':Key}(e:Ext h nx h' nx')(ob:Option Key):Kj h nx ob h' nx' ob:=⟨e.n,fun b hb _=>e.g b hb,.inl rfl⟩
theorem Kj.ne{h h':T ag}{nx nx' b:Key}{ob ob':Option Key}(a:Kj h nx ob h' nx' ob')(hb:b.toNat<nx.toNat)(hn:ob≠some b):ob'≠some b:=by
 rcases a.o with e|⟨x,e,hx⟩
 ·rw[e];exact hn
 ·rw[e];intro q;cases q;omega
theorem Kj.trans{h h' h2:T ag}{nx nx' n2:Key}{ob ob' o2:Option Key}(a:Kj h nx ob h' nx' ob')(b:Kj h' nx' ob' h2 n2 o2):Kj h nx ob h2 n2 o2:=by
 have h1:=a.n;refine⟨Nat.le_trans a.n b.n,fun x hx hn=>?_,?_⟩
 ·rw[b.g x (by omega) (a.ne hx hn)];exact a.g x hx hn
 ·rcases b.o with e|⟨y,e,hy⟩
  ·rw[e];exact a.o
  ·exact .inr ⟨y,e,by omega⟩
section
variable{z:Nat}{c:AV}{l new:List AV}{len m:Nat}{h h':T ag}{nx nx':Key}{ob:Option Key}
theorem Gr.nil(z:Nat)(h:T ag)(nx:Key):Gr z .nils [] 0 h nx none:=.inl ⟨rfl,rfl,rfl,rfl⟩
theorem Gr.lt(g:Gr z c l len h nx ob):∀b,ob=some b→b.toNat<nx.toNat:=by
 intro b hb;rcases g with⟨_,_,_,e⟩|⟨b',k,e,_,_,h4,_⟩|⟨t,e,_,_,h4⟩
 ·rw[hb]at e;cases e
 ·rw[hb]at e;cases e;exact h4
 ·rw[hb]at e;cases e;exact h4
theorem Gr.bZ(g:Gr z c l len h nx ob)(hn:nx.toNat≤nx'.toNat)(hk:∀b,ob=some b→ae b h'=ae b h):Gr z c l len h' nx' ob:=by
 rcases g with g|⟨b,k,e,h1,h2,h3,h4⟩|⟨t,e,h1,h2,h3⟩
 ·exact .inl g
 ·exact .inr (.inl ⟨b,k,e,h1,by rw[hk b e];exact h2,by omega,h4⟩)
 ·exact .inr (.inr ⟨t,e,h1,by rw[hk t e];exact h2,by omega⟩)
theorem Gr.ext(g:Gr z c l len h nx ob)(e:Ext h nx h' nx'):Gr z c l len h' nx' ob:=g.bZ e.n fun b hb=>e.g b (g.lt b hb)
theorem Gr.add(g:Gr z c l len h nx ob)(hw:Jo z=false)(hz:0<z)(hm:0<m)(hs:∀x∈l,UC x)(hn:new.length=m*z)(hl:len+m≤1048576)(hc:new.all AV.aV=true) :
  ∃c' h' nx' ob',appendTo z c new m h nx=.val c' h' nx'∧Gr z c' (l++new) (len+m) h' nx' ob'∧Kj h nx ob h' nx' ob':=by
 have s1:=kTSu nx;have Ki:m≠0:=by omega
 rcases g with⟨rfl,rfl,rfl,rfl⟩|⟨b,k,rfl,rfl,h2,h3,h4,hk⟩|⟨t,rfl,rfl,h2,h3⟩
 ·have Mm:m≤1048576:=by omega
  exact⟨.slice nx 0 m z,au nx (some (.cells new .part)) h,nx.succ,some nx,by simp[Ki,Mm],.inr (.inl ⟨nx,.part,rfl,by simp,by simp,by omega,by simpa using hn,.inl rfl⟩),by omega,fun b hb _=>aw hb,.inr ⟨nx,rfl,dQ _⟩⟩
 ·rcases hk with rfl|rfl
  ·refine⟨.sl (l++new) (len+m) z (.tok nx),au nx (some .tok) (au b none h),nx.succ,some nx,?_,.inr (.inr ⟨nx,rfl,by simp,by simp,by omega⟩),by omega,fun x hx hk=>?_,.inr ⟨nx,rfl,dQ _⟩⟩
   ·simp[hl,hc,h2,h4,Ki,hw]
   ·rw[aw hx,aG];rintro rfl;exact hk rfl
  ·have O0:¬(len+m)*z≤len*z:=by rw[Nat.add_mul];have:=Nat.mul_pos hm hz;omega
   have Ov:cn (aW 9999) l h=(l,h):=dw hs;have htl:List.take (len*z) l=l:=PV (by omega);refine⟨.slice nx 0 (len+m) z,au nx (some (.cells (l++new) .part)) h,nx.succ,some nx,?_,.inr (.inl ⟨nx,.part,rfl,rfl,by simp,by omega,by rw[Ll,h4,hn,Nat.add_mul],.inl rfl⟩),by omega,fun b hb _=>aw hb,.inr ⟨nx,rfl,dQ _⟩⟩;simp[hl,hc,h2,h4,O0,htl,Ov]
 ·refine⟨.sl (l++new) (len+m) z (.tok nx),au nx (some .tok) (au t none h),nx.succ,some nx,?_,.inr (.inr ⟨nx,rfl,by simp,by simp,by omega⟩),by omega,fun x hx hk=>?_,.inr ⟨nx,rfl,dQ _⟩⟩
  ·simp[hl,hc,h2,Ki]
  ·rw[aw hx,aG];rintro rfl;exact hk rfl
theorem Gr.IS{α:Type}{enc:α→List AV}(F:Flat z enc){us:List α}(g:Gr z c (ai enc us) us.length h nx ob)(hw:Jo z=false)(hz:0<z)(hl:us.length+1≤1048576)(x:α) :
  ∃c' h' nx' ob',appendTo z c (enc x) 1 h nx=.val c' h' nx'∧Gr z c' (ai enc (us ++ [x])) (us ++ [x]).length h' nx' ob'∧Kj h nx ob h' nx' ob':=by
 obtain⟨c',h',nx',ob',a,b,r⟩:=g.add (new:=enc x) (m:=1) hw hz (by omega) (F.IL us) (by rw[F.len,Nat.one_mul]) hl (AQ.2 (F.cell x));exact⟨c',h',nx',ob',a,by rw[kG,kD,Ll];exact b,r⟩
end
def Rd(z:Nat)(c:AV)(l:List AV)(len:Nat)(h:T ag)(nx:Key):Prop:=(c=.nils∧l=[]∧len=0)∨(∃f,c=.sl l len z f)∨∃(b:Key) (k:CK),c=.slice b 0 len z∧ae b h=some (.cells l k)∧b.toNat<nx.toNat∧l.length=len*z
theorem Gr.rd{z:Nat}{c:AV}{l:List AV}{len:Nat}{h:T ag}{nx:Key}{ob:Option Key}(g:Gr z c l len h nx ob):Rd z c l len h nx:=by
 rcases g with⟨h1,h2,h3,_⟩|⟨b,k,_,h1,h2,h3,h4,_⟩|⟨t,_,h1,_⟩
 ·exact .inl ⟨h1,h2,h3⟩
 ·exact .inr (.inr ⟨b,_,h1,h2,h3,h4⟩)
 ·exact .inr (.inl ⟨_,h1⟩)
theorem Rd.ext{z:Nat}{c:AV}{l:List AV}{len:Nat}{h h':T ag}{nx nx':Key}(g:Rd z c l len h nx)(e:Ext h nx h' nx'):Rd z c l len h' nx':=by
 rcases g with g|g|⟨b,k,h1,h2,h3,h4⟩
 ·exact .inl g
 ·exact .inr (.inl g)
 ·exact .inr (.inr ⟨b,k,h1,by rw[e.g b h3];exact h2,by have:=e.n;omega,h4⟩)
def I1(z i:Nat):AV→AV
 |.sl l _ _ _=>.cref (List.take z (List.drop (i*z) l))
 |.slice b off _ _=>.ptr b (off+i*z)
 |_=>.nils
theorem Rd.ix{z:Nat}{c:AV}{α:Type}{enc:α→List AV}(F:Flat z enc){us:List α}{h:T ag}{nx:Key}(g:Rd z c (ai enc us) us.length h nx){i:Nat}(hi:i<us.length){C:bU}{Q:cJ}{L:List aB}{tm:T AV}{n2 k1 k2 d1 d2:Key}(h1:ae k1 tm=some c)(h2:ae k2 tm=some (I i)) :
  ns C Q (⟨some d1,.indexL z (.t k1) (.t k2),none⟩ ::⟨some d2,.load true z (.t d1),none⟩ ::L) tm h n2=ns C Q L (au d2 (some (.agg (enc us[i]))) (au d1 (some (I1 z i c)) tm)) h n2:=by
 have hr:=F.rows us;have he:=F.at hi;have hl:=F.len us[i];have tx:z≤us.length*z-i*z:=by rw[←Nat.sub_mul];exact Nat.le_mul_of_pos_left z (by omega)
 have tk:List.take z (enc us[i])=enc us[i]:=PV (by omega);rcases g with⟨_,_,e⟩|⟨f,rfl⟩|⟨b,k,rfl,hb,_,_⟩
 ·omega
 ·simp[h1,h2,hi,hr,tx,he,hl,tk,I1]
 ·simp[h1,h2,hi,hr,tx,he,hl,tk,I1,hb]
theorem Rd.ln{z:Nat}{c:AV}{l:List AV}{len:Nat}{h:T ag}{nx:Key}(g:Rd z c l len h nx){C:bU}{Q:cJ}{L:List aB}{tm:T AV}{h2:T ag}{n2 k1 d1:Key}(h1:ae k1 tm=some c) :
  ns C Q (⟨some d1,.lenL (.t k1),none⟩ ::L) tm h2 n2=ns C Q L (au d1 (some (I len)) tm) h2 n2:=by
 rcases g with⟨rfl,_,rfl⟩|⟨f,rfl⟩|⟨b,k,rfl,_⟩
 ·simp[h1]
 ·simp[h1]
 ·simp[h1]
end Go.Sx
namespace Ln
open Go.Sx Go
def eC(c:Cf St):List AV:=[I c.1,I c.2.k,I c.2.n,.str 0 0,bB c.2.kids]
theorem wM:Flat 5 eC where
 len _:=rfl
 wH x y hy:=by
  simp[eC]at hy;rcases hy with rfl|rfl|rfl|rfl|rfl
  ·exact dG _ _
  ·exact dG _ _
  ·exact dG _ _
  ·exact wC _ _
  ·exact kz _
 cell x y hy:=by simp[eC]at hy;rcases hy with rfl|rfl|rfl|rfl|rfl<;>first|rfl|exact(eu _).1
 lits x:=by simp[eC,AV.gS,AV.lits,CW,I]
theorem JD(z:Cf St)(H:T ag):cn (aW 9998) (eC z) H=(eC z,H):=dw (wM.wH _)
theorem Ks(z:Cf St):List.take 5 (eC z)=eC z:=rfl
theorem wR(z:Cf St):(eC z).length=5:=rfl
theorem Mf(z:Cf St):(eC z).all AV.aV=true:=AQ.2 (wM.cell z)
variable{C:bU}{X:Kn}(S:Std C X)
include S
end Ln
namespace Ln
open Go.Sx Go
def Zs(s:St):Bool:=decide ((s.k=0∧s.kids=[]∨s.k=1∧(s.n=0∨s.n=1)∧s.kids=[])∨s.k=2∧s.n=0∧s.kids.all uA=true)
noncomputable def jF(l:List (Cf St)):List (Cf St):=l.mergeSort (fun a b=>decide (a.1<b.1∨a.1=b.1∧lL a.2 b.2≤0))
structure PU(C:bU):Prop where
 JC:Fn C qJ Hi
 ER:Fn C mg Cs
 wY:Fn C bO rW
 wZ:Fn C gP rX
 uI:Fn C ew qv
 w6:Fn C fj rY
 yn:Fn C dV tK
 zw:Fn C gp o4
 A9:Fn C dE xr
 zx:Fn C iW vd
 zS:Fn C gx o5
 Mk:Fn C tn Kv
 Ti:Fn C Af Tj
 JF:Fn C j7 Hx
 pj:Fn C dS z7
 Tk:Fn C ik Tl
 aaj:∀s:St,s.kids.length≤3→∀h nx,C.sum eH [.agg (eS s)] h nx=some (I (if Zs s=true then 0 else 1),h,nx)
 alN:∀(l:List (Cf St)) (b:Key) (h:T ag) (nx:Key),(∀y∈l,y.2.kids.length≤3)→l.Nodup→l.length≤1024→ae b h=Qw (ai eC l)→C.sum cX [.slice b 0 l.length 5,.fn cd [] []] h nx=some (.tuple [],au b (Qw (ai eC (jF l))) h,nx)
def zzV:AV:=.str 2 31354
end Ln
namespace Ln
open Go.Sx Go Go.Proofs
def TV(b:Nat)(t:DT):DT:=.ask .eql (.var b) (.lit 0) t (.ask .eql (.var b) (.lit 1) (.ask .eql (.var (b+1)) (.lit 0) t (.ask .eql (.var (b+1)) (.lit 1) t (.leaf (I 1)))) (.ask .eql (.var b) (.lit 2) (.ask .eql (.var (b+1)) (.lit 0) t (.leaf (I 1))) (.leaf (I 1))))
def aBq:Nat→Nat→DT→DT
 |0,_,t=>t
 |n+1,b,t=>TV b (aBq n (b+2) t)
def aBr:Nat→DT
 |0=>TV 0 (.leaf (I 0))
 |n+1=>.ask .eql (.var 0) (.lit 2) (.ask .eql (.var 1) (.lit 0) (aBq (n+1) 2 (.leaf (I 0))) (.leaf (I 1))) (.leaf (I 1))
theorem EG{ρ:Nat→Int}{b:Nat}{t:DT}{u:U}(h0:ρ b=u.k)(h1:ρ (b+1)=u.n):(TV b t).val ρ=if uA u=true then t.val ρ else I 1:=by
 obtain⟨k,n⟩:=u;have d0:(SI.var b).den ρ=k:=h0;have d1:(SI.var (b+1)).den ρ=n:=h1;have dl:∀z:Int,(SI.lit z).den ρ=z:=fun _=>rfl;unfold TV;simp only[DT.val,Dv,d0,d1,dl];by_cases h0:k=0
 ·simp[h0,uA]
 ·by_cases h1:k=1
  ·by_cases n0:n=0
   ·simp[h1,n0,uA]
   ·by_cases n1:n=1
    ·simp[h1,n1,uA]
    ·simp[h1,n0,n1,uA];rfl
  ·by_cases h2:k=2
   ·by_cases n0:n=0
    ·simp[h2,n0,uA]
    ·simp[h2,n0,uA];rfl
   ·simp[h0,h1,h2,uA];rfl
theorem ar1(ρ:Nat→Int):(DT.leaf (I 0)).val ρ=I 0:=rfl
theorem aoh{s:St}(hs:s.kids.length≤3):(aBr s.kids.length).val (yX s s)=I (if Zs s=true then 0 else 1):=by
 obtain⟨k,n,l⟩:=s;have dl:∀(ρ:Nat→Int) (z:Int),(SI.lit z).den ρ=z:=fun _ _=>rfl
 match l,hs with
 | [],_=>
  show(TV 0 (.leaf (I 0))).val _=_;rw[EG (u:=⟨k,n⟩) rfl rfl,ar1];by_cases h:uA ⟨k,n⟩=true
  ·have h2:=h;unfold uA at h;rw[decide_eq_true_eq]at h;have:Zs ⟨k,n,[]⟩=true:=by
    unfold Zs;rw[decide_eq_true_eq];rcases h with h|h|h
    ·exact .inl (.inl ⟨h,rfl⟩)
    ·exact .inl (.inr ⟨h.1,h.2,rfl⟩)
    ·exact .inr ⟨h.1,h.2,rfl⟩
   rw[if_pos h2,if_pos this]
  ·have:¬Zs ⟨k,n,[]⟩=true:=by
    intro q;apply h;unfold Zs at q;unfold uA;rw[decide_eq_true_eq]at q ⊢;rcases q with(q|q)|q
    ·exact .inl q.1
    ·exact .inr (.inl ⟨q.1,q.2.1⟩)
    ·exact .inr (.inr ⟨q.1,q.2.1⟩)
   rw[if_neg h,if_neg this]
 | [⟨a,b⟩],_=>
  have d0:(SI.var 0).den (yX ⟨k,n,[⟨a,b⟩]⟩ ⟨k,n,[⟨a,b⟩]⟩)=k:=rfl;have d1:(SI.var 1).den (yX ⟨k,n,[⟨a,b⟩]⟩ ⟨k,n,[⟨a,b⟩]⟩)=n:=rfl;show(DT.ask .eql (.var 0) (.lit 2) (.ask .eql (.var 1) (.lit 0) (TV 2 (.leaf (I 0))) (.leaf (I 1))) (.leaf (I 1))).val _=_;simp only[DT.val,Dv,d0,d1,dl];rw[EG (b:=2) (u:=⟨a,b⟩) rfl rfl];unfold Zs;by_cases h2:k=2
  ·by_cases n0:n=0
   ·by_cases q0:uA ⟨a,b⟩=true
    ·simp[h2,n0,q0,DT.val]<;>rfl
    ·simp[h2,n0,q0]<;>rfl
   ·simp[h2,n0]<;>rfl
  ·simp[h2]<;>rfl
 | [⟨a,b⟩,⟨c,d⟩],_=>
  have d0:(SI.var 0).den (yX ⟨k,n,[⟨a,b⟩,⟨c,d⟩]⟩ ⟨k,n,[⟨a,b⟩,⟨c,d⟩]⟩)=k:=rfl;have d1:(SI.var 1).den (yX ⟨k,n,[⟨a,b⟩,⟨c,d⟩]⟩ ⟨k,n,[⟨a,b⟩,⟨c,d⟩]⟩)=n:=rfl;show(DT.ask .eql (.var 0) (.lit 2) (.ask .eql (.var 1) (.lit 0) (TV 2 (TV 4 (.leaf (I 0)))) (.leaf (I 1))) (.leaf (I 1))).val _=_;simp only[DT.val,Dv,d0,d1,dl];rw[EG (b:=2) (u:=⟨a,b⟩) rfl rfl,EG (b:=4) (u:=⟨c,d⟩) rfl rfl];unfold Zs;by_cases h2:k=2
  ·by_cases n0:n=0
   ·by_cases q0:uA ⟨a,b⟩=true
    ·by_cases q1:uA ⟨c,d⟩=true
     ·simp[h2,n0,q0,q1,DT.val]<;>rfl
     ·simp[h2,n0,q0,q1]<;>rfl
    ·simp[h2,n0,q0]<;>rfl
   ·simp[h2,n0]<;>rfl
  ·simp[h2]<;>rfl
 | [⟨a,b⟩,⟨c,d⟩,⟨e,f⟩],_=>
  have d0:(SI.var 0).den (yX ⟨k,n,[⟨a,b⟩,⟨c,d⟩,⟨e,f⟩]⟩ ⟨k,n,[⟨a,b⟩,⟨c,d⟩,⟨e,f⟩]⟩)=k:=rfl;have d1:(SI.var 1).den (yX ⟨k,n,[⟨a,b⟩,⟨c,d⟩,⟨e,f⟩]⟩ ⟨k,n,[⟨a,b⟩,⟨c,d⟩,⟨e,f⟩]⟩)=n:=rfl;show(DT.ask .eql (.var 0) (.lit 2) (.ask .eql (.var 1) (.lit 0) (TV 2 (TV 4 (TV 6 (.leaf (I 0))))) (.leaf (I 1))) (.leaf (I 1))).val _=_;simp only[DT.val,Dv,d0,d1,dl];rw[EG (b:=2) (u:=⟨a,b⟩) rfl rfl,EG (b:=4) (u:=⟨c,d⟩) rfl rfl,EG (b:=6) (u:=⟨e,f⟩) rfl rfl];unfold Zs;by_cases h2:k=2
  ·by_cases n0:n=0
   ·by_cases q0:uA ⟨a,b⟩=true
    ·by_cases q1:uA ⟨c,d⟩=true
     ·by_cases q2:uA ⟨e,f⟩=true
      ·simp[h2,n0,q0,q1,q2,DT.val]<;>rfl
      ·simp[h2,n0,q0,q1,q2]<;>rfl
     ·simp[h2,n0,q0,q1]<;>rfl
    ·simp[h2,n0,q0]<;>rfl
   ·simp[h2,n0]<;>rfl
  ·simp[h2]<;>rfl
 |_ ::_ ::_ ::_ ::l,h=>exact absurd h (by simp)
def ahY:Nat→aP
 |0=>ahZ
 |1=>ah0
 |2=>ah1
 |_=>ah2
theorem ar2{n:Nat}(h:S4 n):aP.di (CF aR) 159 (ahY n) ⟨ah 159 (fx 159) [stS 0 n],[],.nil,bG⟩ [] []=true:=by
 cases h
 ·exact ajR
 ·exact ajS
 ·exact ajT
 ·exact ajU
theorem ar3{n:Nat}(h:S4 n):DT.same (ahY n).dt (aBr n) []=true:=by cases h<;>kernel_rfl
def II:Lr:=⟨159,QK,fun q=>[.agg (eS q.s)],fun q=>I (if Zs q.s=true then 0 else 1),by intro q p h;simp only[List.cons.injEq,and_true]at h;rw[Nn h]⟩
theorem YF:nF Tryz.prog .nil II:=by
 refine⟨⟨_,l9 (n:=159) (by decide)⟩,fun q=>?_⟩;have h1:=Pr q.hs;have h:=iv (f:=159) (by decide) (aub h1) (ar2 h1) (yX q.s q.s);rw[DT.wD (ρ:=yX q.s q.s) (ar3 h1) trivial,aoh q.hs]at h;have e:AV.jC (yX q.s q.s) [stS 0 q.s.kids.length]=[.agg (eS q.s)]:=by show [_]=_;rw[sub_one q.hs]
 rw[e]at h;exact h
theorem aBj(u:U):Zs ⟨u.k,u.n,[]⟩=uA u:=by
 rw[Bool.eq_iff_iff];unfold Zs uA;rw[decide_eq_true_eq,decide_eq_true_eq];constructor
 ·rintro((q|q)|q)
  ·exact .inl q.1
  ·exact .inr (.inl ⟨q.1,q.2.1⟩)
  ·exact .inr (.inr ⟨q.1,q.2.1⟩)
 ·rintro(h|h|h)
  ·exact .inl (.inl ⟨h,rfl⟩)
  ·exact .inl (.inr ⟨h.1,h.2,rfl⟩)
  ·exact .inr ⟨h.1,h.2,rfl⟩
structure QJ where
 i:Nat
 lt:i<4
def nmZ:Nat→AV
 |3=>zzV
 |i=>gH i
def aBt:Nat→AV
 |3=>.tuple [.agg auG,.bool false]
 |i=>.tuple [.agg (Kd i),.bool true]
theorem ah3:∀{i j:Nat},i<4→j<4→nmZ i=nmZ j→i=j:=by
 intro i j hi hj h;have Vu:i=0∨i=1∨i=2∨i=3:=by omega
 have Wq:j=0∨j=1∨j=2∨j=3:=by omega
 rcases Vu with rfl|rfl|rfl|rfl<;>rcases Wq with rfl|rfl|rfl|rfl<;>first|rfl|(exfalso;simp[nmZ,zzV,gH,mc]at h)
def H4:Lr:=⟨129,QJ,fun q=>[vM,I 4,nmZ q.i],fun q=>aBt q.i,by intro q p h;simp only[List.cons.injEq,true_and,and_true]at h;rw[ah3 q.lt p.lt h]⟩
theorem TO:nF Tryz.prog .nil H4:=by
 refine⟨⟨_,l9 (n:=129) (by decide)⟩,fun q=>?_⟩;obtain⟨i,hi⟩:=q;have h:=Rh
 match i,hi with
 |0,_=>exact h.1
 |1,_=>exact h.2.1
 |2,_=>exact h.2.2.1
 |3,_=>exact h.2.2.2.1
def KI:Lr:=⟨71,QJ,fun q=>[vM,I 4,nmZ q.i],fun q=>aBt q.i,by intro q p h;simp only[List.cons.injEq,true_and,and_true]at h;rw[ah3 q.lt p.lt h]⟩
theorem VB:nF Tryz.prog .nil KI:=by
 refine⟨⟨_,l9 (n:=71) (by decide)⟩,fun q=>?_⟩;obtain⟨i,hi⟩:=q;have h:=agE
 match i,hi with
 |0,_=>exact h.1
 |1,_=>exact h.2.1
 |2,_=>exact h.2.2.1
 |3,_=>exact h.2.2.2.1
end Ln
