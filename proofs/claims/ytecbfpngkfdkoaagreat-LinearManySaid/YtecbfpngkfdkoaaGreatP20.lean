/- A part of the proof. No condition. -/
import Derived.Test.YtecbfpngkfdkoaaGreatP19
import Derived.Test.YtecbfpngkfdkoaaGreatP6
import Derived.Test.YtecbfpngkfdkoaaGreatP9
import Derived.Test.YtecbfpngkfdkoaaGreatP17
import Derived.Test.YtecbfpngkfdkoaaGreatP18
set_option linter.unusedSimpArgs false
set_option linter.unusedVariables false
set_option linter.unusedSectionVars false
namespace Ln
open Go.Sx Go
def mj(X:Kn)(i:Nat)(l:List Ev):Int:=if bI [] l=0 then(if qA i (bO 0 l)=0 then X.TZ else qA i (bO 0 l))else jn (bI [] l)
def ik(os:List Op):Nat→Nat
 |0=>0
 |j+1=>if 0≤(os.getD j default).e then ik os j ||| 2^j else ik os j
theorem UL(os:List Op):∀j,ik os j<2^j
 |0=>by simp[ik]
 |j+1=>by
  have h:=UL os j;have h2:2^j<2^(j+1):=Nat.pow_lt_pow_right (by omega) (by omega);unfold ik;split
  ·exact Nat.or_lt_two_pow (by omega) h2
  ·omega
theorem jL{j:Nat}(h:j≤16):2^j≤65536:=Nat.pow_le_pow_right (n:=2) (by omega) h
theorem r9{n:Nat}(h:n≤65536):Oq .i64 (n:Int)=n:=by unfold Oq full;show Int.toNat (Int.emod (n:Int) 18446744073709551616)=n;have:Int.emod (n:Int) 18446744073709551616=(n:Int):=Int.emod_eq_of_lt (by omega) (by omega);rw[this];rfl
def jB(X:Kn)(i:Nat)(cO:AV)(s:St)(e:Nat):List AV:=[.sl X.rows 7 45 .any,fE i,cO,I X.lf,I X.lb,I 0,I s.k,I s.n,.str 0 0,aK s.kids,I e]
variable{C:bK}{X:Kn}(S:Std C X)
include S
structure BgA(X:Kn)(i:Nat)(os:List Op)(cO:AV)(bm bl bd bj n0:Key)(e:Nat)(tm:T AV)(h:T ah)(nx:Key):Prop where
 g1:ae (K 1) tm=some (fE i)
 g4:ae (K 4) tm=some (.ptr bm 0)
 g7:ae (K 7) tm=some (.ptr bl 0)
 g10:ae (K 10) tm=some cO
 g12:ae (K 12) tm=some (.ptr bd 0)
 g14:ae (K 14) tm=some (.ptr bj 0)
 m:ae bm h=Vv [.sl X.rows 7 45 .any]
 l:ae bl h=Vv [I X.lf,I X.lb]
 d:ae bd h=Vv (X.dec i)
 j:ae bj h=Vv (jB X i cO ⟨0,0,[]⟩ e)
 lt:bm.toNat<nx.toNat∧bl.toNat<nx.toNat∧bd.toNat<nx.toNat∧bj.toNat<nx.toNat
 ge:n0.toNat≤bj.toNat
 ne:bm≠bj∧bl≠bj∧bd≠bj
def BgL(X:Kn)(i:Nat)(os:List Op)(cO:AV)(bm bl bd bj n0:Key)(h:T ah)(m:Nat)(aw:T AV)(h':T ah)(nx':Key):Prop:=∃j:Nat,m=os.length-j∧j≤os.length∧ae (K 41) aw=some cO∧ae (K 42) aw=some (I os.length)∧ae (K 43) aw=some (I j)∧BgA X i os cO bm bl bd bj n0 (ik os j) aw h' nx'∧Ext h n0 h' nx'∧qA i os=qA i (os.drop j)
theorem akg{i:Nat}(hi:i=2){os:List Op}(ho:os.length≤16){cO:AV}(hc:iB 10 eO cO os){bm bl bd bj n0:Key}{h:T ah}{Q:cH}{m:Nat}{tm:T AV}{h1:T ah}{bF:Key}(A:BgL X i os cO bm bl bd bj n0 h m tm h1 bF)
  (DU:∀aw h' nx',ae (K 8) aw=some .nilp→ae (K 9) aw=some (I (qA i os))→qA i os≠0→Ext h n0 h' nx'→Q .ret aw h' nx')
  (fg:∀aw h' nx',BgA X i os cO bm bl bd bj n0 (ik os os.length) aw h' nx'→Ext h n0 h' nx'→qA i os=0→Q .norm aw h' nx') :
  W C (.loop nM) (aA 0 Q) tm h1 bF:=by
 have ri:=S.r bH;have d45:=S.ok.W7 i hi;have d36:=S.ok.aiG i hi;have AG:∀hh,(X.dec i)[36]'hh=ai1 X i:=fun hh=>by have q:=xF hh;rw[d36]at q;exact(Option.some.inj q).symm
 refine W.cM (BgL X i os cO bm bl bd bj n0 h) A ?_;rintro m dD h2 aU ⟨j,rfl,hj,g41,g42,g43,B,e2,qx⟩;obtain⟨g1,g4,g7,g10,g12,g14,Rz,bl2,bd2,Tm,lt,ge,ne⟩:=B;refine W.of ?_;simp[nM];by_cases bG:j<os.length
 ·have sZ:(j:Int)<os.length:=by omega
  have BX:cO=.sl (ag eO os) os.length 10 .any:=by
   rcases hc with⟨_,rfl⟩|e
   ·simp at bG
   ·exact e
  have ax6:=g41;rw[BX]at ax6;have ec:=ez.at bG;have hr:=ez.rows os;have tx:10≤os.length*10-j*10:=by omega
  have s2:=kTSu aU;have RA:(eO os[j]).all AV.aP=true:=vJ.2 (ez.cell _);rw[zqt bG]at qx;have hbg:qA i (os[j] ::os.drop (j+1))=match pQ i os[j].name with|none=>6|some c=>if os[j].args.length=c.ar then qA i (os.drop (j+1))else 1:=rfl
  rw[hbg]at qx;have hgd:os.getD j default=os[j]:=by rw[List.getD_eq_getElem?_getD,xF bG];rfl
  have heb:ik os (j+1)=if 0≤os[j].e then ik os j ||| 2^j else ik os j:=by rw[←hgd];rfl
  have elt:=UL os j;have p16:=jL (j:=j) (by omega);generalize os[j]=o at *;simp[uC,g42,g43,sZ];simp[Bv,ax6,g43,bG,hr,tx,ec,UC,MI,RA];have e3:=E0 h2 aU (.cells (eO o) .fix);have gb3:ae aU (av aU (Vv (eO o)) h2)=Vv (eO o):=by simp
  have bd3:ae bd (av aU (Vv (eO o)) h2)=Vv (X.dec i):=by rw[e3.g bd lt.2.2.1];exact bd2
  generalize hH:av aU (Vv (eO o)) h2=h3 at *;simp[Bw,g12,bd3,AG,d45,ri];refine(ai2 S hi o gb3 (by omega)).mono ?_;rintro out h4 jw ⟨rfl,e4⟩;simp;have gb4:ae aU h4=Vv (eO o):=by rw[e4.g aU (by omega)];exact gb3
  have UA:=e3.trans e4;have bm4:ae bm h4=Vv [.sl X.rows 7 45 .any]:=by rw[UA.g bm lt.1];exact Rz
  have bl4:ae bl h4=Vv [I X.lf,I X.lb]:=by rw[UA.g bl lt.2.1];exact bl2
  have XP:ae bd h4=Vv (X.dec i):=by rw[UA.g bd lt.2.2.1];exact bd2
  have ZN:ae bj h4=Vv (jB X i cO ⟨0,0,[]⟩ (ik os j)):=by rw[UA.g bj lt.2.2.2];exact Tm
  have n24:=UA.n;have hix:(∃(t:Nat) (ht:t<(aI i).length),Da i o.name=t∧pQ i o.name=some (aI i)[t])∨(Da i o.name=-1∧pQ i o.name=none):=by
   unfold Da pQ;cases hf:(aI i).findIdx? (fun c=>c.name==o.name)with
   |none=>rw[List.findIdx?_eq_none_iff]at hf;exact .inr ⟨rfl,List.find?_eq_none.2 (fun c hc=>by simpa using hf c hc)⟩
   |some t=>rw[List.findIdx?_eq_some_iff_getElem]at hf;obtain⟨ht,h1,h2⟩:=hf;refine .inl ⟨t,ht,rfl,?_⟩;rw[List.find?_eq_some_iff_getElem];exact⟨h1,t,ht,rfl,fun s hs=>by simpa using h2 s hs⟩
  have next:∀(aW:T AV) (h5:T ah),(∀k:Key,k=K 1∨k=K 4∨k=K 7∨k=K 10∨k=K 12∨k=K 14∨k=K 41∨k=K 42∨k=K 43→ae k aW=ae k dD)→ae bj h5=Vv (jB X i cO ⟨0,0,[]⟩ (ik os (j+1)))→(∀k:Key,k≠bj→ae k h5=ae k h4)→qA i os=qA i (os.drop (j+1))→
    lH C (aM (fun tm h' nx'=>∃m,m<os.length-j∧BgL X i os cO bm bl bd bj n0 h m tm h' nx') (aA 0 Q)) jg aW h5 jw:=by
   intro aW h5 q qj qk qe;have q43:=(q (K 43) (by simp)).trans g43;simp[jg,q43];rw[aC (by omega) (by omega)];refine⟨os.length-(j+1),by omega,j+1,rfl,by omega,?_,?_,by simp,⟨?_,?_,?_,?_,?_,?_,by rw[qk bm ne.1];exact bm4,by rw[qk bl ne.2.1];exact bl4,by rw[qk bd ne.2.2];exact XP,qj,by omega,ge,ne⟩,?_,qe⟩
   ·simp;exact(q (K 41) (by simp)).trans g41
   ·simp;exact(q (K 42) (by simp)).trans g42
   ·simp;exact(q (K 1) (by simp)).trans g1
   ·simp;exact(q (K 4) (by simp)).trans g4
   ·simp;exact(q (K 7) (by simp)).trans g7
   ·simp;exact(q (K 10) (by simp)).trans g10
   ·simp;exact(q (K 12) (by simp)).trans g12
   ·simp;exact(q (K 14) (by simp)).trans g14
   ·exact⟨by have:=e2.n;omega,fun b hb=>by rw[qk b (fun e=>by subst e;omega),UA.g b (by have:=e2.n;omega)];exact e2.g b hb⟩
  have anR:Ext h n0 h4 jw:=e2.trans UA;rcases hix with⟨t,ht,hx,hc'⟩|⟨hx,hc'⟩
  ·have h1:=S.ok.awr i hi t _ (xF ht);have ecr:=Ow S ht;have hlr:=Ox S (i:=i);have hl:=(S.ok.RL i).len t;have t23:23≤(aI i).length*23-t*23:=by omega
   rw[hc']at qx;simp only at qx;have hx0:¬(t:Int)<0:=by omega
   generalize (aI i)[t]=c at *;obtain⟨d,hd,hD⟩:=h1;have Jh:∀hh,(X.cmd i t)[1]'hh=d:=fun hh=>by have q:=xF hh;rw[hd]at q;exact(Option.some.inj q).symm
   simp[sI,hx,hx0];have hA:(aK o.args=.nils∧o.args.length=0)∨∃l,aK o.args=.sl l o.args.length 4 .any:=by
    cases o.args with
    |nil=>exact .inl ⟨rfl,rfl⟩
    |cons a t=>exact .inr ⟨_,rfl⟩
   have rest:∀aW:T AV,(∀k:Key,k=K 1∨k=K 4∨k=K 7∨k=K 10∨k=K 12∨k=K 14∨k=K 15∨k=K 16∨k=K 41∨k=K 42∨k=K 43→ae k aW=ae k (av (K 15) (some (I j)) (av (K 16) (some (.ptr aU 0)) dD)))→o.args.length=c.ar→
     lH C (aM (iH C (.cond (.t (K 67)) (.staged sJ ⟨[K 68,K 69,K 70,K 71,K 72,K 73,K 74,K 75,K 76],[]⟩) .skip) (aA 1 (aM (iH C (.ops jg) (aM (fun tm h' nx'=>∃m,m<os.length-j∧BgL X i os cO bm bl bd bj n0 h m tm h' nx') (aA 0 Q))) (aM (fun tm h' nx'=>∃m,m<os.length-j∧BgL X i os cO bm bl bd bj n0 h m tm h' nx') (aA 0 Q))))) (aA 1 (aM (iH C (.ops jg) (aM (fun tm h' nx'=>∃m,m<os.length-j∧BgL X i os cO bm bl bd bj n0 h m tm h' nx') (aA 0 Q))) (aM (fun tm h' nx'=>∃m,m<os.length-j∧BgL X i os cO bm bl bd bj n0 h m tm h' nx') (aA 0 Q))))) me aW h4 jw:=by
    intro aW q hlen;rw[if_pos hlen]at qx;have q15:ae (K 15) aW=some (I j):=by rw[q (K 15) (by simp)];simp
    have q16:ae (K 16) aW=some (.ptr aU 0):=by rw[q (K 16) (by simp)];simp
    have q14:ae (K 14) aW=some (.ptr bj 0):=by rw[q (K 14) (by simp)];simp[g14]
    have q9:∀k:Key,k=K 1∨k=K 4∨k=K 7∨k=K 10∨k=K 12∨k=K 14∨k=K 41∨k=K 42∨k=K 43→ae k aW=ae k dD:=by rintro k (rfl|rfl|rfl|rfl|rfl|rfl|rfl|rfl|rfl)<;>(rw[q _ (by simp)];simp)
    by_cases he:o.e<0
    ·rw[if_neg (by omega)]at heb;simp[me,q16,gb4,eO,he];refine next _ h4 ?_ (by rw[heb];exact ZN) (fun _ _=>rfl) qx
     rintro k (rfl|rfl|rfl|rfl|rfl|rfl|rfl|rfl|rfl)<;>(simp;exact q9 _ (by simp))
    ·rw[if_pos (by omega)]at heb;simp[me,q16,gb4,eO,he];have hsh:Lo .i64 j=true:=by unfold Lo;exact Nat.ble_eq_true_of_le (by omega)
     have Tr:((2:Int)^j)=((2^j:Nat):Int):=by simp
     have hp2:2^j≤65536:=jL (by omega);have hw:bP .i64 ((2:Int)^j)=((2^j:Nat):Int):=by rw[Tr];exact aC (by omega) (by omega)
     have S7:Oq .i64 ((2^j:Nat):Int)=2^j:=r9 hp2;have MD:Oq .i64 (ik os j:Int)=ik os j:=r9 (by omega);have Zo:ik os j ||| 2^j<2^(j+1):=Nat.or_lt_two_pow (by have:2^j<2^(j+1):=Nat.pow_lt_pow_right (by omega) (by omega);omega) (Nat.pow_lt_pow_right (by omega) (by omega));have hp3:2^(j+1)≤131072:=Nat.pow_le_pow_right (n:=2) (by omega) (by omega:j+1≤17);have hw2:bP .i64 ((ik os j ||| 2^j:Nat):Int)=((ik os j ||| 2^j:Nat):Int):=aC (by omega) (by omega);simp[sJ,q14,q15,ZN,jB,hsh,-Int.natCast_pow,hw,S7,MD,hw2];refine next _ _ ?_ ?_ (fun k hk=>aR _ _ _ _ hk) qx
     ·rintro k (rfl|rfl|rfl|rfl|rfl|rfl|rfl|rfl|rfl)<;>(simp;exact q9 _ (by simp))
     ·rw[heb];simp[jB];rw[hw,S7,hw2]
   rcases hA with⟨ea,ha0⟩|⟨la,ea⟩<;>rcases hD with⟨rfl,hk0⟩|⟨ld,z,rfl⟩
   ·simp[dP,g12,gb4,XP,eO,AG,d45,ht,hlr,t23,ecr,hl,Jh,ea];refine rest _ ?_ (by omega);rintro k (rfl|rfl|rfl|rfl|rfl|rfl|rfl|rfl|rfl|rfl|rfl)<;>simp
   ·by_cases ZG:c.ar=0
    ·simp[dP,g12,gb4,XP,eO,AG,d45,ht,hlr,t23,ecr,hl,Jh,ea,ZG];refine rest _ ?_ (by omega);rintro k (rfl|rfl|rfl|rfl|rfl|rfl|rfl|rfl|rfl|rfl|rfl)<;>simp
    ·have Ix:((0:Int)==(c.ar:Int))=false:=bq (by omega);rw[if_neg (by omega)]at qx;simp[dP,g12,gb4,XP,eO,AG,d45,ht,hlr,t23,ecr,hl,Jh,ea,Ix];simp[mc];refine DU _ _ _ ?_ ?_ (by rw[qx];decide) anR
     ·simp
     ·simp[qx]
   ·by_cases ZG:o.args.length=0
    ·simp[dP,g12,gb4,XP,eO,AG,d45,ht,hlr,t23,ecr,hl,Jh,ea,ZG];refine rest _ ?_ (by omega);rintro k (rfl|rfl|rfl|rfl|rfl|rfl|rfl|rfl|rfl|rfl|rfl)<;>simp
    ·have Ix:((o.args.length:Int)==0)=false:=bq (by omega);rw[if_neg (by omega)]at qx;simp[dP,g12,gb4,XP,eO,AG,d45,ht,hlr,t23,ecr,hl,Jh,ea,Ix];simp[mc];refine DU _ _ _ ?_ ?_ (by rw[qx];decide) anR
     ·simp
     ·simp[qx]
   ·by_cases ZG:o.args.length=c.ar
    ·simp[dP,g12,gb4,XP,eO,AG,d45,ht,hlr,t23,ecr,hl,Jh,ea,ZG];refine rest _ ?_ ZG;rintro k (rfl|rfl|rfl|rfl|rfl|rfl|rfl|rfl|rfl|rfl|rfl)<;>simp
    ·have Ix:((o.args.length:Int)==(c.ar:Int))=false:=bq (by omega);rw[if_neg ZG]at qx;simp[dP,g12,gb4,XP,eO,AG,d45,ht,hlr,t23,ecr,hl,Jh,ea,Ix];simp[mc];refine DU _ _ _ ?_ ?_ (by rw[qx];decide) anR
     ·simp
     ·simp[qx]
  ·rw[hc']at qx;simp only at qx;simp[sI,hx];simp[Bx];refine DU _ _ _ ?_ ?_ (by rw[qx];decide) anR
   ·simp
   ·simp[qx]
 ·have vK:j=os.length:=by omega
  subst vK;rw[List.drop_length]at qx;simp[uC,g42,g43];exact fg _ _ _ ⟨by simp[g1],by simp[g4],by simp[g7],by simp[g10],by simp[g12],by simp[g14],Rz,bl2,bd2,Tm,lt,ge,ne⟩ e2 qx
end Ln
namespace Ln
open Go.Sx Go
variable{C:bK}{X:Kn}(S:Std C X)
include S
def anx(X:Kn)(mk:AV→List AV)(i:Nat)(l:List Ev)(h:T ah)(nx:Key)(o:Out)(h':T ah)(nx':Key):Prop:=Ext h nx h' nx'∧
 ((mj X i l≠0∧o=.ret (.tuple [.nilp,I (mj X i l)]))∨
  (mj X i l=0∧∃(b:Key) (cO:AV),o=.ret (.tuple [.ptr b 0,I 0])∧ae b h'=Vv (mk cO)∧iB 10 eO cO (bO 0 l)∧nx.toNat≤b.toNat∧b.toNat<nx'.toNat))
omit S in
theorem Qy(i:Nat):∃k n,bZ i=⟨k,n,[]⟩:=by unfold bZ;split<;>exact⟨_,_,rfl⟩
theorem ah0{i:Nat}(hi:i=2){ev:AV}{l:List Ev}(hv:iB 8 eE ev l)(hl:YY l){h:T ah}{nx:Key}:aH C lp [X.m,fE i,ev,X.lim] h nx (anx X (fun cO=>jB X i cO (bZ i) (ik (bO 0 l) (bO 0 l).length)) i l h nx):=by
 have s1:=kTSu nx;have s2:=kTSu nx.succ;have rO:=S.r mO;have rD:=S.r zq;have rI:=S.r Co;have hz:∀H,aN 9999 ev H=(ev,H):=fun H=>hv.vV _ _;have vW:(bO 0 l).length≤16:=by have:=vX l 0;have:=hl.len;omega
 refine S.FG.call ?_;simp[Ce];simp[Dm,Kn.m,Kn.lim];have e2:=(E0 h nx (.cells [.sl X.rows 7 45 .any] .fix)).trans (E0 _ nx.succ (.cells [I X.lf,I X.lb] .fix));have Rz:ae nx (av nx.succ (Vv [I X.lf,I X.lb]) (av nx (Vv [.sl X.rows 7 45 .any]) h))=Vv [.sl X.rows 7 45 .any]:=by rw[az (by omega)];simp
 have bl2:ae nx.succ (av nx.succ (Vv [I X.lf,I X.lb]) (av nx (Vv [.sl X.rows 7 45 .any]) h))=Vv [I X.lf,I X.lb]:=by simp
 generalize av nx.succ (Vv [I X.lf,I X.lb]) (av nx (Vv [.sl X.rows 7 45 .any]) h)=h2 at *;simp[Dn,rO,hz];refine(alc S hv hl _ _).mono ?_;rintro o h3 cF ⟨⟨cO,rfl,hc⟩,e3⟩;have NK:=e2.trans e3;have bm3:ae nx h3=Vv [.sl X.rows 7 45 .any]:=by rw[e3.g nx (by omega)];exact Rz
 have bl3:ae nx.succ h3=Vv [I X.lf,I X.lb]:=by rw[e3.g nx.succ (by omega)];exact bl2
 have n3:=e3.n;simp;by_cases SQ:bI [] l=0
 ·rw[if_pos SQ]at hc;have Re:mj X i l=if qA i (bO 0 l)=0 then X.TZ else qA i (bO 0 l):=by unfold mj;rw[if_pos SQ]
  simp[uh,SQ,jn];have d45:=S.ok.W7 i hi;have dC:(X.dec i).all AV.aP=true:=vJ.2 (S.ok.ams i hi);simp[Dp,bm3,rD];refine aH.known (S.s_parser_Decl i hi _ _) ?_;have s3:=kTSu cF;have s4:=kTSu cF.succ;simp[d45,dC];have dt:List.drop 45 (X.dec i)=[]:=List.drop_eq_nil_of_le (by omega);have e4:=E0 h3 cF (.cells (X.dec i) .fix);have XP:ae cF (av cF (Vv (X.dec i)) h3)=Vv (X.dec i):=by simp
  have bm4:ae nx (av cF (Vv (X.dec i)) h3)=Vv [.sl X.rows 7 45 .any]:=by rw[e4.g nx (by omega)];exact bm3
  have bl4:ae nx.succ (av cF (Vv (X.dec i)) h3)=Vv [I X.lf,I X.lb]:=by rw[e4.g nx.succ (by omega)];exact bl3
  generalize av cF (Vv (X.dec i)) h3=h4 at *;simp[Dq];have Kb:cO.aP=true∧cO.cells=[cO]:=hc.cell;have hcz:∀n H,aN n cO H=(cO,H):=fun n H=>hc.vV n H;simp[Dr,bm4,bl4,Kb.1,Kb.2,hcz];have e5:=E0 h4 cF.succ (.cells (jB X i cO ⟨0,0,[]⟩ 0) .fix);have ejB:jB X i cO ⟨0,0,[]⟩ 0=[.sl X.rows 7 45 .any,fE i,cO,I X.lf,I X.lb,I 0,I 0,I 0,.str 0 0,.nils,I 0]:=rfl;rw[ejB]at e5;have s5:=kTSu cF.succ;have bj5:ae cF.succ (av cF.succ (Vv [.sl X.rows 7 45 .any,fE i,cO,I X.lf,I X.lb,I 0,I 0,I 0,.str 0 0,.nils,I 0]) h4)=Vv (jB X i cO ⟨0,0,[]⟩ 0):=by rw[gTSm];rfl
  have bm5:ae nx (av cF.succ (Vv [.sl X.rows 7 45 .any,fE i,cO,I X.lf,I X.lb,I 0,I 0,I 0,.str 0 0,.nils,I 0]) h4)=Vv [.sl X.rows 7 45 .any]:=by rw[e5.g nx (by omega)];exact bm4
  have bl5:ae nx.succ (av cF.succ (Vv [.sl X.rows 7 45 .any,fE i,cO,I X.lf,I X.lb,I 0,I 0,I 0,.str 0 0,.nils,I 0]) h4)=Vv [I X.lf,I X.lb]:=by rw[e5.g nx.succ (by omega)];exact bl4
  have bd5:ae cF (av cF.succ (Vv [.sl X.rows 7 45 .any,fE i,cO,I X.lf,I X.lb,I 0,I 0,I 0,.str 0 0,.nils,I 0]) h4)=Vv (X.dec i):=by rw[e5.g cF (by omega)];exact XP
  have e25:=(NK.trans e4).trans e5;generalize av cF.succ (Vv [.sl X.rows 7 45 .any,fE i,cO,I X.lf,I X.lb,I 0,I 0,I 0,.str 0 0,.nils,I 0]) h4=h5 at *;have main:∀tm5:T AV,ae (K 41) tm5=some cO→ae (K 42) tm5=some (I (bO 0 l).length)→ae (K 43) tm5=some (I 0)→ae (K 1) tm5=some (fE i)→ae (K 4) tm5=some (.ptr nx 0)→ae (K 7) tm5=some (.ptr nx.succ 0)→ae (K 10) tm5=some cO→ae (K 12) tm5=some (.ptr cF 0)→ae (K 14) tm5=some (.ptr cF.succ 0)→
    W C (.loop nM) (aA 0 (aM (iH C (.seq (.ops sw) (.seq (.seq (.ops l9) (.cond (.t (K 86)) (.seq (.ops sx) .ret) .skip)) (.seq (.ops sy) (.seq (.ops sA) .ret)))) (dF [.tmp (K 8),.tmp (K 9)] (anx X (fun cO=>jB X i cO (bZ i) (ik (bO 0 l) (bO 0 l).length)) i l h nx))) (dF [.tmp (K 8),.tmp (K 9)] (anx X (fun cO=>jB X i cO (bZ i) (ik (bO 0 l) (bO 0 l).length)) i l h nx)))) tm5 h5 cF.succ.succ:=by
   intro tm5 q41 q42 q43 q1 q4 q7 q10 q12 q14;refine akg S hi vW hc (h:=h) (n0:=nx) (bm:=nx) (bl:=nx.succ) (bd:=cF) (bj:=cF.succ) (m:=(bO 0 l).length) ⟨0,by simp,by omega,q41,q42,by simpa using q43,⟨q1,q4,q7,q10,q12,q14,bm5,bl5,bd5,bj5,by omega,by omega,?_⟩,e25,rfl⟩ ?_ ?_
   ·refine⟨?_,?_,?_⟩<;>(intro e;have:=congrArg Key.toNat e;omega)
   ·intro aw h' nx' a8 a9 bU e';simp[a8,a9];exact⟨e',.inl ⟨by rw[Re,if_neg bU];exact bU,by rw[Re,if_neg bU]⟩⟩
   ·rintro aw h' nx' ⟨a1,a4,a7,a10,a12,a14,bm',bl',bd',bj',lt,ge,ne⟩ e' Ix;simp;simp[sw,a1,a4,a7,bm',bl',rI];refine aH.known (S.s_InitP i hi _ _) ?_;obtain⟨k,n,Jg⟩:=Qy i;have es:eS (bZ i)=[I k,I n,.str 0 0,.nils]:=by rw[Jg];rfl
    have s6:=kTSu nx';simp[es];have bj6:ae cF.succ (av nx' (Vv [I k,I n,.str 0 0,.nils]) h')=Vv (jB X i cO ⟨0,0,[]⟩ (ik (bO 0 l) (bO 0 l).length)):=by rw[az lt.2.2.2];exact bj'
    have ex:Ext h nx (av nx' (Vv [I k,I n,.str 0 0,.nils]) h') nx'.succ:=⟨by have:=e'.n;omega,fun b hb=>by rw[az (by have:=e'.n;omega)];exact e'.g b hb⟩;by_cases BF:X.TZ=0
    ·simp[l9,BF];simp[sy,a14,bj6,jB];simp[sA,a14];refine⟨?_,.inr ⟨by rw[Re,if_pos Ix];exact BF,cF.succ,cO,rfl,?_,hc,by omega,by omega⟩⟩
     ·exact⟨by have:=e'.n;omega,fun b hb=>by rw[az (by omega),az (by have:=e'.n;omega)];exact e'.g b hb⟩
     ·simp[jB,Jg,aK]
    ·simp[l9,bq BF];simp[sx];exact⟨ex,.inl ⟨by rw[Re,if_pos Ix];exact BF,by rw[Re,if_pos Ix]⟩⟩
  rcases id hc with⟨ec,eo⟩|ec
  ·have hl0:(bO 0 l).length=0:=by rw[eo];rfl
   have aEA:((bO 0 l).length:Int)=0:=by omega
   rw[aEA]at main;simp[ui,ec];refine main _ ?_ ?_ ?_ ?_ ?_ ?_ ?_ ?_ ?_<;>simp[ec]
  ·simp[ui,ec];refine main _ ?_ ?_ ?_ ?_ ?_ ?_ ?_ ?_ ?_<;>simp[ec]
 ·have bU:jn (bI [] l)≠0:=by unfold jn;split<;>first|exact absurd ‹_› SQ|decide
  have Re:mj X i l=jn (bI [] l):=by unfold mj;rw[if_neg SQ]
  simp[uh,bq bU];simp[Dt];exact⟨NK,.inl ⟨by rw[Re];exact bU,by rw[Re]⟩⟩
end Ln
namespace Ln
open Go.Sx Go
def H4(i:Nat)(name:Nat×Nat)(n:Nat):Int:=match pQ i name with
 |none=>6
 |some c=>if n=c.ar then 0 else 1
def H5:List AV:=[.str 0 0,.nils,I 0,.str 0 0,I 0,.nils,.nils,.nils,I 0,I 0,.str 0 0,I 0,.nils,.nils,.nils,I 0,I 0,.str 0 0,I 0,.nils,.nils,.nils,I 0]
theorem aw3(i:Nat)(name:Nat×Nat):(∃(t:Nat) (ht:t<(aI i).length),Da i name=t∧pQ i name=some (aI i)[t])∨(Da i name=-1∧pQ i name=none):=by
 unfold Da pQ;cases hf:(aI i).findIdx? (fun c=>c.name==name)with
 |none=>rw[List.findIdx?_eq_none_iff]at hf;exact .inr ⟨rfl,List.find?_eq_none.2 (fun c hc=>by simpa using hf c hc)⟩
 |some t=>rw[List.findIdx?_eq_some_iff_getElem]at hf;obtain⟨ht,h1,h2⟩:=hf;refine .inl ⟨t,ht,rfl,?_⟩;rw[List.find?_eq_some_iff_getElem];exact⟨h1,t,ht,rfl,fun s hs=>by simpa using h2 s hs⟩
variable{C:bK}{X:Kn}(S:Std C X)
include S
theorem aDQ{i:Nat}(hi:i=2)(H:T ah):bC (aN 9998) (X.dec i) H=(X.dec i,H):=cn (S.ok.aC3 i hi)
def ajB(i:Nat)(name:Nat×Nat)(n:Nat)(o:Out):Prop:=∃c,o=.ret (.tuple [.agg c,I (H4 i name n)])∧c.length=23∧c.all AV.aP=true
theorem adQ{i:Nat}(hi:i=2)(name:Nat×Nat)(n:Nat):TN C pZ [X.m,fE i,.str name.1 name.2,I n] (ajB i name n):=by
 intro h nx;have s1:=kTSu nx;have s2:=kTSu nx.succ;have s3:=kTSu nx.succ.succ;have rD:=S.r qh;have rC:=S.r jQ;have d45:=S.ok.W7 i hi;have dC:(X.dec i).all AV.aP=true:=vJ.2 (S.ok.ams i hi);have dt:List.drop 45 (X.dec i)=[]:=List.drop_eq_nil_of_le (by omega);have dk:List.take 45 (X.dec i)=X.dec i:=OV (by omega);have d36:=S.ok.aiG i hi;have AG:∀hh,(X.dec i)[36]'hh=ai1 X i:=fun hh=>by have q:=xF hh;rw[d36]at q;exact(Option.some.inj q).symm
 refine S.Kw.call ?_;simp[IY];simp[H6,Kn.m];have e2:=(E0 h nx (.cells [.sl X.rows 7 45 .any] .fix)).trans (E0 _ nx.succ (.cells H5 .fix));have Rz:ae nx (av nx.succ (Vv H5) (av nx (Vv [.sl X.rows 7 45 .any]) h))=Vv [.sl X.rows 7 45 .any]:=by rw[az (by omega)];simp
 have br2:ae nx.succ (av nx.succ (Vv H5) (av nx (Vv [.sl X.rows 7 45 .any]) h))=Vv H5:=by simp
 unfold H5 at e2 Rz br2;generalize hH:av nx.succ _ (av nx (Vv [.sl X.rows 7 45 .any]) h)=h2 at *;simp[H7,Rz,rD];refine aH.known (S.s_ref09_Decl i hi _ _) ?_;simp[d45,dC,dt];have e3:=E0 h2 nx.succ.succ (.cells (X.dec i) .fix);have bd3:ae nx.succ.succ (av nx.succ.succ (Vv (X.dec i)) h2)=Vv (X.dec i):=by simp
 have br3:ae nx.succ (av nx.succ.succ (Vv (X.dec i)) h2)=Vv H5:=by rw[e3.g nx.succ (by omega)];exact br2
 generalize av nx.succ.succ (Vv (X.dec i)) h2=h3 at *;simp[H8,bd3,d45,dk,rC,aDQ S hi];refine(aaa S hi name _ _).mono ?_;rintro o h4 jw ⟨rfl,e4⟩;have XP:ae nx.succ.succ h4=Vv (X.dec i):=by rw[e4.g nx.succ.succ (by omega)];exact bd3
 have br4:ae nx.succ h4=Vv H5:=by rw[e4.g nx.succ (by omega)];exact br3
 have UA:=(e2.trans e3).trans e4;simp;have fin:∀(c:List AV),Ext h nx (av nx.succ (Vv c) h4) jw:=fun c=>UA.put (by omega);unfold H5 at br4;rcases aw3 i name with⟨t,ht,hx,hc⟩|⟨hx,hc⟩
 ·have hx0:¬(t:Int)<0:=by omega
  have h1:=S.ok.awr i hi t _ (xF ht);have ecr:=Ow S ht;have hlr:=Ox S (i:=i);have hl:=(S.ok.RL i).len t;have Kb:(X.cmd i t).all AV.aP=true:=vJ.2 ((S.ok.RL i).cell t);have aw4:List.take 23 (X.cmd i t)=X.cmd i t:=OV (by omega);have aw5:List.drop 23 (X.cmd i t)=[]:=List.drop_eq_nil_of_le (by omega);have t23:23≤(aI i).length*23-t*23:=by omega
  have adT:H4 i name n=if n=(aI i)[t].ar then 0 else 1:=by unfold H4;rw[hc]
  generalize (aI i)[t]=c at *;obtain⟨d,hd,hD⟩:=h1;have Jh:∀hh,(X.cmd i t)[1]'hh=d:=fun hh=>by have q:=xF hh;rw[hd]at q;exact(Option.some.inj q).symm
  simp[zu,hx,hx0];have zY:n=c.ar→ajB i name n (.ret (.tuple [.agg (X.cmd i t),I 0])):=fun e=>⟨_,by rw[adT,if_pos e],hl,Kb⟩;have bad:n≠c.ar→ajB i name n (.ret (.tuple [.agg H5,I 1])):=fun e=>⟨_,by rw[adT,if_neg e],rfl,rfl⟩;unfold H5 at bad;rcases hD with⟨rfl,hk0⟩|⟨ld,z,rfl⟩
  ·by_cases hn:n=0
   ·subst hn;simp[nn,XP,AG,d45,ht,hlr,t23,ecr,hl,Jh];simp[zv,XP,br4,AG,d45,ht,hlr,t23,ecr,hl,aw4,Kb,aw5,ass S];exact⟨zY (by omega),fin _⟩
   ·have Ix:((0:Int)==(n:Int))=false:=bq (by omega);simp[nn,XP,AG,d45,ht,hlr,t23,ecr,hl,Jh,Ix];simp[zw,br4];exact⟨bad (by omega),fin _⟩
  ·by_cases hn:c.ar=n
   ·simp[nn,XP,AG,d45,ht,hlr,t23,ecr,hl,Jh,hn];simp[zv,XP,br4,AG,d45,ht,hlr,t23,ecr,hl,aw4,Kb,aw5,ass S];exact⟨zY (by omega),fin _⟩
   ·have Ix:((c.ar:Int)==(n:Int))=false:=bq (by omega);simp[nn,XP,AG,d45,ht,hlr,t23,ecr,hl,Jh,Ix];simp[zw,br4];exact⟨bad (by omega),fin _⟩
 ·have adT:H4 i name n=6:=by unfold H4;rw[hc]
  simp[zu,hx];simp[H9,br4];exact⟨⟨_,by rw[adT],rfl,rfl⟩,fin _⟩
end Ln
namespace Ln
open Go.Sx Go
def wB(X:Kn)(i:Nat)(cO:AV)(s:St):List AV:=[.sl X.rows 7 45 .any,fE i,I X.lf,I X.lb,cO,I s.k,I s.n,.str 0 0,aK s.kids]
theorem afR(i:Nat)(o:Op)(l:List Op):qA i (o ::l)=if H4 i o.name o.args.length=0 then qA i l else H4 i o.name o.args.length:=by
 show(match pQ i o.name with|none=>6|some c=>if o.args.length=c.ar then qA i l else 1)=_;unfold H4;cases pQ i o.name with
 |none=>rfl
 |some c=>
  simp only;by_cases h:o.args.length=c.ar
  ·rw[if_pos h,if_pos h,if_pos rfl]
  ·rw[if_neg h,if_neg h,if_neg (by decide)]
variable{C:bK}{X:Kn}(S:Std C X)
include S
def StL(X:Kn)(i:Nat)(os:List Op)(cO:AV)(bm bl n0:Key)(h:T ah)(m:Nat)(aw:T AV)(h':T ah)(nx':Key):Prop:=∃j:Nat,m=os.length-j∧j≤os.length∧ae (K 1) aw=some (fE i)∧ae (K 4) aw=some (.ptr bm 0)∧ae (K 7) aw=some (.ptr bl 0)∧ae (K 10) aw=some cO∧ae (K 14) aw=some (I j)∧
 ae bm h'=Vv [.sl X.rows 7 45 .any]∧ae bl h'=Vv [I X.lf,I X.lb]∧bm.toNat<nx'.toNat∧bl.toNat<nx'.toNat∧Ext h n0 h' nx'∧qA i os=qA i (os.drop j)
theorem ab9{i:Nat}(hi:i=2){os:List Op}(ho:os.length≤16){cO:AV}(hc:iB 10 eO cO os){bm bl n0:Key}{h:T ah}{Q:cH}{m:Nat}{tm:T AV}{h1:T ah}{bF:Key}(A:StL X i os cO bm bl n0 h m tm h1 bF)
  (DU:∀aw h' nx',ae (K 8) aw=some .nilp→ae (K 9) aw=some (I (qA i os))→qA i os≠0→Ext h n0 h' nx'→Q .ret aw h' nx')
  (fg:∀aw h' nx',StL X i os cO bm bl n0 h 0 aw h' nx'→qA i os=0→Q .norm aw h' nx') :
  W C (.loop xw) (aA 0 Q) tm h1 bF:=by
 have rF:=S.r pZ;refine W.cM (StL X i os cO bm bl n0 h) A ?_;rintro m dD h2 aU ⟨j,rfl,hj,g1,g4,g7,g10,g14,Rz,bl2,ltm,ltl,e2,qx⟩;refine W.of ?_;simp[xw];by_cases bG:j<os.length
 ·have sZ:(j:Int)<os.length:=by omega
  have BX:cO=.sl (ag eO os) os.length 10 .any:=by
   rcases hc with⟨_,rfl⟩|e
   ·simp at bG
   ·exact e
  have N0:=g10;rw[BX]at N0;have ec:=ez.at bG;have hr:=ez.rows os;have tx:10≤os.length*10-j*10:=by omega
  have s2:=kTSu aU;rw[zqt bG,afR]at qx;have hA:(aK os[j].args=.nils∧os[j].args.length=0)∨∃l,aK os[j].args=.sl l os[j].args.length 4 .any:=by
   cases os[j].args with
   |nil=>exact .inl ⟨rfl,rfl⟩
   |cons a t=>exact .inr ⟨_,rfl⟩
  generalize os[j]=o at *;simp[qt,N0,g14,sZ];have fin:∀(aW:T AV) (h3:T ah) (cF:Key),(∀k:Key,k=K 1∨k=K 4∨k=K 7∨k=K 10∨k=K 14→ae k aW=ae k dD)→ae (K 16) aW=some (I (H4 i o.name o.args.length))→Ext h2 aU h3 cF→
    lH C (aM (iH C (.cond (.t (K 59)) (.seq (.ops uv) .ret) .skip) (aA 1 (aM (iH C (.ops nN) (aM (fun tm h' nx'=>∃m,m<os.length-j∧StL X i os cO bm bl n0 h m tm h' nx') (aA 0 Q))) (aM (fun tm h' nx'=>∃m,m<os.length-j∧StL X i os cO bm bl n0 h m tm h' nx') (aA 0 Q))))) (aA 1 (aM (iH C (.ops nN) (aM (fun tm h' nx'=>∃m,m<os.length-j∧StL X i os cO bm bl n0 h m tm h' nx') (aA 0 Q))) (aM (fun tm h' nx'=>∃m,m<os.length-j∧StL X i os cO bm bl n0 h m tm h' nx') (aA 0 Q))))) nO aW h3 cF:=by
   intro aW h3 cF q q16 e3;have n3:=e3.n;by_cases NI:H4 i o.name o.args.length=0
   ·rw[if_pos NI]at qx;rw[NI]at q16;have q14:=(q (K 14) (by simp)).trans g14;simp[nO,q16];simp[nN,q14];rw[aC (by omega) (by omega)];refine⟨os.length-(j+1),by omega,j+1,rfl,by omega,?_,?_,?_,?_,by simp,by rw[e3.g bm ltm];exact Rz,by rw[e3.g bl ltl];exact bl2,by omega,by omega,?_,qx⟩
    ·simp;exact(q (K 1) (by simp)).trans g1
    ·simp;exact(q (K 4) (by simp)).trans g4
    ·simp;exact(q (K 7) (by simp)).trans g7
    ·simp;exact(q (K 10) (by simp)).trans g10
    ·exact e2.trans e3
   ·rw[if_neg NI]at qx;simp[nO,q16,bq NI];simp[uv,q16];refine DU _ _ _ ?_ ?_ (by rw[qx];exact NI) (e2.trans e3)
    ·simp
    ·simp[qx]
  have ext:∀(c:List AV) (h3:T ah) (cF:Key),Ext h2 aU.succ h3 cF→Ext h2 aU (av aU (Vv c) h3) cF:=fun c h3 cF e3=>⟨by have:=e3.n;omega,fun b hb=>by rw[az hb];exact e3.g b (by omega)⟩;rcases hA with⟨ea,hn⟩|⟨la,ea⟩
  ·have ff:=adQ S hi o.name 0 h2 aU.succ;simp[Kn.m]at ff;rw[hn]at fin;simp[xy,g1,g4,N0,g14,Rz,bG,hr,tx,ec,eO,ea,rF];refine ff.mono ?_;rintro out h3 cF ⟨⟨c,rfl,as8,Kb⟩,e3⟩;have hcd:List.drop 23 c=[]:=List.drop_eq_nil_of_le (by omega);simp[as8,Kb];refine fin _ _ _ ?_ ?_ (ext c h3 cF e3)
   ·rintro k (rfl|rfl|rfl|rfl|rfl)<;>simp
   ·simp
  ·have ff:=adQ S hi o.name o.args.length h2 aU.succ;simp[Kn.m]at ff;simp[xy,g1,g4,N0,g14,Rz,bG,hr,tx,ec,eO,ea,rF];refine ff.mono ?_;rintro out h3 cF ⟨⟨c,rfl,as8,Kb⟩,e3⟩;have hcd:List.drop 23 c=[]:=List.drop_eq_nil_of_le (by omega);simp[as8,Kb];refine fin _ _ _ ?_ ?_ (ext c h3 cF e3)
   ·rintro k (rfl|rfl|rfl|rfl|rfl)<;>simp
   ·simp
 ·have vK:j=os.length:=by omega
  subst vK;rw[List.drop_length]at qx;have fin:∀aW:T AV,ae (K 1) aW=ae (K 1) dD→ae (K 4) aW=ae (K 4) dD→ae (K 7) aW=ae (K 7) dD→ae (K 10) aW=ae (K 10) dD→ae (K 14) aW=ae (K 14) dD→Q .norm aW h2 aU:=fun aW a b c d e=>fg _ _ _ ⟨os.length,by omega,by omega,a.trans g1,b.trans g4,c.trans g7,d.trans g10,e.trans g14,Rz,bl2,ltm,ltl,e2,by rw[qx,List.drop_length]⟩ qx;rcases id hc with⟨e0,e1⟩|e0
  ·have N0:=g10;rw[e0]at N0;have:(os.length:Int)=0:=by rw[e1];rfl
   simp[qt,N0,g14,this];refine fin _ ?_ ?_ ?_ ?_ ?_<;>simp[N0,g14,this]
  ·have N0:=g10;rw[e0]at N0;simp[qt,N0,g14];refine fin _ ?_ ?_ ?_ ?_ ?_<;>simp[N0,g14]
theorem ahQ{i:Nat}(hi:i=2){ev:AV}{l:List Ev}(hv:iB 8 eE ev l)(hl:YY l){h:T ah}{nx:Key}:aH C mU [X.m,fE i,ev,X.lim] h nx (anx X (fun cO=>wB X i cO (bZ i)) i l h nx):=by
 have s1:=kTSu nx;have s2:=kTSu nx.succ;have rO:=S.r ta;have rD:=S.r qh;have rI:=S.r Cp;have hz:∀H,aN 9999 ev H=(ev,H):=fun H=>hv.vV _ _;have vW:(bO 0 l).length≤16:=by have:=vX l 0;have:=hl.len;omega
 refine S.H0.call ?_;simp[Fy];simp[FX,Kn.m,Kn.lim];have e2:=(E0 h nx (.cells [.sl X.rows 7 45 .any] .fix)).trans (E0 _ nx.succ (.cells [I X.lf,I X.lb] .fix));have Rz:ae nx (av nx.succ (Vv [I X.lf,I X.lb]) (av nx (Vv [.sl X.rows 7 45 .any]) h))=Vv [.sl X.rows 7 45 .any]:=by rw[az (by omega)];simp
 have bl2:ae nx.succ (av nx.succ (Vv [I X.lf,I X.lb]) (av nx (Vv [.sl X.rows 7 45 .any]) h))=Vv [I X.lf,I X.lb]:=by simp
 generalize av nx.succ (Vv [I X.lf,I X.lb]) (av nx (Vv [.sl X.rows 7 45 .any]) h)=h2 at *;simp[FY,rO,hz];refine(alJ S hv hl _ _).mono ?_;rintro o h3 cF ⟨⟨cO,rfl,hc⟩,e3⟩;have NK:=e2.trans e3;have bm3:ae nx h3=Vv [.sl X.rows 7 45 .any]:=by rw[e3.g nx (by omega)];exact Rz
 have bl3:ae nx.succ h3=Vv [I X.lf,I X.lb]:=by rw[e3.g nx.succ (by omega)];exact bl2
 have n3:=e3.n;simp;by_cases SQ:bI [] l=0
 ·rw[if_pos SQ]at hc;have Re:mj X i l=if qA i (bO 0 l)=0 then X.TZ else qA i (bO 0 l):=by unfold mj;rw[if_pos SQ]
  simp[xz,SQ,jn];have d45:=S.ok.W7 i hi;have dC:(X.dec i).all AV.aP=true:=vJ.2 (S.ok.ams i hi);simp[FZ,bm3,rD];refine aH.known (S.s_ref09_Decl i hi _ _) ?_;have s3:=kTSu cF;simp[d45,dC];have dt:List.drop 45 (X.dec i)=[]:=List.drop_eq_nil_of_le (by omega);have e4:=E0 h3 cF (.cells (X.dec i) .fix);have bm4:ae nx (av cF (Vv (X.dec i)) h3)=Vv [.sl X.rows 7 45 .any]:=by rw[e4.g nx (by omega)];exact bm3
  have bl4:ae nx.succ (av cF (Vv (X.dec i)) h3)=Vv [I X.lf,I X.lb]:=by rw[e4.g nx.succ (by omega)];exact bl3
  have UA:=NK.trans e4;generalize av cF (Vv (X.dec i)) h3=h4 at *;have Kb:cO.aP=true∧cO.cells=[cO]:=hc.cell;have hcz:∀n H,aN n cO H=(cO,H):=fun n H=>hc.vV n H;simp[Ga];simp[Gb];refine ab9 S hi vW hc (h:=h) (n0:=nx) (bm:=nx) (bl:=nx.succ) (m:=(bO 0 l).length) ⟨0,by simp,by omega,by simp,by simp,by simp,by simp,by simp,bm4,bl4,by omega,by omega,UA,rfl⟩ ?_ ?_
  ·intro aw h' nx' a8 a9 bU e';simp[a8,a9];exact⟨e',.inl ⟨by rw[Re,if_neg bU];exact bU,by rw[Re,if_neg bU]⟩⟩
  ·rintro aw h' nx' ⟨j,_,_,a1,a4,a7,a10,a14,bm',bl',ltm,ltl,e',_⟩ Ix;simp;simp[DG,a1,a4,a7,bm',bl',rI];refine aH.known (S.s_InitR i hi _ _) ?_;obtain⟨k,n,Jg⟩:=Qy i;have es:eS (bZ i)=[I k,I n,.str 0 0,.nils]:=by rw[Jg];rfl
   have s6:=kTSu nx';have s7:=kTSu nx'.succ;simp[es];have bm6:ae nx (av nx' (Vv [I k,I n,.str 0 0,.nils]) h')=Vv [.sl X.rows 7 45 .any]:=by rw[az ltm];exact bm'
   have bl6:ae nx.succ (av nx' (Vv [I k,I n,.str 0 0,.nils]) h')=Vv [I X.lf,I X.lb]:=by rw[az ltl];exact bl'
   have ex:Ext h nx (av nx' (Vv [I k,I n,.str 0 0,.nils]) h') nx'.succ:=⟨by have:=e'.n;omega,fun b hb=>by rw[az (by have:=e'.n;omega)];exact e'.g b hb⟩;by_cases BF:X.TZ=0
   ·simp[uw,BF];simp[DH,a1,a4,a7,a10,bm6,bl6,Kb.1,Kb.2,hcz];refine⟨?_,.inr ⟨by rw[Re,if_pos Ix];exact BF,nx'.succ,cO,rfl,?_,hc,by have:=e'.n;omega,by omega⟩⟩
    ·exact⟨by have:=e'.n;omega,fun b hb=>by rw[az (by have:=e'.n;omega),az (by have:=e'.n;omega)];exact e'.g b hb⟩
    ·simp[wB,Jg,aK]
   ·simp[uw,bq BF];simp[DI];exact⟨ex,.inl ⟨by rw[Re,if_pos Ix];exact BF,by rw[Re,if_pos Ix]⟩⟩
 ·have bU:jn (bI [] l)≠0:=by unfold jn;split<;>first|exact absurd ‹_› SQ|decide
  have Re:mj X i l=jn (bI [] l):=by unfold mj;rw[if_neg SQ]
  simp[xz,bq bU];simp[Gc];exact⟨NK,.inl ⟨by rw[Re];exact bU,by rw[Re]⟩⟩
end Ln
namespace Ln
open Go.Sx Go
theorem aCQ(u:U)(H:T ah):bC (aN 9998) (eU u) H=(eU u,H):=cn (wA.vV u)
theorem aCR(s:St):∀y∈eS s,OQ y:=by
 intro y hy;simp[eS]at hy;rcases hy with rfl|rfl|rfl|rfl
 ·exact dz _ _
 ·exact dz _ _
 ·exact x9 _ _
 ·exact dn _
theorem y8(s:St)(H:T ah):bC (aN 9998) (eS s) H=(eS s,H):=cn (aCR s)
theorem uU(s:St):(eS s).all AV.aP=true:=by simp[eS,(bA s.kids).1]
theorem lenS(s:St):(eS s).length=4:=rfl
theorem td(s:St):List.take 4 (eS s)=eS s:=rfl
theorem PB(s:St):List.drop 4 (eS s)=[]:=rfl
def aeZ(X:Kn)(c:nB)(o:Op)(s:St)(out:Out):Prop:=∃u:St,out=.ret (.tuple [.agg (eS u),.bool (X.take c o s).isSome])∧∀t,X.take c o s=some t→u=t
structure Z5(mi:Nat)(os:List Op)(x:Nat)(o:Op)(c:nB):Prop where
 get:os[x]?=some o
 name:o.name=c.name
 ar:o.args.length=c.ar
 x8:c.x8=mi
 on:onC c o
variable{C:bK}{X:Kn}(S:Std C X)
include S
theorem aiq{mi:Nat}{os:List Op}{cO:AV}(hc:iB 10 eO cO os){x:Nat}{o:Op}{c:nB}(hx:Z5 mi os x o c){s s0:St}(hs:gV mi s){e:Nat}{h:T ah}{nx bj:Key}(hb:ae bj h=Vv (jB X mi cO s0 e))(By:bj.toNat<nx.toNat) :
  aH C eH [.ptr bj 0,I x,.agg (eS s)] h nx (fun out h' nx'=>aeZ X c o s out∧Ext h nx h' nx'):=by
 obtain⟨hxo,hn,har,rfl,hon⟩:=hx;obtain⟨ZO,hox⟩:=List.getElem?_eq_some_iff.1 hxo;have s1:=kTSu nx;have s2:=kTSu nx.succ;have s3:=kTSu nx.succ.succ;have rC:=S.r Fj;have rH:=S.r HQ;have rN:=S.r B0;have BX:cO=.sl (ag eO os) os.length 10 .any:=by
  rcases hc with⟨_,rfl⟩|e
  ·simp at ZO
  ·exact e
 subst BX;have ec:=ez.at ZO;have hr:=ez.rows os;have tx:10≤os.length*10-x*10:=by omega
 have RA:(eO os[x]).all AV.aP=true:=vJ.2 (ez.cell _);rw[hox]at ec RA;have scC:=S.s_CanP c s o hon hs;have scN:=S.s_NextP c s o hon hs;have J3:X.take c o s=if X.OM c s o.args≠0∨X.OL c s o.args=false then none
  else if 0≤o.e∧(X.EF c s o.args o.res≠0∨X.EE c s o.args o.res=false)then none
  else if X.we c s o.args o.res≠0 then none else some (X.qB c s o.args o.res):=rfl
 refine S.qF.call ?_;simp[mI];simp[pL,uU,lenS];have e2:=(E0 h nx (.cells (eS s) .fix)).trans (E0 _ nx.succ (.cells [I 0,I 0,.str 0 0,.nils] .fix));have bs2:ae nx (av nx.succ (Vv [I 0,I 0,.str 0 0,.nils]) (av nx (Vv (eS s)) h))=Vv (eS s):=by rw[az (by omega)];simp
 have b62:ae nx.succ (av nx.succ (Vv [I 0,I 0,.str 0 0,.nils]) (av nx (Vv (eS s)) h))=Vv [I 0,I 0,.str 0 0,.nils]:=by simp
 have Tm:ae bj (av nx.succ (Vv [I 0,I 0,.str 0 0,.nils]) (av nx (Vv (eS s)) h))=Vv (jB X c.x8 (.sl (ag eO os) os.length 10 .any) s0 e):=by rw[e2.g bj By];exact hb
 generalize av nx.succ (Vv [I 0,I 0,.str 0 0,.nils]) (av nx (Vv (eS s)) h)=h2 at *;simp[pM,Tm,jB,ZO,hr,tx,ec,MI,UC,RA];have e3:=E0 h2 nx.succ.succ (.cells (eO o) .fix);have bo3:ae nx.succ.succ (av nx.succ.succ (Vv (eO o)) h2)=Vv (eO o):=by simp
 have bs3:ae nx (av nx.succ.succ (Vv (eO o)) h2)=Vv (eS s):=by rw[e3.g nx (by omega)];exact bs2
 have b63:ae nx.succ (av nx.succ.succ (Vv (eO o)) h2)=Vv [I 0,I 0,.str 0 0,.nils]:=by rw[e3.g nx.succ (by omega)];exact b62
 have Ps:ae bj (av nx.succ.succ (Vv (eO o)) h2)=Vv (jB X c.x8 (.sl (ag eO os) os.length 10 .any) s0 e):=by rw[e3.g bj (by omega)];exact Tm
 have NK:=e2.trans e3;generalize av nx.succ.succ (Vv (eO o)) h2=h3 at *;have af:∀n H,aN n (aK o.args) H=(aK o.args,H):=dn _;have done:∀(c6:List AV),Ext h nx (av nx.succ (Vv c6) h3) nx.succ.succ.succ:=fun c6=>NK.put (by omega);simp[pN,Ps,jB,bo3,bs3,eO,hn,rC,td,lenS,y8,af];refine aH.known (scC _ _) ?_;simp;have Kf:X.take c o s=none→aeZ X c o s (.ret (.tuple [.agg [I 0,I 0,.str 0 0,.nils],.bool false])):=fun e=>⟨⟨0,0,[]⟩,by rw[e];rfl,by rw[e];simp⟩;by_cases h1:X.OM c s o.args=0
 ·cases h2:X.OL c s o.args with
  |false=>
   have ht:X.take c o s=none:=by rw[J3,if_pos (.inr h2)]
   simp[fK,h1];simp[jy,b63];exact⟨Kf ht,done _⟩
  |true=>
   have PR:X.take c o s=if 0≤o.e∧(X.EF c s o.args o.res≠0∨X.EE c s o.args o.res=false)then none else if X.we c s o.args o.res≠0 then none else some (X.qB c s o.args o.res):=by rw[J3,if_neg];rw[h1,h2];simp
   have s4:=kTSu nx.succ.succ.succ;simp[fK,h1];have last:∀aW:T AV,ae (K 0) aW=some (.ptr bj 0)→ae (K 5) aW=some (.ptr nx 0)→ae (K 6) aW=some (.ptr nx.succ 0)→ae (K 8) aW=some (.ptr nx.succ.succ 0)→(X.take c o s=if X.we c s o.args o.res≠0 then none else some (X.qB c s o.args o.res))→
     iH C (.seq (.staged jz ⟨[K 83,K 84,K 85,K 86,K 87,K 88,K 89,K 90,K 91,K 92,K 93,K 94,K 95,K 96,K 97,K 98,K 99,K 100,K 101,K 102,K 82,K 103,K 104,K 13,K 10],[]⟩) (.seq (.ops iT) .ret)) (dF [.cell (K 6) true 4,.tmp (K 7)] fun out h' nx'=>aeZ X c o s out∧Ext h nx h' nx') aW h3 nx.succ.succ.succ:=by
    intro aW q0 q5 q6 q8 ht;simp;simp[jz,q0,q5,q8,Ps,jB,bo3,bs3,eO,hn,rN,td,lenS,y8,af];refine aH.known (scN _ _) ?_;simp[uU,lenS,PB];have b64:ae nx.succ (av nx.succ.succ.succ (Vv (eS (X.qB c s o.args o.res))) h3)=Vv [I 0,I 0,.str 0 0,.nils]:=by rw[az (by omega)];exact b63
    simp[iT,q6,b64,uU,lenS,td,y8];refine⟨⟨X.qB c s o.args o.res,?_,?_⟩,?_⟩
    ·rw[ht];by_cases he:X.we c s o.args o.res=0
     ·rw[if_neg (by simpa using he),bt he];rfl
     ·rw[if_pos he,bq he];rfl
    ·intro t hts;rw[ht]at hts;split at hts
     ·cases hts
     ·exact Option.some.inj hts
    ·exact⟨by have:=NK.n;omega,fun b hb=>by rw[az (by omega),az (by omega)];exact NK.g b hb⟩
   simp only[fH,rj]at last;by_cases he:o.e<0
   ·rw[if_neg (by omega)]at PR;simp[pO,bo3,eO,he];refine last _ ?_ ?_ ?_ ?_ PR<;>simp
   ·exact absurd hon.2.2 (by omega)
 ·have ht:X.take c o s=none:=by rw[J3,if_pos (.inl h1)]
  simp[fK,bq h1];simp[jy,b63];exact⟨Kf ht,done _⟩
end Ln
namespace Ln
open Go.Sx Go
variable{C:bK}{X:Kn}(S:Std C X)
include S
theorem ac8{mi:Nat}{os:List Op}{cO:AV}(hc:iB 10 eO cO os){x:Nat}{o:Op}{c:nB}(hx:Z5 mi os x o c){s s0:St}(hs:gV mi s){h:T ah}{nx bj:Key}(hb:ae bj h=Vv (wB X mi cO s0))(By:bj.toNat<nx.toNat) :
  aH C gk [.ptr bj 0,I x,.agg (eS s)] h nx (fun out h' nx'=>aeZ X c o s out∧Ext h nx h' nx'):=by
 obtain⟨hxo,hn,har,rfl,hon⟩:=hx;obtain⟨ZO,hox⟩:=List.getElem?_eq_some_iff.1 hxo;have s1:=kTSu nx;have s2:=kTSu nx.succ;have s3:=kTSu nx.succ.succ;have rC:=S.r Fv;have rH:=S.r HS;have rN:=S.r Ca;have BX:cO=.sl (ag eO os) os.length 10 .any:=by
  rcases hc with⟨_,rfl⟩|e
  ·simp at ZO
  ·exact e
 subst BX;have ec:=ez.at ZO;have hr:=ez.rows os;have tx:10≤os.length*10-x*10:=by omega
 have RA:(eO os[x]).all AV.aP=true:=vJ.2 (ez.cell _);rw[hox]at ec RA;have scC:=S.s_CanR c s o hon hs;have scN:=S.s_NextR c s o hon hs;have J3:X.take c o s=if X.OM c s o.args≠0∨X.OL c s o.args=false then none
  else if 0≤o.e∧(X.EF c s o.args o.res≠0∨X.EE c s o.args o.res=false)then none
  else if X.we c s o.args o.res≠0 then none else some (X.qB c s o.args o.res):=rfl
 refine S.Fw.call ?_;simp[Cb];simp[C6,uU,lenS];have e2:=(E0 h nx (.cells (eS s) .fix)).trans (E0 _ nx.succ (.cells [I 0,I 0,.str 0 0,.nils] .fix));have bs2:ae nx (av nx.succ (Vv [I 0,I 0,.str 0 0,.nils]) (av nx (Vv (eS s)) h))=Vv (eS s):=by rw[az (by omega)];simp
 have b62:ae nx.succ (av nx.succ (Vv [I 0,I 0,.str 0 0,.nils]) (av nx (Vv (eS s)) h))=Vv [I 0,I 0,.str 0 0,.nils]:=by simp
 have Tm:ae bj (av nx.succ (Vv [I 0,I 0,.str 0 0,.nils]) (av nx (Vv (eS s)) h))=Vv (wB X c.x8 (.sl (ag eO os) os.length 10 .any) s0):=by rw[e2.g bj By];exact hb
 generalize av nx.succ (Vv [I 0,I 0,.str 0 0,.nils]) (av nx (Vv (eS s)) h)=h2 at *;simp[C7,Tm,wB,ZO,hr,tx,ec,MI,UC,RA];have e3:=E0 h2 nx.succ.succ (.cells (eO o) .fix);have bo3:ae nx.succ.succ (av nx.succ.succ (Vv (eO o)) h2)=Vv (eO o):=by simp
 have bs3:ae nx (av nx.succ.succ (Vv (eO o)) h2)=Vv (eS s):=by rw[e3.g nx (by omega)];exact bs2
 have b63:ae nx.succ (av nx.succ.succ (Vv (eO o)) h2)=Vv [I 0,I 0,.str 0 0,.nils]:=by rw[e3.g nx.succ (by omega)];exact b62
 have Ps:ae bj (av nx.succ.succ (Vv (eO o)) h2)=Vv (wB X c.x8 (.sl (ag eO os) os.length 10 .any) s0):=by rw[e3.g bj (by omega)];exact Tm
 have NK:=e2.trans e3;generalize av nx.succ.succ (Vv (eO o)) h2=h3 at *;have af:∀n H,aN n (aK o.args) H=(aK o.args,H):=dn _;have done:∀(c6:List AV),Ext h nx (av nx.succ (Vv c6) h3) nx.succ.succ.succ:=fun c6=>NK.put (by omega);simp[C8,Ps,wB,bo3,bs3,eO,hn,rC,td,lenS,y8,af];refine aH.known (scC _ _) ?_;simp;have Kf:X.take c o s=none→aeZ X c o s (.ret (.tuple [.agg [I 0,I 0,.str 0 0,.nils],.bool false])):=fun e=>⟨⟨0,0,[]⟩,by rw[e];rfl,by rw[e];simp⟩;by_cases h1:X.OM c s o.args=0
 ·cases h2:X.OL c s o.args with
  |false=>
   have ht:X.take c o s=none:=by rw[J3,if_pos (.inr h2)]
   simp[nJ,h1];simp[tW,b63];exact⟨Kf ht,done _⟩
  |true=>
   have PR:X.take c o s=if 0≤o.e∧(X.EF c s o.args o.res≠0∨X.EE c s o.args o.res=false)then none else if X.we c s o.args o.res≠0 then none else some (X.qB c s o.args o.res):=by rw[J3,if_neg];rw[h1,h2];simp
   have s4:=kTSu nx.succ.succ.succ;simp[nJ,h1];have last:∀aW:T AV,ae (K 0) aW=some (.ptr bj 0)→ae (K 5) aW=some (.ptr nx 0)→ae (K 6) aW=some (.ptr nx.succ 0)→ae (K 8) aW=some (.ptr nx.succ.succ 0)→(X.take c o s=if X.we c s o.args o.res≠0 then none else some (X.qB c s o.args o.res))→
     iH C (.seq (.staged tX ⟨[K 84,K 85,K 86,K 87,K 88,K 89,K 90,K 91,K 92,K 93,K 94,K 95,K 96,K 97,K 98,K 99,K 100,K 101,K 102,K 103,K 83,K 104,K 105,K 13,K 14],[]⟩) (.seq (.ops si) .ret)) (dF [.cell (K 6) true 4,.tmp (K 7)] fun out h' nx'=>aeZ X c o s out∧Ext h nx h' nx') aW h3 nx.succ.succ.succ:=by
    intro aW q0 q5 q6 q8 ht;simp;simp[tX,q0,q5,q8,Ps,wB,bo3,bs3,eO,hn,rN,td,lenS,y8,af];refine aH.known (scN _ _) ?_;simp[uU,lenS,PB];have b64:ae nx.succ (av nx.succ.succ.succ (Vv (eS (X.qB c s o.args o.res))) h3)=Vv [I 0,I 0,.str 0 0,.nils]:=by rw[az (by omega)];exact b63
    simp[si,q6,b64,uU,lenS,td,y8];refine⟨⟨X.qB c s o.args o.res,?_,?_⟩,?_⟩
    ·rw[ht];by_cases he:X.we c s o.args o.res=0
     ·rw[if_neg (by simpa using he),bt he];rfl
     ·rw[if_pos he,bq he];rfl
    ·intro t hts;rw[ht]at hts;split at hts
     ·cases hts
     ·exact Option.some.inj hts
    ·exact⟨by have:=NK.n;omega,fun b hb=>by rw[az (by omega),az (by omega)];exact NK.g b hb⟩
   simp only[fH,rj]at last;by_cases he:o.e<0
   ·rw[if_neg (by omega)]at PR;simp[C9,bo3,eO,he];refine last _ ?_ ?_ ?_ ?_ PR<;>simp
   ·exact absurd hon.2.2 (by omega)
 ·have ht:X.take c o s=none:=by rw[J3,if_pos (.inl h1)]
  simp[nJ,bq h1];simp[tW,b63];exact⟨Kf ht,done _⟩
end Ln
namespace Ln
open Go.Sx Go
def cm(i:Nat)(o:Op):nB:=(pQ i o.name).getD default
def Kn.run(X:Kn)(i:Nat)(os:List Op):List Int→St→Bool
 | [],_=>true
 |x ::l,s=>match X.take (cm i (at_ os x)) (at_ os x) s with
  |none=>false
  |some t=>X.run i os l t
theorem TC:∀(l:List Ev) (o:Op) (i:Nat),(∀x∈l,x.kind≠1)→(follow o i l).e=o.e∧(follow o i l).name=o.name∧(follow o i l).args=o.args
 | [],o,i,_=>⟨rfl,rfl,rfl⟩
 |x ::l,o,i,h=>by
  have h1:=h x (by simp);obtain⟨a,b,c⟩:=TC l (lF i x o) (i+1) fun y hy=>h y (by simp[hy]);have hu:(lF i x o).e=o.e∧(lF i x o).name=o.name∧(lF i x o).args=o.args:=by
   unfold lF;split
   ·split
    ·exact⟨rfl,rfl,rfl⟩
    ·rw[if_neg fun e=>h1 e.1];exact⟨rfl,rfl,rfl⟩
   ·exact⟨rfl,rfl,rfl⟩
  exact⟨a.trans hu.1,b.trans hu.2.1,c.trans hu.2.2⟩
theorem aka:∀(l:List Ev) (i:Nat),(∀x∈l,x.kind≠1∧x.args=[]∧(x.kind=0→x.name=(4,1684104562)))→∀o∈bO i l,onC (cm 2 o) o
 | [],i,_,o,ho=>by simp[bO]at ho
 |x ::l,i,h,o,ho=>by
  have hx:=h x (by simp);rcases List.mem_append.1 ho with ho|ho
  ·split at ho
   ·rename_i hk;simp at ho;obtain⟨a,b,c⟩:=TC l (za i x) (i+1) fun y hy=>(h y (by simp[hy])).1;rw[←ho]at a b c;have hn:o.name=(4,1684104562):=b.trans (hx.2.2 hk);refine⟨?_,c.trans hx.2.1,a⟩;unfold cm;rw[hn];rfl
   ·simp at ho
  ·exact aka l (i+1) (fun y hy=>h y (by simp[hy])) o ho
def EK(i:Nat)(os:List Op):Prop:=qA i os=0∧∀o∈os,onC (cm i o) o
theorem MG{X:Kn}{i:Nat}(hi:i=2){l:List Ev}(hl:YY l)(h:mj X i l=0):bI [] l=0∧EK i (bO 0 l):=by
 subst hi;unfold mj at h;by_cases hv:bI [] l=0
 ·rw[if_pos hv]at h;by_cases hb:qA 2 (bO 0 l)=0
  ·exact⟨hv,hb,aka l 0 hl.rd⟩
  ·rw[if_neg hb]at h;exact absurd h hb
 ·rw[if_neg hv]at h;exfalso;unfold jn at h;split at h
  ·exact hv ‹_›
  ·exact absurd h (by decide)
  ·exact absurd h (by decide)
  ·exact absurd h (by decide)
theorem Oo{i:Nat}(hi:i=2){os:List Op}(hb:EK i os){x:Nat}{o:Op}(h:os[x]?=some o):Z5 i os x o (cm i o):=by
 obtain⟨c,h1,h2⟩:=ad8 hb.1 o (List.mem_of_getElem? h);have e:cm i o=c:=by unfold cm;rw[h1];rfl
 rw[e];have hon:=hb.2 o (List.mem_of_getElem? h);rw[e]at hon;exact⟨h,(PW h1).1.symm,h2,ae1 hi h1,hon⟩
theorem Uz{i:Nat}(hi:i=2):gV i (bZ i):=by subst hi;unfold gV bZ zA;split<;>simp
variable{C:bK}{X:Kn}(S:Std C X)
include S
end Ln
namespace Ln
open Go.Sx Go
variable{C:bK}{X:Kn}(S:Std C X)
include S
end Ln
namespace Ln
open Go.Sx Go
variable{C:bK}{X:Kn}(S:Std C X)
include S
end Ln
namespace Ln
section
variable{σ:Type}
abbrev Cf(σ:Type):=Nat×σ
structure Sys(σ:Type) where
 n:Nat
 GJ:Nat→Nat→Bool
 take:Nat→σ→Option σ
 acc:Nat→Bool
def Sys.step(S:Sys σ)(c:Cf σ)(i:Nat):Option (Nat×Cf σ):=if S.GJ i c.1=true then(S.take i c.2).map fun s=>(i,(c.1+2^i,s))else none
def Sys.steps(S:Sys σ)(c:Cf σ):List (Nat×Cf σ):=(List.range S.n).filterMap (S.step c)
def Sys.Ok(S:Sys σ):Prop:=∀i d,S.GJ i d=true→d.testBit i=false
inductive Good(S:Sys σ):Cf σ→Prop
 |now {c:Cf σ} (h:S.acc c.1=true):Good S c
 |step {c c':Cf σ} {i:Nat} (h:(i,c')∈S.steps c) (g:Good S c'):Good S c
inductive Path(S:Sys σ):Cf σ→List Nat→Prop
 |now {c:Cf σ} (h:S.acc c.1=true):Path S c []
 |step {c c':Cf σ} {i:Nat} {p:List Nat} {a b:List (Nat×Cf σ)} (h:S.acc c.1=false) (e:S.steps c=a++(i,c') ::b) (no:∀x∈a,¬Good S x.2) (g:Path S c' p):Path S c (i ::p)
theorem Path.zY{S:Sys σ}{c:Cf σ}{p:List Nat}(h:Path S c p):Good S c:=by
 induction h with
 |now h=>exact .now h
 | @step c c' i p a b h e no g ih=>exact .step (i:=i) (by rw[e];simp) ih
theorem Path.uniq{S:Sys σ}{c:Cf σ}{p:List Nat}(h:Path S c p):∀{q:List Nat},Path S c q→p=q:=by
 induction h with
 |now h=>
  intro q hq;cases hq with
  |now _=>rfl
  |step h'=>rw[h]at h';cases h'
 | @step c c' i p a b h e no g ih=>
  intro q hq;cases hq with
  |now h'=>rw[h]at h';cases h'
  | @step _ c2 i2 p2 a2 b2 h' e' no' g'=>
   have key:∀(a a2:List (Nat×Cf σ)),a++(i,c') ::b=a2++(i2,c2) ::b2→(∀x∈a,¬Good S x.2)→(∀x∈a2,¬Good S x.2)→(i,c')=(i2,c2):=by
    intro a
    induction a with
    |nil=>
     intro a2 e3 n1 n2;cases a2 with
     |nil=>simp only[List.nil_append,List.cons.injEq]at e3;exact e3.1
     |cons y t=>simp only[List.nil_append,List.cons_append,List.cons.injEq]at e3;exact absurd g.zY (by have:=n2 y (by simp);rw[←e3.1]at this;exact this)
    |cons x t iht=>
     intro a2 e3 n1 n2;cases a2 with
     |nil=>simp only[List.nil_append,List.cons_append,List.cons.injEq]at e3;exact absurd g'.zY (by have:=n1 x (by simp);rw[e3.1]at this;exact this)
     |cons y s=>simp only[List.cons_append,List.cons.injEq]at e3;exact iht s e3.2 (fun x hx=>n1 x (by simp[hx])) (fun x hx=>n2 x (by simp[hx]))
   have:=key a a2 (e.symm.trans e') no no';cases this;rw[ih g']
theorem Lj{S:Sys σ}{c c':Cf σ}{i:Nat}(h:(i,c')∈S.steps c):i<S.n∧S.GJ i c.1=true∧c'.1=c.1+2^i∧S.take i c.2=some c'.2:=by
 unfold Sys.steps at h;rw[List.mem_filterMap]at h;obtain⟨j,hj,e⟩:=h;unfold Sys.step at e;split at e
 ·rename_i ho;cases ht:S.take j c.2 with
  |none=>rw[ht]at e;cases e
  |some s=>rw[ht]at e;simp only[Option.map_some,Option.some.injEq,Prod.mk.injEq]at e;obtain⟨rfl,rfl⟩:=e;exact⟨List.mem_range.1 hj,ho,rfl,ht⟩
 ·cases e
theorem Zy:∀(i d:Nat),d.testBit i=false→d ||| 2^i=d+2^i
 |0,d,h=>by
  have h1:(d ||| 2^0) / 2=d / 2:=by rw[Nat.or_div_two];simp
  have h2:(d ||| 2^0)%2=1:=by
   have:(d ||| 2^0)%2^1=d%2^1 ||| 2^0%2^1:=Nat.or_mod_two_pow;have hd:d%2=0:=by rw[Nat.testBit_zero]at h;simp at h;omega
   rw[show(2:Nat)^1=2 from rfl,hd]at this;exact this
  have hd:d%2=0:=by rw[Nat.testBit_zero]at h;simp at h;omega
  generalize d ||| 2^0=x at h1 h2 ⊢;rw[Nat.pow_zero];omega
 |i+1,d,h=>by
  have h1:(d ||| 2^(i+1)) / 2=d / 2 ||| 2^i:=by rw[Nat.or_div_two,Nat.pow_succ,Nat.mul_div_cancel _ (by omega)]
  have h2:(d ||| 2^(i+1))%2=d%2:=by
   have:(d ||| 2^(i+1))%2^1=d%2^1 ||| 2^(i+1)%2^1:=Nat.or_mod_two_pow;have e:2^(i+1)%2=0:=by rw[Nat.pow_succ];omega
   simpa[e]using this
  have:=Zy i (d / 2) (by rw[←Nat.testBit_succ];exact h);rw[this]at h1;generalize d ||| 2^(i+1)=x at h1 h2 ⊢;rw[Nat.pow_succ];omega
theorem ahd{d n i:Nat}(hd:d<2^n)(hi:i<n)(hb:d.testBit i=false):d+2^i<2^n∧d ||| 2^i=d+2^i:=by have e:=Zy i d hb;refine⟨?_,e⟩;rw[←e];exact Nat.or_lt_two_pow hd (Nat.pow_lt_pow_right (by omega) hi)
theorem ahe{S:Sys σ}(hS:S.Ok){c c':Cf σ}{i:Nat}(h:(i,c')∈S.steps c)(hc:c.1<2^S.n):c'.1<2^S.n∧2^S.n-c'.1<2^S.n-c.1∧c.1<c'.1:=by obtain⟨h1,h2,h3,h4⟩:=Lj h;have:=ahd hc h1 (hS _ _ h2);have:0<2^i:=Nat.two_pow_pos i;omega
variable[DecidableEq σ]
def dp(l:List (Cf σ))(c:Cf σ):List (Cf σ):=if c∈l then l else l ++ [c]
def dJ:List (Cf σ)→List (Cf σ)→Option (List (Cf σ))
 |l,[]=>some l
 |l,c ::r=>if (dp l c).length>1024 then none else dJ (dp l c) r
def On(S:Sys σ):Nat→Nat→List (Cf σ)→Option (List (Cf σ))
 |0,_,l=>some l
 |f+1,i,l=>match l[i]? with
  |none=>some l
  |some c=>match dJ l ((S.steps c).map (·.2))with
   |none=>none
   |some l'=>On S f (i+1) l'
theorem ahf(l:List (Cf σ))(c:Cf σ):∃r,dp l c=l++r:=by
 unfold dp;split
 ·exact⟨[],by simp⟩
 ·exact⟨[c],rfl⟩
theorem ahg(l:List (Cf σ))(c:Cf σ):c∈dp l c:=by unfold dp;split<;>simp_all
theorem OT{l:List (Cf σ)}(h:l.Nodup)(c:Cf σ):(dp l c).Nodup:=by
 unfold dp;split
 ·exact h
 ·rename_i hc;rw[List.nodup_append];refine⟨h,by simp,?_⟩;intro a ha b hb;simp at hb;rintro rfl;subst hb;exact hc ha
theorem V8{p:Cf σ→Prop}{l:List (Cf σ)}{c:Cf σ}(h:∀x∈l,p x)(hc:p c):∀x∈dp l c,p x:=by
 unfold dp;split
 ·exact h
 ·intro x hx;rcases List.mem_append.1 hx with hx|hx
  ·exact h x hx
  ·simp at hx;rw[hx];exact hc
theorem oh:∀{r l l':List (Cf σ)},dJ l r=some l'→(∃t,l'=l++t)∧(∀c∈r,c∈l')∧(l.Nodup→l'.Nodup)∧(l.length≤1024→l'.length≤1024)∧(∀x∈l',x∈l∨x∈r)
 | [],l,l',h=>by unfold dJ at h;cases h;exact⟨⟨[],by simp⟩,by simp,id,id,fun x hx=>.inl hx⟩
 |c ::r,l,l',h=>by
  unfold dJ at h;split at h
  ·cases h
  ·rename_i hl;obtain⟨⟨t,e⟩,h2,h3,h4,h5⟩:=oh h;obtain⟨u,e2⟩:=ahf l c;refine⟨⟨u++t,by rw[e,e2];simp⟩,?_,fun hn=>h3 (OT hn c),fun _=>h4 (by omega),?_⟩
   ·intro x hx;rcases List.mem_cons.1 hx with rfl|hx
    ·rw[e];exact List.mem_append_left _ (ahg _ _)
    ·exact h2 x hx
   ·intro x hx;rcases h5 x hx with hx|hx
    ·unfold dp at hx;split at hx
     ·exact .inl hx
     ·rcases List.mem_append.1 hx with hx|hx
      ·exact .inl hx
      ·simp at hx;subst hx;exact .inr (by simp)
    ·exact .inr (by simp[hx])
def pop:Nat→Nat→Nat
 |0,_=>0
 |n+1,d=>pop n d+(if d.testBit n then 1 else 0)
theorem ahh(d i:Nat)(hb:d.testBit i=false):∀n:Nat,pop n (d ||| 2^i)=pop n d+(if i<n then 1 else 0)
 |0=>by simp[pop]
 |n+1=>by
  unfold pop;rw[ahh d i hb n,Nat.testBit_or,Nat.testBit_two_pow];by_cases h:i=n
  ·subst h;rw[hb];simp
  ·by_cases h2:i<n
   ·simp[h,h2,show i<n+1 by omega];omega
   ·simp[h,h2,show ¬i<n+1 by omega]
structure Kept(S:Sys σ)(i:Nat)(l:List (Cf σ)):Prop where
 nodup:l.Nodup
 len:l.length≤1024
 lt:∀c∈l,c.1<2^S.n
 mono:l.Pairwise fun a b=>pop S.n a.1≤pop S.n b.1
 azL:∀c,l[i]?=some c→∀x∈l,pop S.n x.1≤pop S.n c.1+1
 done:∀(j:Nat) (c:Cf σ),j<i→l[j]?=some c→∀x∈S.steps c,x.2∈l
theorem OU{S:Sys σ}(hS:S.Ok){c c':Cf σ}{i:Nat}(h:(i,c')∈S.steps c)(hc:c.1<2^S.n):pop S.n c'.1=pop S.n c.1+1:=by obtain⟨h1,h2,h3,h4⟩:=Lj h;have hb:=hS _ _ h2;rw[h3,←(ahd hc h1 hb).2,ahh _ _ hb,if_pos h1]
theorem aeu{S:Sys σ}{l:List (Cf σ)}{c:Cf σ}{k:Nat}(hk:pop S.n c.1=k+1)(hle:∀x∈l,pop S.n x.1≤k+1)(hm:l.Pairwise fun a b=>pop S.n a.1≤pop S.n b.1) :
  (dp l c).Pairwise (fun a b=>pop S.n a.1≤pop S.n b.1)∧∀x∈dp l c,pop S.n x.1≤k+1:=by
 refine⟨?_,V8 hle (by omega)⟩;unfold dp;split
 ·exact hm
 ·rw[List.pairwise_append];refine⟨hm,by simp,?_⟩;intro a ha b hb;simp at hb;subst hb;have:=hle a ha;omega
theorem Mm{S:Sys σ}{k:Nat}:∀{r l l':List (Cf σ)},dJ l r=some l'→(∀c∈r,pop S.n c.1=k+1)→(∀x∈l,pop S.n x.1≤k+1)→(l.Pairwise fun a b=>pop S.n a.1≤pop S.n b.1)→
  (l'.Pairwise fun a b=>pop S.n a.1≤pop S.n b.1)∧∀x∈l',pop S.n x.1≤k+1
 | [],l,l',h,_,h2,h3=>by unfold dJ at h;cases h;exact⟨h3,h2⟩
 |c ::r,l,l',h,h1,h2,h3=>by
  unfold dJ at h;split at h
  ·cases h
  ·obtain⟨a,b⟩:=aeu (S:=S) (h1 c (by simp)) h2 h3;exact Mm h (fun c hc=>h1 c (by simp[hc])) b a
theorem Kept.next{S:Sys σ}(hS:S.Ok){i:Nat}{l l':List (Cf σ)}(h:Kept S i l){c:Cf σ}(hc:l[i]?=some c)(ha:dJ l ((S.steps c).map (·.2))=some l'):Kept S (i+1) l':=by
 have Hd:c∈l:=List.mem_of_getElem? hc;have alC:=h.lt c Hd;obtain⟨⟨t,e⟩,h2,h3,h4,h5⟩:=oh ha;obtain⟨m1,m2⟩:=Mm (S:=S) (k:=pop S.n c.1) ha (by intro x hx;rw[List.mem_map]at hx;obtain⟨⟨j,y⟩,hy,rfl⟩:=hx;exact OU hS hy alC) (h.azL c hc) h.mono
 refine⟨h3 h.nodup,h4 h.len,?_,m1,?_,?_⟩
 ·intro x hx;rcases h5 x hx with hx|hx
  ·exact h.lt x hx
  ·rw[List.mem_map]at hx;obtain⟨⟨j,y⟩,hy,rfl⟩:=hx;exact(ahe hS hy alC).1
 ·intro c2 hc2 x hx;have hle:=m2 x hx;have:pop S.n c.1≤pop S.n c2.1:=by
   have hp:=List.pairwise_iff_getElem.1 m1;obtain⟨q1,q2⟩:=List.getElem?_eq_some_iff.1 hc2;have hi:i<l'.length:=by omega
   have hci:l'[i]=c:=by
    have Gp:i<l.length:=(List.getElem?_eq_some_iff.1 hc).1;have:l'[i]?=some c:=by rw[e,List.getElem?_append_left Gp];exact hc
    exact(List.getElem?_eq_some_iff.1 this).2
   have:=hp i (i+1) hi q1 (by omega);rw[hci,q2]at this;exact this
  omega
 ·intro j c2 hj hc2 x hx;by_cases sZ:j=i
  ·subst sZ;have:c2=c:=by have Gp:j<l.length:=(List.getElem?_eq_some_iff.1 hc).1;rw[e,List.getElem?_append_left Gp,hc]at hc2;exact(Option.some.inj hc2).symm
   subst this;exact h2 _ (List.mem_map.2 ⟨x,hx,rfl⟩)
  ·have bG:j<l.length:=by have:=(List.getElem?_eq_some_iff.1 hc).1;omega
   rw[e,List.getElem?_append_left bG]at hc2;have:=h.done j c2 (by omega) hc2 x hx;rw[e];exact List.mem_append_left _ this
theorem Kept.up{S:Sys σ}(hS:S.Ok){i:Nat}{l:List (Cf σ)}(h:Kept S i l){j k:Nat}{c c':Cf σ}(hc:l[j]?=some c)(hk:l[k]?=some c'){q:Nat}(hs:(q,c')∈S.steps c):j<k:=by
 rcases Nat.lt_or_ge j k with hjk|hjk
 ·exact hjk
 ·exfalso;have hp:=OU hS hs (h.lt c (List.mem_of_getElem? hc));obtain⟨a1,a2⟩:=List.getElem?_eq_some_iff.1 hc;obtain⟨b1,b2⟩:=List.getElem?_eq_some_iff.1 hk;rcases Nat.lt_or_ge k j with bY|Rg
  ·have:=List.pairwise_iff_getElem.1 h.mono k j b1 a1 bY;rw[a2,b2]at this;omega
  ·have:j=k:=by omega
   subst this;rw[hc]at hk;cases hk;omega
end
section
variable{σ:Type}[DecidableEq σ]
open Classical in
noncomputable def pH(S:Sys σ)(c:Cf σ):Bool:=decide (Good S c)
theorem GH{S:Sys σ}{c:Cf σ}:pH S c=true↔Good S c:=by unfold pH;exact @decide_eq_true_iff _ (Classical.propDecidable _)
theorem Tb{S:Sys σ}{c:Cf σ}:pH S c=false↔¬Good S c:=by rw[←GH];cases pH S c<;>simp
theorem YL{S:Sys σ}(c:Cf σ):pH S c=(S.acc c.1||(S.steps c).any fun x=>pH S x.2):=by
 rw[Bool.eq_iff_iff,GH,Bool.or_eq_true,List.any_eq_true];constructor
 ·intro h;cases h with
  |now h=>exact .inl h
  | @step c c' i h g=>exact .inr ⟨(i,c'),h,GH.2 g⟩
 ·rintro(h|⟨⟨i,c'⟩,hx,g⟩)
  ·exact .now h
  ·exact .step hx (GH.1 g)
def rowOf(S:Sys σ)(l:List (Cf σ))(c:Cf σ):List (Nat×Nat):=(S.steps c).map fun x=>(x.1,l.idxOf x.2)
theorem acU{l t:List (Cf σ)}{c:Cf σ}(h:c∈l):(l++t).idxOf c=l.idxOf c:=by rw[List.idxOf_append,if_pos h]
theorem af0{S:Sys σ}{l t:List (Cf σ)}{c:Cf σ}(h:∀x∈S.steps c,x.2∈l):rowOf S (l++t) c=rowOf S l c:=by unfold rowOf;apply List.map_congr_left;intro x hx;rw[acU (h x hx)]
theorem GG{l:List (Cf σ)}{c:Cf σ}(h:c∈l):l[l.idxOf c]?=some c:=by have:=List.idxOf_lt_length_of_mem h;rw[List.getElem?_eq_getElem this,List.getElem_idxOf]
theorem asH{l:List (Cf σ)}(hn:l.Nodup){c:Cf σ}{j:Nat}(h:l[j]?=some c):l.idxOf c=j:=by have h1:=GG (List.mem_of_getElem? h);have a1:=(List.getElem?_eq_some_iff.1 h1);have a2:=(List.getElem?_eq_some_iff.1 h);obtain⟨p1,p2⟩:=a1;obtain⟨q1,q2⟩:=a2;exact(List.getElem_inj hn).1 (p2.trans q2.symm)
structure Whole(S:Sys σ)(l:List (Cf σ))(c0:Cf σ):Prop where
 kept:Kept S l.length l
 first:l[0]?=some c0
theorem Whole.closed{S:Sys σ}{l:List (Cf σ)}{c0:Cf σ}(h:Whole S l c0){c:Cf σ}(hc:c∈l):∀x∈S.steps c,x.2∈l:=by obtain⟨j,hj,e⟩:=List.getElem_of_mem hc;exact h.kept.done j c hj (by rw[List.getElem?_eq_getElem hj,e])
theorem Kept.start{S:Sys σ}{s:σ}(Lw:1≤1024):Kept S 0 [(0,s)]:=by
 refine⟨by simp,by simp,?_,by simp,?_,?_⟩
 ·intro c hc;simp at hc;subst hc;exact Nat.two_pow_pos _
 ·intro c hc x hx;simp at hc hx;subst hc;subst hx;omega
 ·intro j c hj;omega
theorem V7{S:Sys σ}{f i:Nat}{l:List (Cf σ)}{c:Cf σ}(h:l[i]?=some c):On S (f+1) i l=match dJ l ((S.steps c).map (·.2))with|none=>none|some l'=>On S f (i+1) l':=by show(match l[i]? with|none=>some l|some c=>_)=_;simp only[h]<;>rfl
theorem acF{S:Sys σ}{f i:Nat}{l:List (Cf σ)}(h:l.length≤i):On S f i l=some l:=by
 cases f with
 |zero=>rfl
 |succ f=>show(match l[i]? with|none=>some l|some c=>_)=_;rw[List.getElem?_eq_none h]
theorem Path.more{S:Sys σ}{c c':Cf σ}{i:Nat}{p:List Nat}{a b:List (Nat×Cf σ)}(h:S.acc c.1=false)(e:S.steps c=a++(i,c') ::b)(no:∀x∈a,¬Good S x.2)(g:Path S c' p):Path S c (i ::p):=.step h e no g
theorem akd{S:Sys σ}{c:Cf σ}(h:S.acc c.1=false)(no:∀x∈S.steps c,¬Good S x.2):¬Good S c:=by
 intro hg;cases hg with
 |now h2=>rw[h]at h2;cases h2
 |step hs g=>exact no _ hs g
def Sys.dh(S:Sys σ)(c:Cf σ)(k:Nat):List (Nat×Cf σ):=(List.range k).filterMap (S.step c)
theorem fI(S:Sys σ)(c:Cf σ)(k:Nat):S.dh c (k+1)=S.dh c k++(S.step c k).toList:=by unfold Sys.dh;rw[List.range_succ,List.filterMap_append];cases h:S.step c k<;>simp[h]
theorem Lx(S:Sys σ)(c:Cf σ):S.dh c S.n=S.steps c:=rfl
theorem EV(S:Sys σ)(c:Cf σ){k m:Nat}(h:k≤m):∃t,S.dh c m=S.dh c k++t:=by
 induction m with
 |zero=>exact⟨[],by obtain rfl:k=0:=Nat.le_zero.1 h;simp⟩
 |succ m ih=>
  rcases Nat.lt_or_ge k (m+1)with h1|h1
  ·obtain⟨t,e⟩:=ih (by omega);exact⟨t++(S.step c m).toList,by rw[fI,e,List.append_assoc]⟩
  ·have:k=m+1:=by omega
   subst this;exact⟨[],by simp⟩
theorem Qv(S:Sys σ)(c:Cf σ){k:Nat}(h:k<S.n){x:Nat×Cf σ}(e:S.step c k=some x):∃b,S.steps c=S.dh c k++x ::b:=by obtain⟨t,e2⟩:=EV S c (k:=k+1) (m:=S.n) (by omega);refine⟨t,?_⟩;rw[←Lx,e2,fI,e];simp
theorem Nv{α:Type}{lt:α→α→Prop}(irr:∀a,¬lt a a)(tr:∀a b c,lt a b→lt b c→lt a c):∀{l m:List α},l.Pairwise lt→m.Pairwise lt→(∀x,x∈l↔x∈m)→l=m
 | [],[],_,_,_=>rfl
 | [],b ::m,_,_,h=>absurd ((h b).2 (by simp)) (by simp)
 |a ::l,[],_,_,h=>absurd ((h a).1 (by simp)) (by simp)
 |a ::l,b ::m,h1,h2,h=>by
  rw[List.pairwise_cons]at h1 h2;have hab:a=b:=by
   rcases List.mem_cons.1 ((h a).1 (by simp))with e|ha
   ·exact e
   ·rcases List.mem_cons.1 ((h b).2 (by simp))with e|hb
    ·exact e.symm
    ·exact absurd (tr _ _ _ (h1.1 b hb) (h2.1 a ha)) (irr a)
  subst hab;congr 1;refine Nv irr tr h1.2 h2.2 fun x=>?_;constructor
  ·intro hx;rcases List.mem_cons.1 ((h x).1 (by simp[hx]))with e|hm
   ·subst e;exact absurd (h1.1 x hx) (irr x)
   ·exact hm
  ·intro hx;rcases List.mem_cons.1 ((h x).2 (by simp[hx]))with e|hm
   ·subst e;exact absurd (h2.1 x hx) (irr x)
   ·exact hm
end
end Ln
namespace Ln
open Go.Sx Go
def xN(os:List Op)(k d:Nat):Bool:=!d.testBit k&&(List.range os.length).all fun q=>q==k || !(before (os.getD q default) (os.getD k default)&&decide (0≤(os.getD q default).e) && !d.testBit q) && !(d.testBit q&&before (os.getD k default) (os.getD q default))
def Ag(os:List Op)(d:Nat):Bool:=(List.range os.length).all fun q=>!decide (0≤(os.getD q default).e)||d.testBit q
def aJ(X:Kn)(i:Nat)(os:List Op):Sys St:=⟨os.length,xN os,fun k s=>X.take (cm i (os.getD k default)) (os.getD k default) s,Ag os⟩
theorem Gu(X:Kn)(i:Nat)(os:List Op):(aJ X i os).Ok:=by intro k d h;have h:xN os k d=true:=h;unfold xN at h;rw[kO]at h;simpa using h.1
theorem mQ{os:List Op}{k:Nat}(h:k<os.length):os.getD k default=os[k]:=by rw[List.getD_eq_getElem?_getD,xF h];rfl
variable{C:bK}{X:Kn}(S:Std C X)
include S
theorem ZU{k:Nat}(hk:k≤16){h:T ah}{nx:Key}:aH C gZ [I k] h nx (fun o h' nx'=>o=.ret (I ((2^k:Nat):Int))∧h'=h∧nx'=nx):=by
 refine S.MW.call ?_;simp[LX];simp[KI];simp[KJ];simp[KL];refine W.cM (n:=k) (fun m aw h' nx'=>∃j:Nat,m=k-j∧j≤k∧ae (K 0) aw=some (I k)∧ae (K 4) aw=some (I j)∧ae (K 3) aw=some (I ((2^j:Nat):Int))∧h'=h∧nx'=nx) ⟨0,by simp,by omega,by simp,by simp,by simp,rfl,rfl⟩ ?_;rintro m dD h1 bF ⟨j,rfl,hj,g0,g4,g3,rfl,rfl⟩;refine W.of ?_;simp[KM];have hp:2^j≤65536:=jL (by omega);by_cases hjk:j<k
 ·have sZ:(j:Int)<k:=by omega
  have hw:bP .i64 (2*((2^j:Nat):Int))=((2^(j+1):Nat):Int):=by rw[Nat.pow_succ];generalize 2^j=p at hp ⊢;rw[aC (by omega) (by omega)];omega
  simp[Cs,g0,g4,sZ];simp[KN,g3,-Int.natCast_pow];simp[KP,g4];rw[aC (n:=(j:Int)+1) (by omega) (by omega)];refine⟨k-(j+1),by omega,j+1,rfl,by omega,g0,by omega,?_⟩;have e:=hw;simpa using e
 ·have aER:j=k:=by omega
  subst aER;simp[Cs,g0,g4];simp[KQ,g3]
theorem aea{d k:Nat}(hd:d<65536)(hk:k≤16){h:T ah}{nx:Key}:aH C jD [I d,I k] h nx (fun o h' nx'=>o=.ret (.bool (d.testBit k))∧h'=h∧nx'=nx):=by
 have rb:=S.r gZ;refine S.Qj.call ?_;simp[P9];simp[Ng];simp[Nh,rb];refine(ZU S hk).mono ?_;rintro o h1 bF ⟨rfl,rfl,rfl⟩;have hp:0<2^k:=Nat.two_pow_pos k;have hq:d / 2^k≤d:=Nat.div_le_self _ _;have hb:d.testBit k=decide (d / 2^k%2=1):=Nat.testBit_eq_decide_div_mod_eq;rw[hb];generalize 2^k=p at *;have h0:((p:Int)==0)=false:=bq (by omega);have hdv:Int.tdiv (d:Int) (p:Int)=((d / p:Nat):Int):=rfl;have hw:bP .i64 ((d / p:Nat):Int)=((d / p:Nat):Int):=by generalize d / p=q at *;exact aC (by omega) (by omega)
 have hm:Int.tmod ((d / p:Nat):Int) 2=((d / p%2:Nat):Int):=rfl;have hd2:(((d / p%2:Nat):Int)==1)=decide (d / p%2=1):=by generalize d / p%2=q;rw[Bool.eq_iff_iff];simp;omega
 simp[-Int.natCast_ediv,-Int.natCast_emod,h0,hdv,hw,hm,hd2]
end Ln
namespace Ln
open Go.Sx Go
theorem Vd{n:Nat}{p:Nat→Bool}{q:Nat}(hq:q<n)(h:p q=false):(List.range n).all p=false:=by rw[List.all_eq_false];exact⟨q,List.mem_range.2 hq,by simp[h]⟩
theorem Qt{n:Nat}{p:Nat→Bool}(h:∀q,q<n→p q=true):(List.range n).all p=true:=vJ.2 fun q hq=>h q (List.mem_range.1 hq)
theorem Ve{j:Nat}{p:Nat→Prop}(h:∀q,q<j→p q)(hj:p j):∀q,q<j+1→p q:=fun q hq=>by
 by_cases e:q=j
 ·subst e;exact hj
 ·exact h q (by omega)
variable{C:bK}{X:Kn}(S:Std C X)
def Vc(os:List Op)(k d q:Nat):Bool:=q==k || !(before (os.getD q default) (os.getD k default)&&decide (0≤(os.getD q default).e) && !d.testBit q) && !(d.testBit q&&before (os.getD k default) (os.getD q default))
def anD(X:Kn)(os:List Op)(cells:List AV)(k d:Nat)(bj:Key)(h:T ah)(nx:Key)(m:Nat)(aw:T AV)(h':T ah)(nx':Key):Prop:=∃j:Nat,m=os.length-j∧j≤os.length∧ae (K 0) aw=some (.ptr bj 0)∧ae (K 1) aw=some (I k)∧ae (K 2) aw=some (I d)∧ae (K 7) aw=some (I j)∧ae bj h'=Vv cells∧Ext h nx h' nx'∧∀q,q<j→Vc os k d q=true
include S
theorem WE{i:Nat}{os:List Op}(ho:os.length≤16){cO:AV}(hc:iB 10 eO cO os){s0:St}{k d:Nat}(hk:k<os.length)(hd:d<65536){h:T ah}{nx bj:Key}(hb:ae bj h=Vv (wB X i cO s0))(By:bj.toNat<nx.toNat) :
  aH C gj [.ptr bj 0,I k,I d] h nx (fun o h' nx'=>o=.ret (.bool (xN os k d))∧Ext h nx h' nx'):=by
 have rI:=S.r jD;have rB:=S.r iV;have BX:cO=.sl (ag eO os) os.length 10 .any:=by
  rcases hc with⟨_,rfl⟩|e
  ·simp at hk
  ·exact e
 subst BX;have hr:=ez.rows os;have eck:=ez.at hk;have tk:10≤os.length*10-k*10:=by omega
 refine S.FJ.call ?_;simp[Cl];simp[DJ];simp[DK,rI];refine(aea S hd (by omega)).mono ?_;rintro o h1 bF ⟨rfl,rfl,rfl⟩;cases UM:d.testBit k with
 |true=>
  have:xN os k d=false:=by unfold xN;rw[UM];rfl
  simp;simp[DL];exact⟨this,Ext.refl _ _⟩
 |false=>
  have z6:xN os k d=(List.range os.length).all (Vc os k d):=by unfold xN;rw[UM];rfl
  simp;simp[DM];refine W.cM (n:=os.length) (anD X os (wB X i (.sl (ag eO os) os.length 10 .any) s0) k d bj h1 bF) ⟨0,by simp,by omega,by simp,by simp,by simp,by simp,hb,Ext.refl _ _,fun q hq=>absurd hq (by omega)⟩ ?_;rintro m dD h2 aU ⟨j,rfl,hj,g0,g1,g2,g7,Tm,e2,hq⟩;refine W.of ?_;simp[DN];by_cases bG:j<os.length
  ·have sZ:(j:Int)<os.length:=by omega
   have ecj:=ez.at bG;have tj:10≤os.length*10-j*10:=by omega
   have GZ:Vc os k d j=(j==k || !(before os[j] os[k]&&decide (0≤os[j].e) && !d.testBit j) && !(d.testBit j&&before os[k] os[j])):=by unfold Vc;rw[mQ bG,mQ hk]
   simp[ux,g0,g7,Tm,wB,sZ];have next:∀(aW:T AV) (h3:T ah) (cF:Key),ae (K 0) aW=some (.ptr bj 0)→ae (K 1) aW=some (I k)→ae (K 2) aW=some (I d)→ae (K 7) aW=some (I j)→ae bj h3=Vv (wB X i (.sl (ag eO os) os.length 10 .any) s0)→Ext h1 bF h3 cF→Vc os k d j=true→
     lH C (aM (fun tm h' nx'=>∃m,m<os.length-j∧anD X os (wB X i (.sl (ag eO os) os.length 10 .any) s0) k d bj h1 bF m tm h' nx') (aA 0 (aM (iH C (.seq (.ops jd) .ret) (dF [.tmp (K 6)] fun o h' nx'=>o=.ret (.bool (xN os k d))∧Ext h1 bF h' nx')) (dF [.tmp (K 6)] fun o h' nx'=>o=.ret (.bool (xN os k d))∧Ext h1 bF h' nx')))) mb aW h3 cF:=by
    intro aW h3 cF q0 q1 q2 q7 b3 e3 sO;simp[mb,q7];rw[aC (by omega) (by omega)];exact⟨os.length-(j+1),by omega,j+1,rfl,by omega,by simp[q0],by simp[q1],by simp[q2],by simp,b3,e3,Ve hq sO⟩
   by_cases hjk:j=k
   ·subst hjk;simp[uy,g1,g7];refine next _ _ _ ?_ ?_ ?_ ?_ Tm e2 (by rw[GZ];simp)<;>simp[g0,g1,g2,g7]
   ·have aEJ:((j:Int)==k)=false:=bq (by omega);have aEK:(j==k)=false:=by simpa using hjk
    rw[aEK,Bool.false_or]at GZ;simp[uy,g1,g7,aEJ];have fail:Vc os k d j=false→∀h3 cF,Ext h1 bF h3 cF→(xN os k d=false∧Ext h1 bF h3 cF):=fun hf h3 cF e3=>⟨by rw[z6,Vd bG hf],e3⟩;have KC:∀(aW:T AV) (h3:T ah) (cF:Key),ae (K 0) aW=some (.ptr bj 0)→ae (K 1) aW=some (I k)→ae (K 2) aW=some (I d)→ae (K 7) aW=some (I j)→ae bj h3=Vv (wB X i (.sl (ag eO os) os.length 10 .any) s0)→Ext h1 bF h3 cF→(before os[j] os[k]&&decide (0≤os[j].e) && !d.testBit j)=false→
      iH C (.seq (.staged uz ⟨[K 55,K 56,K 57,K 58,K 59,K 60,K 61,K 62,K 63,K 64,K 65,K 66,K 67,K 68,K 69,K 70,K 71,K 72,K 73,K 74],[]⟩) (.cond (.t (K 74)) (.seq (.ops uA) .ret) .skip)) (aA 1 (aM (iH C (.ops mb) (aM (fun tm h' nx'=>∃m,m<os.length-j∧anD X os (wB X i (.sl (ag eO os) os.length 10 .any) s0) k d bj h1 bF m tm h' nx') (aA 0 (aM (iH C (.seq (.ops jd) .ret) (dF [.tmp (K 6)] fun o h' nx'=>o=.ret (.bool (xN os k d))∧Ext h1 bF h' nx')) (dF [.tmp (K 6)] fun o h' nx'=>o=.ret (.bool (xN os k d))∧Ext h1 bF h' nx'))))) (aM (fun tm h' nx'=>∃m,m<os.length-j∧anD X os (wB X i (.sl (ag eO os) os.length 10 .any) s0) k d bj h1 bF m tm h' nx') (aA 0 (aM (iH C (.seq (.ops jd) .ret) (dF [.tmp (K 6)] fun o h' nx'=>o=.ret (.bool (xN os k d))∧Ext h1 bF h' nx')) (dF [.tmp (K 6)] fun o h' nx'=>o=.ret (.bool (xN os k d))∧Ext h1 bF h' nx')))))) aW h3 cF:=by
     intro aW h3 cF q0 q1 q2 q7 b3 e3 hA;rw[hA]at GZ;simp;simp[uz,q2,q7,rI];refine(aea S hd (by omega)).mono ?_;rintro o h4 jw ⟨rfl,rfl,rfl⟩;cases hbj:d.testBit j with
     |false=>rw[hbj]at GZ;simp;refine next _ _ _ ?_ ?_ ?_ ?_ b3 e3 (by rw[GZ];rfl)<;>simp[q0,q1,q2,q7]
     |true=>
      rw[hbj]at GZ;simp[q0,q1,q7,b3,wB,hk,bG,hr,tk,tj,eck,ecj,rB,ac9,MI,UC];refine(QA S os[k] os[j] _ _).mono ?_;rintro o h5 Gv ⟨rfl,e5⟩;have b5:ae bj h5=Vv (wB X i (.sl (ag eO os) os.length 10 .any) s0):=by rw[e5.g bj (by have:=e3.n;omega)];exact b3
      cases nC:before os[k] os[j]with
      |true=>rw[nC]at GZ;simp;simp[uA];exact fail (by rw[GZ];rfl) _ _ (e3.trans e5)
      |false=>rw[nC]at GZ;simp;refine next _ _ _ ?_ ?_ ?_ ?_ b5 (e3.trans e5) (by rw[GZ];rfl)<;>simp[q0,q1,q2,q7]
    simp only[fH,rj]at KC;simp[DO,g0,g1,g7,Tm,wB,hk,bG,hr,tk,tj,eck,ecj,rB,ac9,MI,UC];refine(QA S os[j] os[k] _ _).mono ?_;rintro o h3 cF ⟨rfl,e3⟩;have b3:ae bj h3=Vv (wB X i (.sl (ag eO os) os.length 10 .any) s0):=by rw[e3.g bj (by have:=e2.n;omega)];exact Tm
    have Sd:=e2.trans e3;cases nC:before os[j] os[k]with
    |false=>rw[nC]at KC;simp;refine KC _ _ _ ?_ ?_ ?_ ?_ b3 Sd rfl<;>simp[g0,g1,g2,g7]
    |true=>
     rw[nC]at KC GZ;have b3':ae bj h3=Vv [.sl X.rows 7 45 .any,fE i,I X.lf,I X.lb,.sl (ag eO os) os.length 10 .any,I s0.k,I s0.n,.str 0 0,aK s0.kids]:=b3;have axB:List.take 10 (List.drop (j*10) (ag eO os))=[I os[j].client,I os[j].b,I os[j].e,I os[j].lost,.str os[j].name.1 os[j].name.2,aK os[j].args,I os[j].res.k,I os[j].res.n,.str 0 0,.nils]:=ecj;by_cases he:os[j].e<0
     ·have hed:decide (0≤os[j].e)=false:=by simp;omega
      rw[hed]at KC;simp[g0,g7,b3',bG,hr,tj,axB,he];refine KC _ _ _ ?_ ?_ ?_ ?_ b3 Sd rfl<;>simp[g0,g1,g2,g7]
     ·have hed:decide (0≤os[j].e)=true:=by simp;omega
      rw[hed]at KC GZ;simp[g0,g2,g7,b3',bG,hr,tj,axB,he,rI];refine(aea S hd (by omega)).mono ?_;rintro o h4 jw ⟨rfl,rfl,rfl⟩;cases hbj:d.testBit j with
      |true=>rw[hbj]at KC;simp;refine KC _ _ _ ?_ ?_ ?_ ?_ b3 Sd rfl<;>simp[g0,g1,g2,g7]
      |false=>rw[hbj]at GZ;simp;simp[DP];exact fail (by rw[GZ];rfl) _ _ Sd
  ·have vK:j=os.length:=by omega
   subst vK;simp[ux,g0,g7,Tm,wB];simp[jd];exact⟨by rw[z6];exact Qt hq,e2⟩
end Ln
namespace Go.Sx
open Go
def Gr(z:Nat)(c:AV)(l:List AV)(len:Nat)(h:T ah)(nx:Key)(ob:Option Key):Prop:=
 (c=.nils∧l=[]∧len=0∧ob=none)∨(∃(b:Key) (k:CK),ob=some b∧c=.slice b 0 len z∧ae b h=some (.cells l k)∧b.toNat<nx.toNat∧l.length=len*z∧(k=.part∨k=.fix))∨
 (∃t:Key,ob=some t∧c=.sl l len z (.tok t)∧ae t h=some .tok∧t.toNat<nx.toNat)
structure qw(h:T ah)(nx:Key)(ob:Option Key)(h':T ah)(nx':Key)(kK:Option Key):Prop where
 n:nx.toNat≤nx'.toNat
 g:∀b:Key,b.toNat<nx.toNat→ob≠some b→ae b h'=ae b h
 o:kK=ob∨∃b:Key,kK=some b∧nx.toNat≤b.toNat
theorem qw.refl(h:T ah)(nx:Key)(ob:Option Key):qw h nx ob h nx ob:=⟨fa _,fun _ _ _=>rfl,.inl rfl⟩
theorem qw.qD{h h':T ah}{nx nx':Key}(e:Ext h nx h' nx')(ob:Option Key):qw h nx ob h' nx' ob:=⟨e.n,fun b hb _=>e.g b hb,.inl rfl⟩
theorem qw.ne{h h':T ah}{nx nx' b:Key}{ob kK:Option Key}(a:qw h nx ob h' nx' kK)(hb:b.toNat<nx.toNat)(hn:ob≠some b):kK≠some b:=by
 rcases a.o with e|⟨x,e,hx⟩
 ·rw[e];exact hn
 ·rw[e];intro q;cases q;omega
theorem qw.trans{h h' h2:T ah}{nx nx' n2:Key}{ob kK o2:Option Key}(a:qw h nx ob h' nx' kK)(b:qw h' nx' kK h2 n2 o2):qw h nx ob h2 n2 o2:=by
 have h1:=a.n;refine⟨Nat.le_trans a.n b.n,fun x hx hn=>?_,?_⟩
 ·rw[b.g x (by omega) (a.ne hx hn)];exact a.g x hx hn
 ·rcases b.o with e|⟨y,e,hy⟩
  ·rw[e];exact a.o
  ·exact .inr ⟨y,e,by omega⟩
section
variable{z:Nat}{c:AV}{l new:List AV}{len m:Nat}{h h':T ah}{nx nx':Key}{ob:Option Key}
theorem Gr.nil(z:Nat)(h:T ah)(nx:Key):Gr z .nils [] 0 h nx none:=.inl ⟨rfl,rfl,rfl,rfl⟩
theorem Gr.lt(g:Gr z c l len h nx ob):∀b,ob=some b→b.toNat<nx.toNat:=by
 intro b hb;rcases g with⟨_,_,_,e⟩|⟨b',k,e,_,_,h4,_⟩|⟨t,e,_,_,h4⟩
 ·rw[hb]at e;cases e
 ·rw[hb]at e;cases e;exact h4
 ·rw[hb]at e;cases e;exact h4
theorem Gr.cy(g:Gr z c l len h nx ob)(hn:nx.toNat≤nx'.toNat)(hk:∀b,ob=some b→ae b h'=ae b h):Gr z c l len h' nx' ob:=by
 rcases g with g|⟨b,k,e,h1,h2,h3,h4⟩|⟨t,e,h1,h2,h3⟩
 ·exact .inl g
 ·exact .inr (.inl ⟨b,k,e,h1,by rw[hk b e];exact h2,by omega,h4⟩)
 ·exact .inr (.inr ⟨t,e,h1,by rw[hk t e];exact h2,by omega⟩)
theorem Gr.ext(g:Gr z c l len h nx ob)(e:Ext h nx h' nx'):Gr z c l len h' nx' ob:=g.cy e.n fun b hb=>e.g b (g.lt b hb)
theorem Gr.add(g:Gr z c l len h nx ob)(hw:Cx z=false)(hz:0<z)(hm:0<m)(hs:∀x∈l,OQ x)(hn:new.length=m*z)(hl:len+m≤1048576)(hc:new.all AV.aP=true) :
  ∃c' h' nx' kK,appendTo z c new m h nx=.val c' h' nx'∧Gr z c' (l++new) (len+m) h' nx' kK∧qw h nx ob h' nx' kK:=by
 have s1:=kTSu nx;have Mp:m≠0:=by omega
 rcases g with⟨rfl,rfl,rfl,rfl⟩|⟨b,k,rfl,rfl,h2,h3,h4,hk⟩|⟨t,rfl,rfl,h2,h3⟩
 ·have NN:m≤1048576:=by omega
  exact⟨.slice nx 0 m z,av nx (some (.cells new .part)) h,nx.succ,some nx,by simp[Mp,NN],.inr (.inl ⟨nx,.part,rfl,by simp,by simp,by omega,by simpa using hn,.inl rfl⟩),by omega,fun b hb _=>az hb,.inr ⟨nx,rfl,fa _⟩⟩
 ·rcases hk with rfl|rfl
  ·refine⟨.sl (l++new) (len+m) z (.tok nx),av nx (some .tok) (av b none h),nx.succ,some nx,?_,.inr (.inr ⟨nx,rfl,by simp,by simp,by omega⟩),by omega,fun x hx hk=>?_,.inr ⟨nx,rfl,fa _⟩⟩
   ·simp[hl,hc,h2,h4,Mp,hw]
   ·rw[az hx,aR];rintro rfl;exact hk rfl
  ·have MC:¬(len+m)*z≤len*z:=by rw[Nat.add_mul];have:=Nat.mul_pos hm hz;omega
   have UB:bC (aN 9999) l h=(l,h):=cn hs;have htl:List.take (len*z) l=l:=OV (by omega);refine⟨.slice nx 0 (len+m) z,av nx (some (.cells (l++new) .part)) h,nx.succ,some nx,?_,.inr (.inl ⟨nx,.part,rfl,rfl,by simp,by omega,by rw[Ho,h4,hn,Nat.add_mul],.inl rfl⟩),by omega,fun b hb _=>az hb,.inr ⟨nx,rfl,fa _⟩⟩;simp[hl,hc,h2,h4,MC,htl,UB]
 ·refine⟨.sl (l++new) (len+m) z (.tok nx),av nx (some .tok) (av t none h),nx.succ,some nx,?_,.inr (.inr ⟨nx,rfl,by simp,by simp,by omega⟩),by omega,fun x hx hk=>?_,.inr ⟨nx,rfl,fa _⟩⟩
  ·simp[hl,hc,h2,Mp]
  ·rw[az hx,aR];rintro rfl;exact hk rfl
theorem Gr.IJ{α:Type}{enc:α→List AV}(F:Flat z enc){us:List α}(g:Gr z c (ag enc us) us.length h nx ob)(hw:Cx z=false)(hz:0<z)(hl:us.length+1≤1048576)(x:α) :
  ∃c' h' nx' kK,appendTo z c (enc x) 1 h nx=.val c' h' nx'∧Gr z c' (ag enc (us ++ [x])) (us ++ [x]).length h' nx' kK∧qw h nx ob h' nx' kK:=by
 obtain⟨c',h',nx',kK,a,b,r⟩:=g.add (new:=enc x) (m:=1) hw hz (by omega) (F.Er us) (by rw[F.len,Nat.one_mul]) hl (vJ.2 (F.cell x));exact⟨c',h',nx',kK,a,by rw[fU,fj,Ho];exact b,r⟩
end
def Rd(z:Nat)(c:AV)(l:List AV)(len:Nat)(h:T ah)(nx:Key):Prop:=(c=.nils∧l=[]∧len=0)∨(∃f,c=.sl l len z f)∨∃(b:Key) (k:CK),c=.slice b 0 len z∧ae b h=some (.cells l k)∧b.toNat<nx.toNat∧l.length=len*z
theorem Gr.rd{z:Nat}{c:AV}{l:List AV}{len:Nat}{h:T ah}{nx:Key}{ob:Option Key}(g:Gr z c l len h nx ob):Rd z c l len h nx:=by
 rcases g with⟨h1,h2,h3,_⟩|⟨b,k,_,h1,h2,h3,h4,_⟩|⟨t,_,h1,_⟩
 ·exact .inl ⟨h1,h2,h3⟩
 ·exact .inr (.inr ⟨b,_,h1,h2,h3,h4⟩)
 ·exact .inr (.inl ⟨_,h1⟩)
theorem Rd.ext{z:Nat}{c:AV}{l:List AV}{len:Nat}{h h':T ah}{nx nx':Key}(g:Rd z c l len h nx)(e:Ext h nx h' nx'):Rd z c l len h' nx':=by
 rcases g with g|g|⟨b,k,h1,h2,h3,h4⟩
 ·exact .inl g
 ·exact .inr (.inl g)
 ·exact .inr (.inr ⟨b,k,h1,by rw[e.g b h3];exact h2,by have:=e.n;omega,h4⟩)
def GO(z i:Nat):AV→AV
 |.sl l _ _ _=>.cref (List.take z (List.drop (i*z) l))
 |.slice b off _ _=>.ptr b (off+i*z)
 |_=>.nils
theorem Rd.ix{z:Nat}{c:AV}{α:Type}{enc:α→List AV}(F:Flat z enc){us:List α}{h:T ah}{nx:Key}(g:Rd z c (ag enc us) us.length h nx){i:Nat}(hi:i<us.length){C:bK}{Q:cH}{L:List ay}{tm:T AV}{n2 k1 k2 d1 d2:Key}(h1:ae k1 tm=some c)(h2:ae k2 tm=some (I i)) :
  lH C Q (⟨some d1,.indexL z (.t k1) (.t k2),none⟩ ::⟨some d2,.load true z (.t d1),none⟩ ::L) tm h n2=lH C Q L (av d2 (some (.agg (enc us[i]))) (av d1 (some (GO z i c)) tm)) h n2:=by
 have hr:=F.rows us;have he:=F.at hi;have hl:=F.len us[i];have tx:z≤us.length*z-i*z:=by rw[←Nat.sub_mul];exact Nat.le_mul_of_pos_left z (by omega)
 have tk:List.take z (enc us[i])=enc us[i]:=OV (by omega);rcases g with⟨_,_,e⟩|⟨f,rfl⟩|⟨b,k,rfl,hb,_,_⟩
 ·omega
 ·simp[h1,h2,hi,hr,tx,he,hl,tk,GO]
 ·simp[h1,h2,hi,hr,tx,he,hl,tk,GO,hb]
theorem Rd.ln{z:Nat}{c:AV}{l:List AV}{len:Nat}{h:T ah}{nx:Key}(g:Rd z c l len h nx){C:bK}{Q:cH}{L:List ay}{tm:T AV}{h2:T ah}{n2 k1 d1:Key}(h1:ae k1 tm=some c) :
  lH C Q (⟨some d1,.lenL (.t k1),none⟩ ::L) tm h2 n2=lH C Q L (av d1 (some (I len)) tm) h2 n2:=by
 rcases g with⟨rfl,_,rfl⟩|⟨f,rfl⟩|⟨b,k,rfl,_⟩
 ·simp[h1]
 ·simp[h1]
 ·simp[h1]
end Go.Sx
namespace Ln
open Go.Sx Go
def eC(c:Cf St):List AV:=[I c.1,I c.2.k,I c.2.n,.str 0 0,aK c.2.kids]
theorem dE:Flat 5 eC where
 len _:=rfl
 vV x y hy:=by
  simp[eC]at hy;rcases hy with rfl|rfl|rfl|rfl|rfl
  ·exact dz _ _
  ·exact dz _ _
  ·exact dz _ _
  ·exact x9 _ _
  ·exact dn _
 cell x y hy:=by simp[eC]at hy;rcases hy with rfl|rfl|rfl|rfl|rfl<;>first|rfl|exact(bA _).1
 lits x:=by simp[eC,AV.gE,AV.lits,Gt,I]
theorem zQ(z:Cf St)(H:T ah):bC (aN 9998) (eC z) H=(eC z,H):=cn (dE.vV _)
theorem wv(z:Cf St):List.take 5 (eC z)=eC z:=rfl
theorem mh(z:Cf St):(eC z).length=5:=rfl
theorem zP(z:Cf St):(eC z).all AV.aP=true:=vJ.2 (dE.cell z)
variable{C:bK}{X:Kn}(S:Std C X)
def AcI(X:Kn)(os:List Op)(cells:List AV)(d:Nat)(bj:Key)(h:T ah)(nx:Key)(m:Nat)(aw:T AV)(h':T ah)(nx':Key):Prop:=∃j:Nat,m=os.length-j∧j≤os.length∧ae (K 0) aw=some (.ptr bj 0)∧ae (K 1) aw=some (I d)∧ae (K 5) aw=some (I j)∧h'=h∧nx'=nx∧∀q,q<j→(!decide (0≤(os.getD q default).e)||d.testBit q)=true
include S
theorem ab3{i:Nat}{os:List Op}(ho:os.length≤16){cO:AV}(hc:iB 10 eO cO os){s0:St}{d:Nat}(hd:d<65536){h:T ah}{nx bj:Key}(hb:ae bj h=Vv (wB X i cO s0)) :
  aH C ia [.ptr bj 0,I d] h nx (fun o h' nx'=>o=.ret (.bool (Ag os d))∧h'=h∧nx'=nx):=by
 have rI:=S.r jD;refine S.yL.call ?_;simp[ua];simp[xB];simp[xC];refine W.cM (n:=os.length) (AcI X os (wB X i cO s0) d bj h nx) ⟨0,by simp,by omega,by simp,by simp,by simp,rfl,rfl,fun q hq=>absurd hq (by omega)⟩ ?_;rintro m dD h2 aU ⟨j,rfl,hj,g0,g1,g5,rfl,rfl,hq⟩;refine W.of ?_;simp[xE];by_cases bG:j<os.length
 ·have sZ:(j:Int)<os.length:=by omega
  have BX:cO=.sl (ag eO os) os.length 10 .any:=by
   rcases hc with⟨_,rfl⟩|e
   ·simp at bG
   ·exact e
  subst BX;have hr:=ez.rows os;have ecj:=ez.at bG;have tj:10≤os.length*10-j*10:=by omega
  simp[jE,g0,g5,hb,wB,sZ];have GZ:(!decide (0≤(os.getD j default).e)||d.testBit j)=(!decide (0≤os[j].e)||d.testBit j):=by rw[mQ bG]
  have next:∀(aW:T AV),ae (K 0) aW=some (.ptr bj 0)→ae (K 1) aW=some (I d)→ae (K 5) aW=some (I j)→(!decide (0≤os[j].e)||d.testBit j)=true→
    lH C (aM (fun tm h' nx'=>∃m,m<os.length-j∧AcI X os (wB X i (.sl (ag eO os) os.length 10 .any) s0) d bj h2 aU m tm h' nx') (aA 0 (aM (iH C (.seq (.ops jF) .ret) (dF [.tmp (K 4)] fun o h' nx'=>o=.ret (.bool (Ag os d))∧h'=h2∧nx'=aU)) (dF [.tmp (K 4)] fun o h' nx'=>o=.ret (.bool (Ag os d))∧h'=h2∧nx'=aU)))) oa aW h2 aU:=by
   intro aW q0 q1 q5 sO;simp[oa,q5];rw[aC (by omega) (by omega)];exact⟨os.length-(j+1),by omega,j+1,rfl,by omega,by simp[q0],by simp[q1],by simp,rfl,rfl,Ve hq (by rw[GZ];exact sO)⟩
  by_cases he:os[j].e<0
  ·simp[n9,g0,g5,hb,wB,bG,hr,tj,ecj,eO,he];refine next _ ?_ ?_ ?_ (by simp;omega)<;>simp[g0,g1,g5]
  ·have hed:decide (0≤os[j].e)=true:=by simp;omega
   rw[hed]at next GZ
   simp[n9,g0,g1,g5,hb,wB,bG,hr,tj,ecj,eO,he,rI];refine(aea S hd (by omega)).mono ?_;rintro o h4 jw ⟨rfl,rfl,rfl⟩;cases hbj:d.testBit j with
   |true=>
    rw[hbj]at next
    simp;refine next _ ?_ ?_ ?_ rfl<;>simp[g0,g1,g5]
   |false=>rw[hbj]at GZ;simp;simp[xD];unfold Ag;exact Vd bG (by rw[hbj];exact GZ)
 ·have vK:j=os.length:=by omega
  subst vK;have fin:Ag os d=true:=by unfold Ag;exact Qt hq
  rcases id hc with⟨e0,e1⟩|e0
  ·have:(os.length:Int)=0:=by rw[e1];rfl
   simp[jE,g0,g5,hb,wB,e0,this];simp[jF];exact fin
  ·simp[jE,g0,g5,hb,wB,e0];simp[jF];exact fin
theorem V1{a b:Cf St}(ha:a.2.kids.length≤3)(hb:b.2.kids.length≤3):TN C js [.agg (eC a),.agg (eC b)] (·=.ret (.bool (decide (a=b)))):=by
 intro h nx;have s1:=kTSu nx;have s2:=kTSu nx.succ;have rE:=S.r zr;have ac1:=bA a.2.kids;have ac2:=bA b.2.kids;have af1:∀n H,aN n (aK a.2.kids) H=(aK a.2.kids,H):=dn _;have af2:∀n H,aN n (aK b.2.kids) H=(aK b.2.kids,H):=dn _;refine S.Ky.call ?_;simp[I1];simp[Iq,eC,ac1.1,ac2.1];have e1:=(E0 h nx (.cells (eC a) .fix)).trans (E0 _ nx.succ (.cells (eC b) .fix));simp[eC]at e1;obtain⟨a1,a2⟩:=a;obtain⟨b1,b2⟩:=b;by_cases hab:a1=b1
 ·subst hab;simp[zz,rE,af1,af2];refine aH.known (S.s_Equal a2 b2 ha hb _ _) ?_;simp;exact e1
 ·have ato:((a1:Int)==b1)=false:=bq (by omega);simp[zz,ato,hab];exact e1
theorem anM{a b:Cf St}(ha:a.2.kids.length≤3)(hb:b.2.kids.length≤3):TN C qd [.agg (eC a),.agg (eC b)] (fun o=>∃v,o=.ret (.bool v)∧(v=true↔(a.1<b.1∨a.1=b.1∧ig a.2 b.2<0))):=by
 intro h nx;have s1:=kTSu nx;have s2:=kTSu nx.succ;have rE:=S.r ub;have ac1:=bA a.2.kids;have ac2:=bA b.2.kids;have af1:∀n H,aN n (aK a.2.kids) H=(aK a.2.kids,H):=dn _;have af2:∀n H,aN n (aK b.2.kids) H=(aK b.2.kids,H):=dn _;refine S.Kz.call ?_;simp[I3];simp[Ir,eC,ac1.1,ac2.1];have e1:=(E0 h nx (.cells (eC a) .fix)).trans (E0 _ nx.succ (.cells (eC b) .fix));simp[eC]at e1;obtain⟨a1,a2⟩:=a;obtain⟨b1,b2⟩:=b;by_cases bY:a1<b1
 ·have atp:(a1:Int)<b1:=by omega
  simp[sT,atp];exact⟨by simp[bY],e1⟩
 ·have atp:¬(a1:Int)<b1:=by omega
  by_cases hab:a1=b1
  ·subst hab;simp[sT,rE,af1,af2];refine aH.known (S.s_ref10_Compare a2 b2 ha hb _ _) ?_;simp;exact⟨by omega,e1⟩
  ·have ato:((a1:Int)==b1)=false:=bq (by omega);simp[sT,atp,ato,hab];exact⟨by omega,e1⟩
end Ln
namespace Ln
open Go.Sx Go
def VM(s:St):Bool:=decide ((s.k=0∧s.kids=[]∨s.k=1∧(s.n=0∨s.n=1)∧s.kids=[])∨s.k=2∧s.n=0∧s.kids.all oi=true)
noncomputable def kl(l:List (Cf St)):List (Cf St):=l.mergeSort (fun a b=>decide (a.1<b.1∨a.1=b.1∧ig a.2 b.2≤0))
structure Mk(C:bK):Prop where
 Hx:Fn C mT EW
 Cz:Fn C jM zc
 tp:Fn C bz nU
 tq:Fn C fi nV
 qG:Fn C dj mJ
 tu:Fn C dO nW
 uX:Fn C de pP
 wo:Fn C eK lM
 xU:Fn C cD tL
 wq:Fn C gf ra
 wK:Fn C eL lN
 Kd:Fn C pE IN
 PS:Fn C wX PT
 HH:Fn C im Ff
 lR:Fn C c9 wQ
 PU:Fn C fy PV
 Wt:∀s:St,s.kids.length≤3→∀h nx,C.sum dq [.agg (eS s)] h nx=some (I (if VM s=true then 0 else 1),h,nx)
 ah2:∀(l:List (Cf St)) (b:Key) (h:T ah) (nx:Key),(∀y∈l,y.2.kids.length≤3)→l.Nodup→l.length≤1024→ae b h=Vv (ag eC l)→C.sum bV [.slice b 0 l.length 5,.fn eN [] []] h nx=some (.tuple [],av b (Vv (ag eC (kl l))) h,nx)
def zzV:AV:=.str 2 31354
end Ln
namespace Ln
open Go.Sx Go Go.Proofs
def Qu(b:Nat)(t:DT):DT:=.ask .eql (.var b) (.lit 0) t (.ask .eql (.var b) (.lit 1) (.ask .eql (.var (b+1)) (.lit 0) t (.ask .eql (.var (b+1)) (.lit 1) t (.leaf (I 1)))) (.ask .eql (.var b) (.lit 2) (.ask .eql (.var (b+1)) (.lit 0) t (.leaf (I 1))) (.leaf (I 1))))
def aw7:Nat→Nat→DT→DT
 |0,_,t=>t
 |n+1,b,t=>Qu b (aw7 n (b+2) t)
def aw8:Nat→DT
 |0=>Qu 0 (.leaf (I 0))
 |n+1=>.ask .eql (.var 0) (.lit 2) (.ask .eql (.var 1) (.lit 0) (aw7 (n+1) 2 (.leaf (I 0))) (.leaf (I 1))) (.leaf (I 1))
theorem Cq{ρ:Nat→Int}{b:Nat}{t:DT}{u:U}(h0:ρ b=u.k)(h1:ρ (b+1)=u.n):(Qu b t).val ρ=if oi u=true then t.val ρ else I 1:=by
 obtain⟨k,n⟩:=u;have d0:(SI.var b).den ρ=k:=h0;have d1:(SI.var (b+1)).den ρ=n:=h1;have dl:∀z:Int,(SI.lit z).den ρ=z:=fun _=>rfl;unfold Qu;simp only[DT.val,AS,d0,d1,dl];by_cases h0:k=0
 ·simp[h0,oi]
 ·by_cases h1:k=1
  ·by_cases n0:n=0
   ·simp[h1,n0,oi]
   ·by_cases n1:n=1
    ·simp[h1,n1,oi]
    ·simp[h1,n0,n1,oi];rfl
  ·by_cases h2:k=2
   ·by_cases n0:n=0
    ·simp[h2,n0,oi]
    ·simp[h2,n0,oi];rfl
   ·simp[h0,h1,h2,oi];rfl
theorem anc(ρ:Nat→Int):(DT.leaf (I 0)).val ρ=I 0:=rfl
theorem ajU{s:St}(hs:s.kids.length≤3):(aw8 s.kids.length).val (vw s s)=I (if VM s=true then 0 else 1):=by
 obtain⟨k,n,l⟩:=s;have dl:∀(ρ:Nat→Int) (z:Int),(SI.lit z).den ρ=z:=fun _ _=>rfl
 match l,hs with
 | [],_=>
  show(Qu 0 (.leaf (I 0))).val _=_;rw[Cq (u:=⟨k,n⟩) rfl rfl,anc];by_cases h:oi ⟨k,n⟩=true
  ·have h2:=h;unfold oi at h;rw[decide_eq_true_eq]at h;have:VM ⟨k,n,[]⟩=true:=by
    unfold VM;rw[decide_eq_true_eq];rcases h with h|h|h
    ·exact .inl (.inl ⟨h,rfl⟩)
    ·exact .inl (.inr ⟨h.1,h.2,rfl⟩)
    ·exact .inr ⟨h.1,h.2,rfl⟩
   rw[if_pos h2,if_pos this]
  ·have:¬VM ⟨k,n,[]⟩=true:=by
    intro q;apply h;unfold VM at q;unfold oi;rw[decide_eq_true_eq]at q ⊢;rcases q with(q|q)|q
    ·exact .inl q.1
    ·exact .inr (.inl ⟨q.1,q.2.1⟩)
    ·exact .inr (.inr ⟨q.1,q.2.1⟩)
   rw[if_neg h,if_neg this]
 | [⟨a,b⟩],_=>
  have d0:(SI.var 0).den (vw ⟨k,n,[⟨a,b⟩]⟩ ⟨k,n,[⟨a,b⟩]⟩)=k:=rfl;have d1:(SI.var 1).den (vw ⟨k,n,[⟨a,b⟩]⟩ ⟨k,n,[⟨a,b⟩]⟩)=n:=rfl;show(DT.ask .eql (.var 0) (.lit 2) (.ask .eql (.var 1) (.lit 0) (Qu 2 (.leaf (I 0))) (.leaf (I 1))) (.leaf (I 1))).val _=_;simp only[DT.val,AS,d0,d1,dl];rw[Cq (b:=2) (u:=⟨a,b⟩) rfl rfl];unfold VM;by_cases h2:k=2
  ·by_cases n0:n=0
   ·by_cases q0:oi ⟨a,b⟩=true
    ·simp[h2,n0,q0,DT.val]<;>rfl
    ·simp[h2,n0,q0]<;>rfl
   ·simp[h2,n0]<;>rfl
  ·simp[h2]<;>rfl
 | [⟨a,b⟩,⟨c,d⟩],_=>
  have d0:(SI.var 0).den (vw ⟨k,n,[⟨a,b⟩,⟨c,d⟩]⟩ ⟨k,n,[⟨a,b⟩,⟨c,d⟩]⟩)=k:=rfl;have d1:(SI.var 1).den (vw ⟨k,n,[⟨a,b⟩,⟨c,d⟩]⟩ ⟨k,n,[⟨a,b⟩,⟨c,d⟩]⟩)=n:=rfl;show(DT.ask .eql (.var 0) (.lit 2) (.ask .eql (.var 1) (.lit 0) (Qu 2 (Qu 4 (.leaf (I 0)))) (.leaf (I 1))) (.leaf (I 1))).val _=_;simp only[DT.val,AS,d0,d1,dl];rw[Cq (b:=2) (u:=⟨a,b⟩) rfl rfl,Cq (b:=4) (u:=⟨c,d⟩) rfl rfl];unfold VM;by_cases h2:k=2
  ·by_cases n0:n=0
   ·by_cases q0:oi ⟨a,b⟩=true
    ·by_cases q1:oi ⟨c,d⟩=true
     ·simp[h2,n0,q0,q1,DT.val]<;>rfl
     ·simp[h2,n0,q0,q1]<;>rfl
    ·simp[h2,n0,q0]<;>rfl
   ·simp[h2,n0]<;>rfl
  ·simp[h2]<;>rfl
 | [⟨a,b⟩,⟨c,d⟩,⟨e,f⟩],_=>
  have d0:(SI.var 0).den (vw ⟨k,n,[⟨a,b⟩,⟨c,d⟩,⟨e,f⟩]⟩ ⟨k,n,[⟨a,b⟩,⟨c,d⟩,⟨e,f⟩]⟩)=k:=rfl;have d1:(SI.var 1).den (vw ⟨k,n,[⟨a,b⟩,⟨c,d⟩,⟨e,f⟩]⟩ ⟨k,n,[⟨a,b⟩,⟨c,d⟩,⟨e,f⟩]⟩)=n:=rfl;show(DT.ask .eql (.var 0) (.lit 2) (.ask .eql (.var 1) (.lit 0) (Qu 2 (Qu 4 (Qu 6 (.leaf (I 0))))) (.leaf (I 1))) (.leaf (I 1))).val _=_;simp only[DT.val,AS,d0,d1,dl];rw[Cq (b:=2) (u:=⟨a,b⟩) rfl rfl,Cq (b:=4) (u:=⟨c,d⟩) rfl rfl,Cq (b:=6) (u:=⟨e,f⟩) rfl rfl];unfold VM;by_cases h2:k=2
  ·by_cases n0:n=0
   ·by_cases q0:oi ⟨a,b⟩=true
    ·by_cases q1:oi ⟨c,d⟩=true
     ·by_cases q2:oi ⟨e,f⟩=true
      ·simp[h2,n0,q0,q1,q2,DT.val]<;>rfl
      ·simp[h2,n0,q0,q1,q2]<;>rfl
     ·simp[h2,n0,q0,q1]<;>rfl
    ·simp[h2,n0,q0]<;>rfl
   ·simp[h2,n0]<;>rfl
  ·simp[h2]<;>rfl
 |_ ::_ ::_ ::_ ::l,h=>exact absurd h (by simp)
def adZ:Nat→aV
 |0=>ad0
 |1=>ad1
 |2=>ad2
 |_=>ad3
theorem ane{n:Nat}(h:S4 n):aV.dY (CF aY) 159 (adZ n) ⟨an 159 (fx 159) [stS 0 n],[],.nil,bD⟩ [] []=true:=by
 cases h
 ·exact afF
 ·exact afG
 ·exact afH
 ·exact afI
theorem anf{n:Nat}(h:S4 n):DT.same (adZ n).dt (aw8 n) []=true:=by cases h<;>kernel_rfl
def GF:Gl:=⟨159,QK,fun q=>[.agg (eS q.s)],fun q=>I (if VM q.s=true then 0 else 1),by intro q p h;simp only[List.cons.injEq,and_true]at h;rw[Ez h]⟩
theorem U4:jI Tryz.prog .nil GF:=by
 refine⟨⟨_,iL (n:=159) (by decide)⟩,fun q=>?_⟩;have h1:=M6 q.hs;have h:=fG (f:=159) (by decide) (apf h1) (ane h1) (vw q.s q.s);rw[DT.BG (ρ:=vw q.s q.s) (anf h1) trivial,ajU q.hs]at h;have e:AV.gT (vw q.s q.s) [stS 0 q.s.kids.length]=[.agg (eS q.s)]:=by show [_]=_;rw[sub_one q.hs]
 rw[e]at h;exact h
theorem awV(u:U):VM ⟨u.k,u.n,[]⟩=oi u:=by
 rw[Bool.eq_iff_iff];unfold VM oi;rw[decide_eq_true_eq,decide_eq_true_eq];constructor
 ·rintro((q|q)|q)
  ·exact .inl q.1
  ·exact .inr (.inl ⟨q.1,q.2.1⟩)
  ·exact .inr (.inr ⟨q.1,q.2.1⟩)
 ·rintro(h|h|h)
  ·exact .inl (.inl ⟨h,rfl⟩)
  ·exact .inl (.inr ⟨h.1,h.2,rfl⟩)
  ·exact .inr ⟨h.1,h.2,rfl⟩
structure QJ where
 i:Nat
 lt:i<4
def nmZ:Nat→AV
 |3=>zzV
 |i=>fE i
def axa:Nat→AV
 |3=>.tuple [.agg apN,.bool false]
 |i=>.tuple [.agg (GI i),.bool true]
theorem ad4:∀{i j:Nat},i<4→j<4→nmZ i=nmZ j→i=j:=by
 intro i j hi hj h;have RO:i=0∨i=1∨i=2∨i=3:=by omega
 have hj':j=0∨j=1∨j=2∨j=3:=by omega
 rcases RO with rfl|rfl|rfl|rfl<;>rcases hj' with rfl|rfl|rfl|rfl<;>first|rfl|(exfalso;simp[nmZ,zzV,fE,ahj]at h)
def FL:Gl:=⟨129,QJ,fun q=>[vM,I 4,nmZ q.i],fun q=>axa q.i,by intro q p h;simp only[List.cons.injEq,true_and,and_true]at h;rw[ad4 q.lt p.lt h]⟩
theorem Ql:jI Tryz.prog .nil FL:=by
 refine⟨⟨_,iL (n:=129) (by decide)⟩,fun q=>?_⟩;obtain⟨i,hi⟩:=q;have h:=ON
 match i,hi with
 |0,_=>exact h.1
 |1,_=>exact h.2.1
 |2,_=>exact h.2.2.1
 |3,_=>exact h.2.2.2.1
def I6:Gl:=⟨71,QJ,fun q=>[vM,I 4,nmZ q.i],fun q=>axa q.i,by intro q p h;simp only[List.cons.injEq,true_and,and_true]at h;rw[ad4 q.lt p.lt h]⟩
theorem R9:jI Tryz.prog .nil I6:=by
 refine⟨⟨_,iL (n:=71) (by decide)⟩,fun q=>?_⟩;obtain⟨i,hi⟩:=q;have h:=acw
 match i,hi with
 |0,_=>exact h.1
 |1,_=>exact h.2.1
 |2,_=>exact h.2.2.1
 |3,_=>exact h.2.2.2.1
def OH(w:Int):Int:=if w≤0 then 15 else 0
structure QW where
 k:Int
 n:Int
 w:Int
structure QV where
 q:QW
 r:U
def QW.s(q:QW):St:=⟨q.k,q.n,[]⟩
def Zg(w:Int):AV:=.agg [I w,I 9]
def QW.args(q:QW):List AV:=[vM,fE 2,.str 4 1684104562,.agg (eS q.s),.nils,Zg q.w]
def QV.args(q:QV):List AV:=[vM,fE 2,.str 4 1684104562,.agg (eS q.q.s),.nils,.agg (eU q.r),Zg q.q.w]
theorem OI{a b:Int}(h:Zg a=Zg b):a=b:=by simpa[Zg]using h
theorem QW.inj{q p:QW}(h:q.args=p.args):q.s=p.s∧q.w=p.w:=by simp only[QW.args,List.cons.injEq,true_and,and_true]at h;exact⟨Ez h.1,OI h.2⟩
theorem QV.inj{q p:QV}(h:q.args=p.args):q.q.s=p.q.s∧q.r=p.r∧q.q.w=p.q.w:=by simp only[QV.args,List.cons.injEq,true_and,and_true]at h;exact⟨Ez h.1,TU h.2.1,OI h.2.2⟩
theorem agA(ρ:Nat→Int)(a b:SI):holds ρ .geq a b=decide (b.den ρ≤a.den ρ):=by unfold holds;simp only[fF]
def wT(a b:DT):DT:=.ask .gtr (.lit 0) (.var 12) a (.ask .lss (.lit 1048576) (.var 12) b (.ask .geq (.lit 0) (.var 12) a b))
theorem Zh{ρ:Nat→Int}{w:Int}(hw:ρ 12=w)(a b:DT):(wT a b).val ρ=if w≤0 then a.val ρ else b.val ρ:=by
 have d12:(SI.var 12).den ρ=w:=hw;have dl:∀z:Int,(SI.lit z).den ρ=z:=fun _=>rfl;unfold wT;simp only[DT.val,VS,VT,agA,d12,dl];by_cases h:w≤0
 ·rw[if_pos h];by_cases h1:w<0
  ·simp[h1]
  ·have h2:¬1048576<w:=by omega
   simp[h1,h2,h]
 ·rw[if_neg h];have h1:¬w<0:=by omega
  by_cases h2:1048576<w
  ·simp[h1,h2]
  ·simp[h1,h2,h]
theorem ali(ρ:Nat→Int)(op:BinOp)(a b:SI)(t:DT):(DT.ask op a b t t).val ρ=t.val ρ:=by simp only[DT.val];cases holds ρ op a b<;>rfl
theorem apJ{ρ:Nat→Int}{w:Int}(hw:ρ 12=w)(a b:DT):(DT.ask .gtr (.lit 0) (.var 12) a (.ask .lss (.lit 1048576) (.var 12) (.ask .eql (.var 0) (.lit 2) b b) (.ask .geq (.lit 0) (.var 12) a (.ask .eql (.var 0) (.lit 2) b b)))).val ρ=if w≤0 then a.val ρ else b.val ρ:=by have:=Zh hw a (.ask .eql (.var 0) (.lit 2) b b);unfold wT at this;rw[this,ali]
theorem agB(s:St)(bs:List U)(r:U)(w:Int):oY s bs r w 12=w:=rfl
theorem Zi(w:Int)(a b:AV):(if w≤0 then AV.tuple [a,I 15]else AV.tuple [b,I 0])=.tuple [if w≤0 then a else b,I (OH w)]:=by
 unfold OH;by_cases h:w≤0
 ·simp only[if_pos h]
 ·simp only[if_neg h]
def Jt:AV:=.agg (eS ⟨0,0,[]⟩)
theorem VU(w:Int):AV.gT (oY ⟨0,0,[]⟩ [] z0 w) EA=[vM,fE 2,Zg w]:=by have e1:=sX (ρ:=oY ⟨0,0,[]⟩ [] z0 w) vM BE;show [_,_,_]=_;rw[e1];rfl
theorem acr(q:QW):AV.gT (oY q.s [] z0 q.w) Ju=q.args:=by have e1:=sX (ρ:=oY q.s [] z0 q.w) vM BE;show [_,_,_,_,_,_]=_;rw[e1];rfl
theorem VV(q:QV):AV.gT (oY q.q.s [] q.r q.q.w) EB=q.args:=by have e1:=sX (ρ:=oY q.q.s [] q.r q.q.w) vM BE;show [_,_,_,_,_,_,_]=_;rw[e1];rfl
def agC(f:Nat):Gl:=⟨f,Int,fun w=>[vM,fE 2,Zg w],fun w=>.tuple [Jt,I (OH w)],by intro q p h;simp only[List.cons.injEq,true_and,and_true]at h;rw[OI h]⟩
def anZ(f:Nat):Gl:=⟨f,QW,QW.args,fun q=>.tuple [.bool (decide (0<q.w)),I (OH q.w)],by intro q p h;rw[(QW.inj h).2]⟩
def agD(f:Nat):Gl:=⟨f,QV,QV.args,fun q=>.tuple [.agg (eS (if q.q.w≤0 then⟨0,0,[]⟩else q.q.s)),I (OH q.q.w)],by intro q p h;obtain⟨h1,h2,h3⟩:=QV.inj h;rw[h1,h3]⟩
theorem an0{w:Int}{d:DT}(hd:d=wT (.leaf (.tuple [Jt,I 15])) (.leaf (.tuple [Jt,I 0]))):d.val (oY ⟨0,0,[]⟩ [] z0 w)=.tuple [Jt,I (OH w)]:=by rw[hd,Zh (agB _ _ _ w)];have:=Zi w Jt Jt;simp only[ite_self]at this;exact this
theorem an1{q:QW}{d:DT}(hd:d=wT (.leaf (.tuple [.bool false,I 15])) (.leaf (.tuple [.bool true,I 0]))):d.val (oY q.s [] z0 q.w)=.tuple [.bool (decide (0<q.w)),I (OH q.w)]:=by
 rw[hd,Zh (agB _ _ _ q.w)];refine(Zi q.w (.bool false) (.bool true)).trans ?_;by_cases h:q.w≤0
 ·have h2:¬0<q.w:=by omega
  simp[h,h2]
 ·have h2:0<q.w:=by omega
  simp[h,h2]
theorem agE{q:QV}{d:DT}(hd:d=DT.ask .gtr (.lit 0) (.var 12) (.leaf (.tuple [Jt,I 15])) (.ask .lss (.lit 1048576) (.var 12) (.ask .eql (.var 0) (.lit 2) (.leaf (.tuple [.agg (uS 0),I 0])) (.leaf (.tuple [.agg (uS 0),I 0]))) (.ask .geq (.lit 0) (.var 12) (.leaf (.tuple [Jt,I 15])) (.ask .eql (.var 0) (.lit 2) (.leaf (.tuple [.agg (uS 0),I 0])) (.leaf (.tuple [.agg (uS 0),I 0])))))):d.val (oY q.q.s [] q.r q.q.w)=.tuple [.agg (eS (if q.q.w≤0 then⟨0,0,[]⟩else q.q.s)),I (OH q.q.w)]:=by
 rw[hd,apJ (agB _ _ _ q.q.w)];have e:(DT.leaf (.tuple [.agg (uS 0),I 0])).val (oY q.q.s [] q.r q.q.w)=.tuple [.agg (eS q.q.s),I 0]:=rfl;rw[e];refine(Zi q.q.w Jt (.agg (eS q.q.s))).trans ?_;by_cases h:q.q.w≤0
 ·simp only[if_pos h];rfl
 ·simp only[if_neg h]
def Lb:Gl:=agC 132
theorem TV:jI Tryz.prog .nil Lb:=by refine⟨⟨_,iL (n:=132) (by decide)⟩,fun(w:Int)=>?_⟩;have hv:=Jv;have h:=fG (f:=132) (l:=EA) (d:=Zj) (by decide) (by simp only[EA,AV.Ec,hv];rfl) agF (oY ⟨0,0,[]⟩ [] z0 w);rw[VU,an0 (d:=Zj.dt) rfl]at h;exact h
def Lc:Gl:=agC 73
theorem TW:jI Tryz.prog .nil Lc:=by refine⟨⟨_,iL (n:=73) (by decide)⟩,fun(w:Int)=>?_⟩;have hv:=Jv;have h:=fG (f:=73) (l:=Jw) (d:=Zk) (by decide) (by simp only[Jw,AV.Ec,hv];rfl) agG (oY ⟨0,0,[]⟩ [] z0 w);rw[show Jw=EA from rfl,VU,an0 (d:=Zk.dt) rfl]at h;exact h
def OJ:Gl:=anZ 149
theorem VW:jI Tryz.prog .nil OJ:=by refine⟨⟨_,iL (n:=149) (by decide)⟩,fun(q:QW)=>?_⟩;have hv:=Jv;have h:=fG (f:=149) (l:=Ju) (d:=agH) (by decide) (by simp only[Ju,AV.Ec,hv];rfl) alj (oY q.s [] z0 q.w);rw[acr,an1 (d:=agH.dt) rfl]at h;exact h
def OK:Gl:=anZ 154
theorem VX:jI Tryz.prog .nil OK:=by refine⟨⟨_,iL (n:=154) (by decide)⟩,fun(q:QW)=>?_⟩;have hv:=Jv;have h:=fG (f:=154) (l:=Oh) (d:=agI) (by decide) (by simp only[Oh,AV.Ec,hv];rfl) alk (oY q.s [] z0 q.w);rw[show Oh=Ju from rfl,acr,an1 (d:=agI.dt) rfl]at h;exact h
def Ld:Gl:=agD 151
theorem TX:jI Tryz.prog .nil Ld:=by refine⟨⟨_,iL (n:=151) (by decide)⟩,fun(q:QV)=>?_⟩;have hv:=Jv;have h:=fG (f:=151) (l:=EB) (d:=Zl) (by decide) (by simp only[EB,AV.Ec,hv];rfl) agJ (oY q.q.s [] q.r q.q.w);rw[VV,agE (d:=Zl.dt) rfl]at h;exact h
def Le:Gl:=agD 156
theorem TY:jI Tryz.prog .nil Le:=by refine⟨⟨_,iL (n:=156) (by decide)⟩,fun(q:QV)=>?_⟩;have hv:=Jv;have h:=fG (f:=156) (l:=Jx) (d:=Zm) (by decide) (by simp only[Jx,AV.Ec,hv];rfl) agK (oY q.q.s [] q.r q.q.w);rw[show Jx=EB from rfl,VV,agE (d:=Zm.dt) rfl]at h;exact h
def K1(w:Int):Kn:={K0 with
 lf:=w
 lb:=9
 TZ:=OH w
 OL:=fun _ _ _=>decide (0<w)
 OM:=fun _ _ _=>OH w
 qB:=fun _ s _ _=>if w≤0 then⟨0,0,[]⟩else s
 we:=fun _ _ _ _=>OH w}
theorem an2(w:Int):(K1 w).Ok:=by
 refine au2 rfl rfl fun c o s t ho hs ha h=>?_;have hn:(K1 w).qB c s o.args o.res=if w≤0 then⟨0,0,[]⟩else s:=rfl
 unfold Kn.take at h;split at h
 ·cases h
 ·split at h
  ·cases h
  ·split at h
   ·cases h
   ·cases h;rw[hn];split
    ·exact Nat.zero_le _
    ·exact hs
theorem apK(w:Int):AV.beq (K1 w).m (K1 w).m=true:=apL
end Ln
