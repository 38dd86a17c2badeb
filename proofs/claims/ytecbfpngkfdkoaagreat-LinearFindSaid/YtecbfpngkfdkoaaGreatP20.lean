/- A part of the proof. No condition. -/
import Derived.Test.YtecbfpngkfdkoaaGreatP19
import Derived.Test.YtecbfpngkfdkoaaGreatP6
import Derived.Test.YtecbfpngkfdkoaaGreatP9
import Derived.Test.YtecbfpngkfdkoaaGreatP17
import Derived.Test.YtecbfpngkfdkoaaGreatP18
set_option linter.unusedSimpArgs false
set_option linter.unusedVariables false
set_option linter.unusedSectionVars false
namespace Ln
open Go.Sx Go
def mh(i:Nat)(l:List Ev):Int:=if bu [] l=0 then lY i (cT 0 l)else gp (bu [] l)
def jE(os:List Op):Nat→Nat
 |0=>0
 |j+1=>if 0≤(os.getD j default).e then jE os j ||| 2^j else jE os j
theorem ZM(os:List Op):∀j,jE os j<2^j
 |0=>by simp[jE]
 |j+1=>by
  have h:=ZM os j;have h2:2^j<2^(j+1):=Nat.pow_lt_pow_right (by omega) (by omega);unfold jE;split
  ·exact Nat.or_lt_two_pow (by omega) h2
  ·omega
theorem lC{j:Nat}(h:j≤16):2^j≤65536:=Nat.pow_le_pow_right (n:=2) (by omega) h
theorem uO{n:Nat}(h:n≤65536):Ta .i64 (n:Int)=n:=by unfold Ta full;show Int.toNat (Int.emod (n:Int) 18446744073709551616)=n;have:Int.emod (n:Int) 18446744073709551616=(n:Int):=Int.emod_eq_of_lt (by omega) (by omega);rw[this];rfl
def jB(X:Kn)(i:Nat)(cO:AV)(s:St)(e:Nat):List AV:=[.sl X.rows 7 45 .any,ft i,cO,I 200,I 50,I 0,I s.k,I s.n,.str 0 0,aL s.kids,I e]
variable{C:bQ}{X:Kn}(S:Std C X)
include S
structure BgA(X:Kn)(i:Nat)(os:List Op)(cO:AV)(bm bl bd bj n0:Key)(e:Nat)(tm:T AV)(h:T ah)(nx:Key):Prop where
 g1:ae (K 1) tm=some (ft i)
 g4:ae (K 4) tm=some (.ptr bm 0)
 g7:ae (K 7) tm=some (.ptr bl 0)
 g10:ae (K 10) tm=some cO
 g12:ae (K 12) tm=some (.ptr bd 0)
 g14:ae (K 14) tm=some (.ptr bj 0)
 m:ae bm h=some (.cells [.sl X.rows 7 45 .any] .fix)
 l:ae bl h=some (.cells [I 200,I 50] .fix)
 d:ae bd h=some (.cells (X.dec i) .fix)
 j:ae bj h=some (.cells (jB X i cO ⟨0,0,[]⟩ e) .fix)
 lt:bm.toNat<nx.toNat∧bl.toNat<nx.toNat∧bd.toNat<nx.toNat∧bj.toNat<nx.toNat
 ge:n0.toNat≤bj.toNat
 ne:bm≠bj∧bl≠bj∧bd≠bj
def BgL(X:Kn)(i:Nat)(os:List Op)(cO:AV)(bm bl bd bj n0:Key)(h:T ah)(m:Nat)(ay:T AV)(h':T ah)(nx':Key):Prop:=∃j:Nat,m=os.length-j∧j≤os.length∧ae (K 41) ay=some cO∧ae (K 42) ay=some (I os.length)∧ae (K 43) ay=some (I j)∧BgA X i os cO bm bl bd bj n0 (jE os j) ay h' nx'∧Ext h n0 h' nx'∧lY i os=lY i (os.drop j)
theorem aqf{i:Nat}(hi:i<3){os:List Op}(ho:os.length≤16){cO:AV}(hc:gI 10 eO cO os){bm bl bd bj n0:Key}{h:T ah}{Q:dh}{m:Nat}{tm:T AV}{h1:T ah}{bS:Key}(A:BgL X i os cO bm bl bd bj n0 h m tm h1 bS)
  (HE:∀ay h' nx',ae (K 8) ay=some .nilp→ae (K 9) ay=some (I (lY i os))→lY i os≠0→Ext h n0 h' nx'→Q .ret ay h' nx')
  (fy:∀ay h' nx',BgA X i os cO bm bl bd bj n0 (jE os os.length) ay h' nx'→Ext h n0 h' nx'→lY i os=0→Q .norm ay h' nx') :
  W C (.loop qG) (aC 0 Q) tm h1 bS:=by
 have ri:C.raw cd=false:=S.nr (by decide);have d45:=S.ok.acf i hi;have d36:=S.ok.aot i hi;have DF:∀hh,(X.dec i)[36]'hh=aoS X i:=fun hh=>by have q:=yT hh;rw[d36]at q;exact(Option.some.inj q).symm
 refine W.dy (BgL X i os cO bm bl bd bj n0 h) A ?_;rintro m ef h2 aN ⟨j,rfl,hj,g41,g42,g43,B,e2,tC⟩;obtain⟨g1,g4,g7,g10,g12,g14,NK,bl2,bd2,Yn,lt,ge,ne⟩:=B;refine W.of ?_;simp[qG];by_cases bW:j<os.length
 ·have v7:(j:Int)<os.length:=by omega
  have E9:cO=.sl (ag eO os) os.length 10 .any:=by
   rcases hc with⟨_,rfl⟩|e
   ·simp at bW
   ·exact e
  have aDt:=g41;rw[E9]at aDt;have ec:=fP.at bW;have hr:=fP.rows os;have tx:10≤os.length*10-j*10:=by omega
  have s2:=kTSu aN;have WT:(eO os[j]).all AV.aT=true:=wG.2 (fP.cell _);rw[zqt bW]at tC;have hbg:lY i (os[j] ::os.drop (j+1))=match nv i os[j].name with|none=>6|some c=>if os[j].args.length=c.ar then lY i (os.drop (j+1))else 1:=rfl
  rw[hbg]at tC;have hgd:os.getD j default=os[j]:=by rw[List.getD_eq_getElem?_getD,yT bW];rfl
  have heb:jE os (j+1)=if 0≤os[j].e then jE os j ||| 2^j else jE os j:=by rw[←hgd];rfl
  have elt:=ZM os j;have p16:=lC (j:=j) (by omega);generalize os[j]=o at *;simp[xH,g42,g43,v7];simp[EG,aDt,g43,bW,hr,tx,ec,ZE,QS,WT];have e3:=E0 h2 aN (.cells (eO o) .fix);have gb3:ae aN (aw aN (some (.cells (eO o) .fix)) h2)=some (.cells (eO o) .fix):=by simp
  have bd3:ae bd (aw aN (some (.cells (eO o) .fix)) h2)=some (.cells (X.dec i) .fix):=by rw[e3.g bd lt.2.2.1];exact bd2
  generalize hH:aw aN (some (.cells (eO o) .fix)) h2=h3 at *;simp[EH,g12,bd3,DF,d45,ri];refine(aoT S hi o gb3 (by omega)).mono ?_;rintro out h4 jZ ⟨rfl,e4⟩;simp;have gb4:ae aN h4=some (.cells (eO o) .fix):=by rw[e4.g aN (by omega)];exact gb3
  have ZD:=e3.trans e4;have bm4:ae bm h4=some (.cells [.sl X.rows 7 45 .any] .fix):=by rw[ZD.g bm lt.1];exact NK
  have bl4:ae bl h4=some (.cells [I 200,I 50] .fix):=by rw[ZD.g bl lt.2.1];exact bl2
  have bd4:ae bd h4=some (.cells (X.dec i) .fix):=by rw[ZD.g bd lt.2.2.1];exact bd2
  have bj4:ae bj h4=some (.cells (jB X i cO ⟨0,0,[]⟩ (jE os j)) .fix):=by rw[ZD.g bj lt.2.2.2];exact Yn
  have n24:=ZD.n;have hix:(∃(t:Nat) (ht:t<(aK i).length),GL i o.name=t∧nv i o.name=some (aK i)[t])∨(GL i o.name=-1∧nv i o.name=none):=by
   unfold GL nv;cases hf:(aK i).findIdx? (fun c=>c.name==o.name)with
   |none=>rw[List.findIdx?_eq_none_iff]at hf;exact .inr ⟨rfl,List.find?_eq_none.2 (fun c hc=>by simpa using hf c hc)⟩
   |some t=>rw[List.findIdx?_eq_some_iff_getElem]at hf;obtain⟨ht,h1,h2⟩:=hf;refine .inl ⟨t,ht,rfl,?_⟩;rw[List.find?_eq_some_iff_getElem];exact⟨h1,t,ht,rfl,fun s hs=>by simpa using h2 s hs⟩
  have next:∀(aJ:T AV) (h5:T ah),(∀k:Key,k=K 1∨k=K 4∨k=K 7∨k=K 10∨k=K 12∨k=K 14∨k=K 41∨k=K 42∨k=K 43→ae k aJ=ae k ef)→ae bj h5=some (.cells (jB X i cO ⟨0,0,[]⟩ (jE os (j+1))) .fix)→(∀k:Key,k≠bj→ae k h5=ae k h4)→lY i os=lY i (os.drop (j+1))→
    lA C (aQ (fun tm h' nx'=>∃m,m<os.length-j∧BgL X i os cO bm bl bd bj n0 h m tm h' nx') (aC 0 Q)) kx aJ h5 jZ:=by
   intro aJ h5 q qj qk qe;have q43:=(q (K 43) (by simp)).trans g43;simp[kx,q43];rw[aB (by omega) (by omega)];refine⟨os.length-(j+1),by omega,j+1,rfl,by omega,?_,?_,by simp,⟨?_,?_,?_,?_,?_,?_,by rw[qk bm ne.1];exact bm4,by rw[qk bl ne.2.1];exact bl4,by rw[qk bd ne.2.2];exact bd4,qj,by omega,ge,ne⟩,?_,qe⟩
   ·simp;exact(q (K 41) (by simp)).trans g41
   ·simp;exact(q (K 42) (by simp)).trans g42
   ·simp;exact(q (K 1) (by simp)).trans g1
   ·simp;exact(q (K 4) (by simp)).trans g4
   ·simp;exact(q (K 7) (by simp)).trans g7
   ·simp;exact(q (K 10) (by simp)).trans g10
   ·simp;exact(q (K 12) (by simp)).trans g12
   ·simp;exact(q (K 14) (by simp)).trans g14
   ·exact⟨by have:=e2.n;omega,fun b hb=>by rw[qk b (fun e=>by subst e;omega),ZD.g b (by have:=e2.n;omega)];exact e2.g b hb⟩
  have atL:Ext h n0 h4 jZ:=e2.trans ZD;rcases hix with⟨t,ht,hx,hc'⟩|⟨hx,hc'⟩
  ·have h1:=S.ok.aBH i hi t _ (yT ht);have ecr:=Ti S ht;have hlr:=Tj S (i:=i);have hl:=(S.ok.Xa i).len t;have t23:23≤(aK i).length*23-t*23:=by omega
   rw[hc']at tC;simp only at tC;have hx0:¬(t:Int)<0:=by omega
   generalize (aK i)[t]=c at *;obtain⟨d,hd,hD⟩:=h1;have MC:∀hh,(X.cmd i t)[1]'hh=d:=fun hh=>by have q:=yT hh;rw[hd]at q;exact(Option.some.inj q).symm
   simp[vB,hx,hx0];have hA:(aL o.args=.nils∧o.args.length=0)∨∃l,aL o.args=.sl l o.args.length 4 .any:=by
    cases o.args with
    |nil=>exact .inl ⟨rfl,rfl⟩
    |cons a t=>exact .inr ⟨_,rfl⟩
   have rest:∀aJ:T AV,(∀k:Key,k=K 1∨k=K 4∨k=K 7∨k=K 10∨k=K 12∨k=K 14∨k=K 15∨k=K 16∨k=K 41∨k=K 42∨k=K 43→ae k aJ=ae k (aw (K 15) (some (I j)) (aw (K 16) (some (.ptr aN 0)) ef)))→o.args.length=c.ar→
     lA C (aQ (gn C (.cond (.t (K 67)) (.staged vC ⟨[K 68,K 69,K 70,K 71,K 72,K 73,K 74,K 75,K 76],[]⟩) .skip) (aC 1 (aQ (gn C (.ops kx) (aQ (fun tm h' nx'=>∃m,m<os.length-j∧BgL X i os cO bm bl bd bj n0 h m tm h' nx') (aC 0 Q))) (aQ (fun tm h' nx'=>∃m,m<os.length-j∧BgL X i os cO bm bl bd bj n0 h m tm h' nx') (aC 0 Q))))) (aC 1 (aQ (gn C (.ops kx) (aQ (fun tm h' nx'=>∃m,m<os.length-j∧BgL X i os cO bm bl bd bj n0 h m tm h' nx') (aC 0 Q))) (aQ (fun tm h' nx'=>∃m,m<os.length-j∧BgL X i os cO bm bl bd bj n0 h m tm h' nx') (aC 0 Q))))) pj aJ h4 jZ:=by
    intro aJ q hlen;rw[if_pos hlen]at tC;have S7:ae (K 15) aJ=some (I j):=by rw[q (K 15) (by simp)];simp
    have OD:ae (K 16) aJ=some (.ptr aN 0):=by rw[q (K 16) (by simp)];simp
    have OE:ae (K 14) aJ=some (.ptr bj 0):=by rw[q (K 14) (by simp)];simp[g14]
    have q9:∀k:Key,k=K 1∨k=K 4∨k=K 7∨k=K 10∨k=K 12∨k=K 14∨k=K 41∨k=K 42∨k=K 43→ae k aJ=ae k ef:=by rintro k (rfl|rfl|rfl|rfl|rfl|rfl|rfl|rfl|rfl)<;>(rw[q _ (by simp)];simp)
    by_cases he:o.e<0
    ·rw[if_neg (by omega)]at heb;simp[pj,OD,gb4,eO,he];refine next _ h4 ?_ (by rw[heb];exact bj4) (fun _ _=>rfl) tC
     rintro k (rfl|rfl|rfl|rfl|rfl|rfl|rfl|rfl|rfl)<;>(simp;exact q9 _ (by simp))
    ·rw[if_pos (by omega)]at heb;simp[pj,OD,gb4,eO,he];have hsh:O0 .i64 j=true:=by unfold O0;exact Nat.ble_eq_true_of_le (by omega)
     have Yv:((2:Int)^j)=((2^j:Nat):Int):=by simp
     have hp2:2^j≤65536:=lC (by omega);have hw:aW .i64 ((2:Int)^j)=((2^j:Nat):Int):=by rw[Yv];exact aB (by omega) (by omega)
     have Pp:Ta .i64 ((2^j:Nat):Int)=2^j:=uO hp2;have QN:Ta .i64 (jE os j:Int)=jE os j:=uO (by omega);have hor:jE os j ||| 2^j<2^(j+1):=Nat.or_lt_two_pow (by have:2^j<2^(j+1):=Nat.pow_lt_pow_right (by omega) (by omega);omega) (Nat.pow_lt_pow_right (by omega) (by omega));have hp3:2^(j+1)≤131072:=Nat.pow_le_pow_right (n:=2) (by omega) (by omega:j+1≤17);have OF:aW .i64 ((jE os j ||| 2^j:Nat):Int)=((jE os j ||| 2^j:Nat):Int):=aB (by omega) (by omega);simp[vC,OE,S7,bj4,jB,hsh,-Int.natCast_pow,hw,Pp,QN,OF];refine next _ _ ?_ ?_ (fun k hk=>aU _ _ _ _ hk) tC
     ·rintro k (rfl|rfl|rfl|rfl|rfl|rfl|rfl|rfl|rfl)<;>(simp;exact q9 _ (by simp))
     ·rw[heb];simp[jB];rw[hw,Pp,OF]
   rcases hA with⟨ea,ha0⟩|⟨la,ea⟩<;>rcases hD with⟨rfl,hk0⟩|⟨ld,z,rfl⟩
   ·simp[fc,g12,gb4,bd4,eO,DF,d45,ht,hlr,t23,ecr,hl,MC,ea];refine rest _ ?_ (by omega);rintro k (rfl|rfl|rfl|rfl|rfl|rfl|rfl|rfl|rfl|rfl|rfl)<;>simp
   ·by_cases hck:c.ar=0
    ·simp[fc,g12,gb4,bd4,eO,DF,d45,ht,hlr,t23,ecr,hl,MC,ea,hck];refine rest _ ?_ (by omega);rintro k (rfl|rfl|rfl|rfl|rfl|rfl|rfl|rfl|rfl|rfl|rfl)<;>simp
    ·have ON:((0:Int)==(c.ar:Int))=false:=bq (by omega);rw[if_neg (by omega)]at tC;simp[fc,g12,gb4,bd4,eO,DF,d45,ht,hlr,t23,ecr,hl,MC,ea,ON];simp[ph];refine HE _ _ _ ?_ ?_ (by rw[tC];decide) atL
     ·simp
     ·simp[tC]
   ·by_cases hck:o.args.length=0
    ·simp[fc,g12,gb4,bd4,eO,DF,d45,ht,hlr,t23,ecr,hl,MC,ea,hck];refine rest _ ?_ (by omega);rintro k (rfl|rfl|rfl|rfl|rfl|rfl|rfl|rfl|rfl|rfl|rfl)<;>simp
    ·have ON:((o.args.length:Int)==0)=false:=bq (by omega);rw[if_neg (by omega)]at tC;simp[fc,g12,gb4,bd4,eO,DF,d45,ht,hlr,t23,ecr,hl,MC,ea,ON];simp[ph];refine HE _ _ _ ?_ ?_ (by rw[tC];decide) atL
     ·simp
     ·simp[tC]
   ·by_cases hck:o.args.length=c.ar
    ·simp[fc,g12,gb4,bd4,eO,DF,d45,ht,hlr,t23,ecr,hl,MC,ea,hck];refine rest _ ?_ hck;rintro k (rfl|rfl|rfl|rfl|rfl|rfl|rfl|rfl|rfl|rfl|rfl)<;>simp
    ·have ON:((o.args.length:Int)==(c.ar:Int))=false:=bq (by omega);rw[if_neg hck]at tC;simp[fc,g12,gb4,bd4,eO,DF,d45,ht,hlr,t23,ecr,hl,MC,ea,ON];simp[ph];refine HE _ _ _ ?_ ?_ (by rw[tC];decide) atL
     ·simp
     ·simp[tC]
  ·rw[hc']at tC;simp only at tC;simp[vB,hx];simp[EI];refine HE _ _ _ ?_ ?_ (by rw[tC];decide) atL
   ·simp
   ·simp[tC]
 ·have xM:j=os.length:=by omega
  subst xM;rw[List.drop_length]at tC;simp[xH,g42,g43];exact fy _ _ _ ⟨by simp[g1],by simp[g4],by simp[g7],by simp[g10],by simp[g12],by simp[g14],NK,bl2,bd2,Yn,lt,ge,ne⟩ e2 tC
end Ln
namespace Ln
open Go.Sx Go
variable{C:bQ}{X:Kn}(S:Std C X)
include S
def ats(mk:AV→List AV)(i:Nat)(l:List Ev)(h:T ah)(nx:Key)(o:Out)(h':T ah)(nx':Key):Prop:=Ext h nx h' nx'∧
 ((mh i l≠0∧o=.ret (.tuple [.nilp,I (mh i l)]))∨
  (mh i l=0∧∃(b:Key) (cO:AV),o=.ret (.tuple [.ptr b 0,I 0])∧ae b h'=some (.cells (mk cO) .fix)∧gI 10 eO cO (cT 0 l)∧nx.toNat≤b.toNat∧b.toNat<nx'.toNat))
omit S in
theorem VO(i:Nat):∃k n,cX i=⟨k,n,[]⟩:=by unfold cX;split<;>exact⟨_,_,rfl⟩
theorem am9{i:Nat}(hi:i<3){ev:AV}{l:List Ev}(hv:gI 8 eE ev l)(hl:Wc l){h:T ah}{nx:Key}:aG C iF [X.m,ft i,ev,iU] h nx (ats (fun cO=>jB X i cO (cX i) (jE (cT 0 l) (cT 0 l).length)) i l h nx):=by
 have s1:=kTSu nx;have s2:=kTSu nx.succ;have rO:C.raw lR=false:=S.nr (by decide);have rD:C.raw jI=false:=S.nr (by decide);have rI:C.raw FC=false:=S.nr (by decide);have hz:∀H,aM 9999 ev H=(ev,H):=fun H=>hv.r7 _ _;have yN:(cT 0 l).length≤16:=by have:=yO l 0;have:=hl.len;omega
 refine S.zO.call ?_;simp[yB];simp[xj,Kn.m,iU];have e2:=(E0 h nx (.cells [.sl X.rows 7 45 .any] .fix)).trans (E0 _ nx.succ (.cells [I 200,I 50] .fix));have NK:ae nx (aw nx.succ (some (.cells [I 200,I 50] .fix)) (aw nx (some (.cells [.sl X.rows 7 45 .any] .fix)) h))=some (.cells [.sl X.rows 7 45 .any] .fix):=by rw[ax (by omega)];simp
 have bl2:ae nx.succ (aw nx.succ (some (.cells [I 200,I 50] .fix)) (aw nx (some (.cells [.sl X.rows 7 45 .any] .fix)) h))=some (.cells [I 200,I 50] .fix):=by simp
 generalize aw nx.succ (some (.cells [I 200,I 50] .fix)) (aw nx (some (.cells [.sl X.rows 7 45 .any] .fix)) h)=h2 at *;simp[xk,rO,hz];refine(ahL S hv hl _ _).mono ?_;rintro o h3 bY ⟨⟨cO,rfl,hc⟩,e3⟩;have Iy:=e2.trans e3;have bm3:ae nx h3=some (.cells [.sl X.rows 7 45 .any] .fix):=by rw[e3.g nx (by omega)];exact NK
 have bl3:ae nx.succ h3=some (.cells [I 200,I 50] .fix):=by rw[e3.g nx.succ (by omega)];exact bl2
 have n3:=e3.n;simp;by_cases Mw:bu [] l=0
 ·rw[if_pos Mw]at hc;have hcb:mh i l=lY i (cT 0 l):=by unfold mh;rw[if_pos Mw]
  simp[lL,Mw,gp];have d45:=S.ok.acf i hi;have dC:(X.dec i).all AV.aT=true:=wG.2 (S.ok.asp i hi);simp[xl,bm3,rD];refine aG.known (S.s_parser_Decl i hi _ _) ?_;have s3:=kTSu bY;have s4:=kTSu bY.succ;simp[d45,dC];have dt:List.drop 45 (X.dec i)=[]:=List.drop_eq_nil_of_le (by omega);have e4:=E0 h3 bY (.cells (X.dec i) .fix);have bd4:ae bY (aw bY (some (.cells (X.dec i) .fix)) h3)=some (.cells (X.dec i) .fix):=by simp
  have bm4:ae nx (aw bY (some (.cells (X.dec i) .fix)) h3)=some (.cells [.sl X.rows 7 45 .any] .fix):=by rw[e4.g nx (by omega)];exact bm3
  have bl4:ae nx.succ (aw bY (some (.cells (X.dec i) .fix)) h3)=some (.cells [I 200,I 50] .fix):=by rw[e4.g nx.succ (by omega)];exact bl3
  generalize aw bY (some (.cells (X.dec i) .fix)) h3=h4 at *;simp[xm];have NM:cO.aT=true∧cO.cells=[cO]:=hc.cell;have hcz:∀n H,aM n cO H=(cO,H):=fun n H=>hc.r7 n H;simp[He,bm4,bl4,NM.1,NM.2,hcz];have e5:=E0 h4 bY.succ (.cells (jB X i cO ⟨0,0,[]⟩ 0) .fix);have ejB:jB X i cO ⟨0,0,[]⟩ 0=[.sl X.rows 7 45 .any,ft i,cO,I 200,I 50,I 0,I 0,I 0,.str 0 0,.nils,I 0]:=rfl;rw[ejB]at e5;have s5:=kTSu bY.succ;have bj5:ae bY.succ (aw bY.succ (some (.cells [.sl X.rows 7 45 .any,ft i,cO,I 200,I 50,I 0,I 0,I 0,.str 0 0,.nils,I 0] .fix)) h4)=some (.cells (jB X i cO ⟨0,0,[]⟩ 0) .fix):=by rw[gTSm];rfl
  have bm5:ae nx (aw bY.succ (some (.cells [.sl X.rows 7 45 .any,ft i,cO,I 200,I 50,I 0,I 0,I 0,.str 0 0,.nils,I 0] .fix)) h4)=some (.cells [.sl X.rows 7 45 .any] .fix):=by rw[e5.g nx (by omega)];exact bm4
  have bl5:ae nx.succ (aw bY.succ (some (.cells [.sl X.rows 7 45 .any,ft i,cO,I 200,I 50,I 0,I 0,I 0,.str 0 0,.nils,I 0] .fix)) h4)=some (.cells [I 200,I 50] .fix):=by rw[e5.g nx.succ (by omega)];exact bl4
  have bd5:ae bY (aw bY.succ (some (.cells [.sl X.rows 7 45 .any,ft i,cO,I 200,I 50,I 0,I 0,I 0,.str 0 0,.nils,I 0] .fix)) h4)=some (.cells (X.dec i) .fix):=by rw[e5.g bY (by omega)];exact bd4
  have e25:=(Iy.trans e4).trans e5;generalize aw bY.succ (some (.cells [.sl X.rows 7 45 .any,ft i,cO,I 200,I 50,I 0,I 0,I 0,.str 0 0,.nils,I 0] .fix)) h4=h5 at *;have main:∀tm5:T AV,ae (K 41) tm5=some cO→ae (K 42) tm5=some (I (cT 0 l).length)→ae (K 43) tm5=some (I 0)→ae (K 1) tm5=some (ft i)→ae (K 4) tm5=some (.ptr nx 0)→ae (K 7) tm5=some (.ptr nx.succ 0)→ae (K 10) tm5=some cO→ae (K 12) tm5=some (.ptr bY 0)→ae (K 14) tm5=some (.ptr bY.succ 0)→
    W C (.loop qG) (aC 0 (aQ (gn C (.seq (.ops vd) (.seq (.seq (.ops ve) (.cond (.t (K 86)) (.seq (.ops Em) .ret) .skip)) (.seq (.ops vf) (.seq (.ops vh) .ret)))) (bZ [.tmp (K 8),.tmp (K 9)] (ats (fun cO=>jB X i cO (cX i) (jE (cT 0 l) (cT 0 l).length)) i l h nx))) (bZ [.tmp (K 8),.tmp (K 9)] (ats (fun cO=>jB X i cO (cX i) (jE (cT 0 l) (cT 0 l).length)) i l h nx)))) tm5 h5 bY.succ.succ:=by
   intro tm5 q41 q42 q43 q1 q4 q7 q10 q12 OE;refine aqf S hi yN hc (h:=h) (n0:=nx) (bm:=nx) (bl:=nx.succ) (bd:=bY) (bj:=bY.succ) (m:=(cT 0 l).length) ⟨0,by simp,by omega,q41,q42,by simpa using q43,⟨q1,q4,q7,q10,q12,OE,bm5,bl5,bd5,bj5,by omega,by omega,?_⟩,e25,rfl⟩ ?_ ?_
   ·refine⟨?_,?_,?_⟩<;>(intro e;have:=congrArg Key.toNat e;omega)
   ·intro ay h' nx' a8 a9 bX e';simp[a8,a9];exact⟨e',.inl ⟨by rw[hcb];exact bX,by rw[hcb]⟩⟩
   ·rintro ay h' nx' ⟨a1,a4,a7,a10,a12,a14,bm',bl',bd',bj',lt,ge,ne⟩ e' ON;simp;simp[vd,a1,a4,a7,bm',bl',rI];refine aG.known (S.s_InitP i hi _ _) ?_;obtain⟨k,n,MB⟩:=VO i;have es:eS (cX i)=[I k,I n,.str 0 0,.nils]:=by rw[MB];rfl
    have s6:=kTSu nx';simp[es];have bj6:ae bY.succ (aw nx' (some (.cells [I k,I n,.str 0 0,.nils] .fix)) h')=some (.cells (jB X i cO ⟨0,0,[]⟩ (jE (cT 0 l) (cT 0 l).length)) .fix):=by rw[ax lt.2.2.2];exact bj'
    simp[ve];simp[vf,a14,bj6,jB];simp[vh,a14];refine⟨?_,.inr ⟨by rw[hcb];exact ON,bY.succ,cO,rfl,?_,hc,by omega,by omega⟩⟩
    ·exact⟨by have:=e'.n;omega,fun b hb=>by rw[ax (by omega),ax (by have:=e'.n;omega)];exact e'.g b hb⟩
    ·simp[jB,MB,aL]
  rcases id hc with⟨ec,eo⟩|ec
  ·have hl0:(cT 0 l).length=0:=by rw[eo];rfl
   have aKD:((cT 0 l).length:Int)=0:=by omega
   rw[aKD]at main;simp[xq,ec];refine main _ ?_ ?_ ?_ ?_ ?_ ?_ ?_ ?_ ?_<;>simp[ec]
  ·simp[xq,ec];refine main _ ?_ ?_ ?_ ?_ ?_ ?_ ?_ ?_ ?_<;>simp[ec]
 ·have bX:gp (bu [] l)≠0:=by unfold gp;split<;>first|exact absurd ‹_› Mw|decide
  have hcb:mh i l=gp (bu [] l):=by unfold mh;rw[if_neg Mw]
  simp[lL,bq bX];simp[xn];exact⟨Iy,.inl ⟨by rw[hcb];exact bX,by rw[hcb]⟩⟩
end Ln
namespace Ln
open Go.Sx Go
def K8(i:Nat)(name:Nat×Nat)(n:Nat):Int:=match nv i name with
 |none=>6
 |some c=>if n=c.ar then 0 else 1
def K9:List AV:=[.str 0 0,.nils,I 0,.str 0 0,I 0,.nils,.nils,.nils,I 0,I 0,.str 0 0,I 0,.nils,.nils,.nils,I 0,I 0,.str 0 0,I 0,.nils,.nils,.nils,I 0]
theorem aCj(i:Nat)(name:Nat×Nat):(∃(t:Nat) (ht:t<(aK i).length),GL i name=t∧nv i name=some (aK i)[t])∨(GL i name=-1∧nv i name=none):=by
 unfold GL nv;cases hf:(aK i).findIdx? (fun c=>c.name==name)with
 |none=>rw[List.findIdx?_eq_none_iff]at hf;exact .inr ⟨rfl,List.find?_eq_none.2 (fun c hc=>by simpa using hf c hc)⟩
 |some t=>rw[List.findIdx?_eq_some_iff_getElem]at hf;obtain⟨ht,h1,h2⟩:=hf;refine .inl ⟨t,ht,rfl,?_⟩;rw[List.find?_eq_some_iff_getElem];exact⟨h1,t,ht,rfl,fun s hs=>by simpa using h2 s hs⟩
variable{C:bQ}{X:Kn}(S:Std C X)
include S
theorem aJK{i:Nat}(hi:i<3)(H:T ah):bG (aM 9998) (X.dec i) H=(X.dec i,H):=bT (S.ok.aIQ i hi)
def apu(i:Nat)(name:Nat×Nat)(n:Nat)(o:Out):Prop:=∃c,o=.ret (.tuple [.agg c,I (K8 i name n)])∧c.length=23∧c.all AV.aT=true
theorem aja{i:Nat}(hi:i<3)(name:Nat×Nat)(n:Nat):YO C sS [X.m,ft i,.str name.1 name.2,I n] (apu i name n):=by
 intro h nx;have s1:=kTSu nx;have s2:=kTSu nx.succ;have s3:=kTSu nx.succ.succ;have rD:C.raw gU=false:=S.nr (by decide);have rC:C.raw lI=false:=S.nr (by decide);have d45:=S.ok.acf i hi;have dC:(X.dec i).all AV.aT=true:=wG.2 (S.ok.asp i hi);have dt:List.drop 45 (X.dec i)=[]:=List.drop_eq_nil_of_le (by omega);have dk:List.take 45 (X.dec i)=X.dec i:=RL (by omega);have d36:=S.ok.aot i hi;have DF:∀hh,(X.dec i)[36]'hh=aoS X i:=fun hh=>by have q:=yT hh;rw[d36]at q;exact(Option.some.inj q).symm
 refine S.N6.call ?_;simp[Mf];simp[La,Kn.m];have e2:=(E0 h nx (.cells [.sl X.rows 7 45 .any] .fix)).trans (E0 _ nx.succ (.cells K9 .fix));have NK:ae nx (aw nx.succ (some (.cells K9 .fix)) (aw nx (some (.cells [.sl X.rows 7 45 .any] .fix)) h))=some (.cells [.sl X.rows 7 45 .any] .fix):=by rw[ax (by omega)];simp
 have br2:ae nx.succ (aw nx.succ (some (.cells K9 .fix)) (aw nx (some (.cells [.sl X.rows 7 45 .any] .fix)) h))=some (.cells K9 .fix):=by simp
 unfold K9 at e2 NK br2;generalize hH:aw nx.succ _ (aw nx (some (.cells [.sl X.rows 7 45 .any] .fix)) h)=h2 at *;simp[Lb,NK,rD];refine aG.known (S.s_ref09_Decl i hi _ _) ?_;simp[d45,dC,dt];have e3:=E0 h2 nx.succ.succ (.cells (X.dec i) .fix);have bd3:ae nx.succ.succ (aw nx.succ.succ (some (.cells (X.dec i) .fix)) h2)=some (.cells (X.dec i) .fix):=by simp
 have br3:ae nx.succ (aw nx.succ.succ (some (.cells (X.dec i) .fix)) h2)=some (.cells K9 .fix):=by rw[e3.g nx.succ (by omega)];exact br2
 generalize aw nx.succ.succ (some (.cells (X.dec i) .fix)) h2=h3 at *;simp[Lc,bd3,d45,dk,rC,aJK S hi];refine(afz S hi name _ _).mono ?_;rintro o h4 jZ ⟨rfl,e4⟩;have bd4:ae nx.succ.succ h4=some (.cells (X.dec i) .fix):=by rw[e4.g nx.succ.succ (by omega)];exact bd3
 have br4:ae nx.succ h4=some (.cells K9 .fix):=by rw[e4.g nx.succ (by omega)];exact br3
 have ZD:=(e2.trans e3).trans e4;simp;have fin:∀(c:List AV),Ext h nx (aw nx.succ (some (.cells c .fix)) h4) jZ:=fun c=>ZD.put (by omega);unfold K9 at br4;rcases aCj i name with⟨t,ht,hx,hc⟩|⟨hx,hc⟩
 ·have hx0:¬(t:Int)<0:=by omega
  have h1:=S.ok.aBH i hi t _ (yT ht);have ecr:=Ti S ht;have hlr:=Tj S (i:=i);have hl:=(S.ok.Xa i).len t;have NM:(X.cmd i t).all AV.aT=true:=wG.2 ((S.ok.Xa i).cell t);have aCk:List.take 23 (X.cmd i t)=X.cmd i t:=RL (by omega);have aCl:List.drop 23 (X.cmd i t)=[]:=List.drop_eq_nil_of_le (by omega);have t23:23≤(aK i).length*23-t*23:=by omega
  have ajd:K8 i name n=if n=(aK i)[t].ar then 0 else 1:=by unfold K8;rw[hc]
  generalize (aK i)[t]=c at *;obtain⟨d,hd,hD⟩:=h1;have MC:∀hh,(X.cmd i t)[1]'hh=d:=fun hh=>by have q:=yT hh;rw[hd]at q;exact(Option.some.inj q).symm
  simp[Cn,hx,hx0];have CU:n=c.ar→apu i name n (.ret (.tuple [.agg (X.cmd i t),I 0])):=fun e=>⟨_,by rw[ajd,if_pos e],hl,NM⟩;have bad:n≠c.ar→apu i name n (.ret (.tuple [.agg K9,I 1])):=fun e=>⟨_,by rw[ajd,if_neg e],rfl,rfl⟩;unfold K9 at bad;rcases hD with⟨rfl,hk0⟩|⟨ld,z,rfl⟩
  ·by_cases hn:n=0
   ·subst hn;simp[ql,bd4,DF,d45,ht,hlr,t23,ecr,hl,MC];simp[Co,bd4,br4,DF,d45,ht,hlr,t23,ecr,hl,aCk,NM,aCl,axG S];exact⟨CU (by omega),fin _⟩
   ·have ON:((0:Int)==(n:Int))=false:=bq (by omega);simp[ql,bd4,DF,d45,ht,hlr,t23,ecr,hl,MC,ON];simp[Cp,br4];exact⟨bad (by omega),fin _⟩
  ·by_cases hn:c.ar=n
   ·simp[ql,bd4,DF,d45,ht,hlr,t23,ecr,hl,MC,hn];simp[Co,bd4,br4,DF,d45,ht,hlr,t23,ecr,hl,aCk,NM,aCl,axG S];exact⟨CU (by omega),fin _⟩
   ·have ON:((c.ar:Int)==(n:Int))=false:=bq (by omega);simp[ql,bd4,DF,d45,ht,hlr,t23,ecr,hl,MC,ON];simp[Cp,br4];exact⟨bad (by omega),fin _⟩
 ·have ajd:K8 i name n=6:=by unfold K8;rw[hc]
  simp[Cn,hx];simp[Ld,br4];exact⟨⟨_,by rw[ajd],rfl,rfl⟩,fin _⟩
end Ln
namespace Ln
open Go.Sx Go
def wB(X:Kn)(i:Nat)(cO:AV)(s:St):List AV:=[.sl X.rows 7 45 .any,ft i,I 200,I 50,cO,I s.k,I s.n,.str 0 0,aL s.kids]
theorem alo(i:Nat)(o:Op)(l:List Op):lY i (o ::l)=if K8 i o.name o.args.length=0 then lY i l else K8 i o.name o.args.length:=by
 show(match nv i o.name with|none=>6|some c=>if o.args.length=c.ar then lY i l else 1)=_;unfold K8;cases nv i o.name with
 |none=>rfl
 |some c=>
  simp only;by_cases h:o.args.length=c.ar
  ·rw[if_pos h,if_pos h,if_pos rfl]
  ·rw[if_neg h,if_neg h,if_neg (by decide)]
variable{C:bQ}{X:Kn}(S:Std C X)
include S
def StL(X:Kn)(i:Nat)(os:List Op)(cO:AV)(bm bl n0:Key)(h:T ah)(m:Nat)(ay:T AV)(h':T ah)(nx':Key):Prop:=∃j:Nat,m=os.length-j∧j≤os.length∧ae (K 1) ay=some (ft i)∧ae (K 4) ay=some (.ptr bm 0)∧ae (K 7) ay=some (.ptr bl 0)∧ae (K 10) ay=some cO∧ae (K 14) ay=some (I j)∧
 ae bm h'=some (.cells [.sl X.rows 7 45 .any] .fix)∧ae bl h'=some (.cells [I 200,I 50] .fix)∧bm.toNat<nx'.toNat∧bl.toNat<nx'.toNat∧Ext h n0 h' nx'∧lY i os=lY i (os.drop j)
theorem Z1{i:Nat}(hi:i<3){os:List Op}(ho:os.length≤16){cO:AV}(hc:gI 10 eO cO os){bm bl n0:Key}{h:T ah}{Q:dh}{m:Nat}{tm:T AV}{h1:T ah}{bS:Key}(A:StL X i os cO bm bl n0 h m tm h1 bS)
  (HE:∀ay h' nx',ae (K 8) ay=some .nilp→ae (K 9) ay=some (I (lY i os))→lY i os≠0→Ext h n0 h' nx'→Q .ret ay h' nx')
  (fy:∀ay h' nx',StL X i os cO bm bl n0 h 0 ay h' nx'→lY i os=0→Q .norm ay h' nx') :
  W C (.loop Ai) (aC 0 Q) tm h1 bS:=by
 have rF:C.raw sS=false:=S.nr (by decide);refine W.dy (StL X i os cO bm bl n0 h) A ?_;rintro m ef h2 aN ⟨j,rfl,hj,g1,g4,g7,g10,g14,NK,bl2,ltm,ltl,e2,tC⟩;refine W.of ?_;simp[Ai];by_cases bW:j<os.length
 ·have v7:(j:Int)<os.length:=by omega
  have E9:cO=.sl (ag eO os) os.length 10 .any:=by
   rcases hc with⟨_,rfl⟩|e
   ·simp at bW
   ·exact e
  have SE:=g10;rw[E9]at SE;have ec:=fP.at bW;have hr:=fP.rows os;have tx:10≤os.length*10-j*10:=by omega
  have s2:=kTSu aN;rw[zqt bW,alo]at tC;have hA:(aL os[j].args=.nils∧os[j].args.length=0)∨∃l,aL os[j].args=.sl l os[j].args.length 4 .any:=by
   cases os[j].args with
   |nil=>exact .inl ⟨rfl,rfl⟩
   |cons a t=>exact .inr ⟨_,rfl⟩
  generalize os[j]=o at *;simp[tn,SE,g14,v7];have fin:∀(aJ:T AV) (h3:T ah) (bY:Key),(∀k:Key,k=K 1∨k=K 4∨k=K 7∨k=K 10∨k=K 14→ae k aJ=ae k ef)→ae (K 16) aJ=some (I (K8 i o.name o.args.length))→Ext h2 aN h3 bY→
    lA C (aQ (gn C (.cond (.t (K 59)) (.seq (.ops xB) .ret) .skip) (aC 1 (aQ (gn C (.ops qH) (aQ (fun tm h' nx'=>∃m,m<os.length-j∧StL X i os cO bm bl n0 h m tm h' nx') (aC 0 Q))) (aQ (fun tm h' nx'=>∃m,m<os.length-j∧StL X i os cO bm bl n0 h m tm h' nx') (aC 0 Q))))) (aC 1 (aQ (gn C (.ops qH) (aQ (fun tm h' nx'=>∃m,m<os.length-j∧StL X i os cO bm bl n0 h m tm h' nx') (aC 0 Q))) (aQ (fun tm h' nx'=>∃m,m<os.length-j∧StL X i os cO bm bl n0 h m tm h' nx') (aC 0 Q))))) qI aJ h3 bY:=by
   intro aJ h3 bY q OD e3;have n3:=e3.n;by_cases Mx:K8 i o.name o.args.length=0
   ·rw[if_pos Mx]at tC;rw[Mx]at OD;have OE:=(q (K 14) (by simp)).trans g14;simp[qI,OD];simp[qH,OE];rw[aB (by omega) (by omega)];refine⟨os.length-(j+1),by omega,j+1,rfl,by omega,?_,?_,?_,?_,by simp,by rw[e3.g bm ltm];exact NK,by rw[e3.g bl ltl];exact bl2,by omega,by omega,?_,tC⟩
    ·simp;exact(q (K 1) (by simp)).trans g1
    ·simp;exact(q (K 4) (by simp)).trans g4
    ·simp;exact(q (K 7) (by simp)).trans g7
    ·simp;exact(q (K 10) (by simp)).trans g10
    ·exact e2.trans e3
   ·rw[if_neg Mx]at tC;simp[qI,OD,bq Mx];simp[xB,OD];refine HE _ _ _ ?_ ?_ (by rw[tC];exact Mx) (e2.trans e3)
    ·simp
    ·simp[tC]
  have ext:∀(c:List AV) (h3:T ah) (bY:Key),Ext h2 aN.succ h3 bY→Ext h2 aN (aw aN (some (.cells c .fix)) h3) bY:=fun c h3 bY e3=>⟨by have:=e3.n;omega,fun b hb=>by rw[ax hb];exact e3.g b (by omega)⟩;rcases hA with⟨ea,hn⟩|⟨la,ea⟩
  ·have ff:=aja S hi o.name 0 h2 aN.succ;simp[Kn.m]at ff;rw[hn]at fin;simp[Aj,g1,g4,SE,g14,NK,bW,hr,tx,ec,eO,ea,rF];refine ff.mono ?_;rintro out h3 bY ⟨⟨c,rfl,ayl,NM⟩,e3⟩;have hcd:List.drop 23 c=[]:=List.drop_eq_nil_of_le (by omega);simp[ayl,NM];refine fin _ _ _ ?_ ?_ (ext c h3 bY e3)
   ·rintro k (rfl|rfl|rfl|rfl|rfl)<;>simp
   ·simp
  ·have ff:=aja S hi o.name o.args.length h2 aN.succ;simp[Kn.m]at ff;simp[Aj,g1,g4,SE,g14,NK,bW,hr,tx,ec,eO,ea,rF];refine ff.mono ?_;rintro out h3 bY ⟨⟨c,rfl,ayl,NM⟩,e3⟩;have hcd:List.drop 23 c=[]:=List.drop_eq_nil_of_le (by omega);simp[ayl,NM];refine fin _ _ _ ?_ ?_ (ext c h3 bY e3)
   ·rintro k (rfl|rfl|rfl|rfl|rfl)<;>simp
   ·simp
 ·have xM:j=os.length:=by omega
  subst xM;rw[List.drop_length]at tC;have fin:∀aJ:T AV,ae (K 1) aJ=ae (K 1) ef→ae (K 4) aJ=ae (K 4) ef→ae (K 7) aJ=ae (K 7) ef→ae (K 10) aJ=ae (K 10) ef→ae (K 14) aJ=ae (K 14) ef→Q .norm aJ h2 aN:=fun aJ a b c d e=>fy _ _ _ ⟨os.length,by omega,by omega,a.trans g1,b.trans g4,c.trans g7,d.trans g10,e.trans g14,NK,bl2,ltm,ltl,e2,by rw[tC,List.drop_length]⟩ tC;rcases id hc with⟨e0,e1⟩|e0
  ·have SE:=g10;rw[e0]at SE;have:(os.length:Int)=0:=by rw[e1];rfl
   simp[tn,SE,g14,this];refine fin _ ?_ ?_ ?_ ?_ ?_<;>simp[SE,g14,this]
  ·have SE:=g10;rw[e0]at SE;simp[tn,SE,g14];refine fin _ ?_ ?_ ?_ ?_ ?_<;>simp[SE,g14]
theorem amY{i:Nat}(hi:i<3){ev:AV}{l:List Ev}(hv:gI 8 eE ev l)(hl:Wc l){h:T ah}{nx:Key}:aG C jD [X.m,ft i,ev,iU] h nx (ats (fun cO=>wB X i cO (cX i)) i l h nx):=by
 have s1:=kTSu nx;have s2:=kTSu nx.succ;have rO:C.raw rh=false:=S.nr (by decide);have rD:C.raw gU=false:=S.nr (by decide);have rI:C.raw FD=false:=S.nr (by decide);have hz:∀H,aM 9999 ev H=(ev,H):=fun H=>hv.r7 _ _;have yN:(cT 0 l).length≤16:=by have:=yO l 0;have:=hl.len;omega
 refine S.Ck.call ?_;simp[Bq];simp[z6,Kn.m,iU];have e2:=(E0 h nx (.cells [.sl X.rows 7 45 .any] .fix)).trans (E0 _ nx.succ (.cells [I 200,I 50] .fix));have NK:ae nx (aw nx.succ (some (.cells [I 200,I 50] .fix)) (aw nx (some (.cells [.sl X.rows 7 45 .any] .fix)) h))=some (.cells [.sl X.rows 7 45 .any] .fix):=by rw[ax (by omega)];simp
 have bl2:ae nx.succ (aw nx.succ (some (.cells [I 200,I 50] .fix)) (aw nx (some (.cells [.sl X.rows 7 45 .any] .fix)) h))=some (.cells [I 200,I 50] .fix):=by simp
 generalize aw nx.succ (some (.cells [I 200,I 50] .fix)) (aw nx (some (.cells [.sl X.rows 7 45 .any] .fix)) h)=h2 at *;simp[z7,rO,hz];refine(ah8 S hv hl _ _).mono ?_;rintro o h3 bY ⟨⟨cO,rfl,hc⟩,e3⟩;have Iy:=e2.trans e3;have bm3:ae nx h3=some (.cells [.sl X.rows 7 45 .any] .fix):=by rw[e3.g nx (by omega)];exact NK
 have bl3:ae nx.succ h3=some (.cells [I 200,I 50] .fix):=by rw[e3.g nx.succ (by omega)];exact bl2
 have n3:=e3.n;simp;by_cases Mw:bu [] l=0
 ·rw[if_pos Mw]at hc;have hcb:mh i l=lY i (cT 0 l):=by unfold mh;rw[if_pos Mw]
  simp[nM,Mw,gp];have d45:=S.ok.acf i hi;have dC:(X.dec i).all AV.aT=true:=wG.2 (S.ok.asp i hi);simp[z8,bm3,rD];refine aG.known (S.s_ref09_Decl i hi _ _) ?_;have s3:=kTSu bY;simp[d45,dC];have dt:List.drop 45 (X.dec i)=[]:=List.drop_eq_nil_of_le (by omega);have e4:=E0 h3 bY (.cells (X.dec i) .fix);have bm4:ae nx (aw bY (some (.cells (X.dec i) .fix)) h3)=some (.cells [.sl X.rows 7 45 .any] .fix):=by rw[e4.g nx (by omega)];exact bm3
  have bl4:ae nx.succ (aw bY (some (.cells (X.dec i) .fix)) h3)=some (.cells [I 200,I 50] .fix):=by rw[e4.g nx.succ (by omega)];exact bl3
  have ZD:=Iy.trans e4;generalize aw bY (some (.cells (X.dec i) .fix)) h3=h4 at *;have NM:cO.aT=true∧cO.cells=[cO]:=hc.cell;have hcz:∀n H,aM n cO H=(cO,H):=fun n H=>hc.r7 n H;simp[Aa];simp[Jn];refine Z1 S hi yN hc (h:=h) (n0:=nx) (bm:=nx) (bl:=nx.succ) (m:=(cT 0 l).length) ⟨0,by simp,by omega,by simp,by simp,by simp,by simp,by simp,bm4,bl4,by omega,by omega,ZD,rfl⟩ ?_ ?_
  ·intro ay h' nx' a8 a9 bX e';simp[a8,a9];exact⟨e',.inl ⟨by rw[hcb];exact bX,by rw[hcb]⟩⟩
  ·rintro ay h' nx' ⟨j,_,_,a1,a4,a7,a10,a14,bm',bl',ltm,ltl,e',_⟩ ON;simp;simp[Hr,a1,a4,a7,bm',bl',rI];refine aG.known (S.s_InitR i hi _ _) ?_;obtain⟨k,n,MB⟩:=VO i;have es:eS (cX i)=[I k,I n,.str 0 0,.nils]:=by rw[MB];rfl
   have s6:=kTSu nx';have s7:=kTSu nx'.succ;simp[es];have bm6:ae nx (aw nx' (some (.cells [I k,I n,.str 0 0,.nils] .fix)) h')=some (.cells [.sl X.rows 7 45 .any] .fix):=by rw[ax ltm];exact bm'
   have bl6:ae nx.succ (aw nx' (some (.cells [I k,I n,.str 0 0,.nils] .fix)) h')=some (.cells [I 200,I 50] .fix):=by rw[ax ltl];exact bl'
   simp[Hs];simp[Ht,a1,a4,a7,a10,bm6,bl6,NM.1,NM.2,hcz];refine⟨?_,.inr ⟨by rw[hcb];exact ON,nx'.succ,cO,rfl,?_,hc,by have:=e'.n;omega,by omega⟩⟩
   ·exact⟨by have:=e'.n;omega,fun b hb=>by rw[ax (by have:=e'.n;omega),ax (by have:=e'.n;omega)];exact e'.g b hb⟩
   ·simp[wB,MB,aL]
 ·have bX:gp (bu [] l)≠0:=by unfold gp;split<;>first|exact absurd ‹_› Mw|decide
  have hcb:mh i l=gp (bu [] l):=by unfold mh;rw[if_neg Mw]
  simp[nM,bq bX];simp[Ab];exact⟨Iy,.inl ⟨by rw[hcb];exact bX,by rw[hcb]⟩⟩
end Ln
namespace Ln
open Go.Sx Go
theorem aIp(u:U)(H:T ah):bG (aM 9998) (eU u) H=(eU u,H):=bT (qY.r7 u)
theorem aIq(s:St):∀y∈eS s,OC y:=by
 intro y hy;simp[eS]at hy;rcases hy with rfl|rfl|rfl|rfl
 ·exact dA _ _
 ·exact dA _ _
 ·exact qw _ _
 ·exact dM _
theorem zd(s:St)(H:T ah):bG (aM 9998) (eS s) H=(eS s,H):=bT (aIq s)
theorem xS(s:St):(eS s).all AV.aT=true:=by simp[eS,(bH s.kids).1]
theorem lenS(s:St):(eS s).length=4:=rfl
theorem su(s:St):List.take 4 (eS s)=eS s:=rfl
theorem UL(s:St):List.drop 4 (eS s)=[]:=rfl
def aks(X:Kn)(c:jy)(o:Op)(s:St)(out:Out):Prop:=∃u:St,out=.ret (.tuple [.agg (eS u),.bool (X.take c o s).isSome])∧∀t,X.take c o s=some t→u=t
structure afo(mi:Nat)(os:List Op)(x:Nat)(o:Op)(c:jy):Prop where
 get:os[x]?=some o
 name:o.name=c.name
 ar:o.args.length=c.ar
 yr:c.yr=mi
variable{C:bQ}{X:Kn}(S:Std C X)
include S
theorem an9{mi:Nat}{os:List Op}{cO:AV}(hc:gI 10 eO cO os){x:Nat}{o:Op}{c:jy}(hx:afo mi os x o c){s s0:St}(hs:iz mi s){e:Nat}{h:T ah}{nx bj:Key}(hb:ae bj h=some (.cells (jB X mi cO s0 e) .fix))(EJ:bj.toNat<nx.toNat) :
  aG C fS [.ptr bj 0,I x,.agg (eS s)] h nx (fun out h' nx'=>aks X c o s out∧Ext h nx h' nx'):=by
 obtain⟨hxo,hn,NQ,rfl⟩:=hx;obtain⟨hxl,hox⟩:=List.getElem?_eq_some_iff.1 hxo;have s1:=kTSu nx;have s2:=kTSu nx.succ;have s3:=kTSu nx.succ.succ;have rC:C.raw IK=false:=S.nr (by decide);have rH:C.raw B6=false:=S.nr (by decide);have rN:C.raw Fb=false:=S.nr (by decide);have E9:cO=.sl (ag eO os) os.length 10 .any:=by
  rcases hc with⟨_,rfl⟩|e
  ·simp at hxl
  ·exact e
 subst E9;have ec:=fP.at hxl;have hr:=fP.rows os;have tx:10≤os.length*10-x*10:=by omega
 have WT:(eO os[x]).all AV.aT=true:=wG.2 (fP.cell _);rw[hox]at ec WT;have scC:=S.s_CanP c s o.args hs NQ;have scH:=S.s_HoldsP c s o.args o.res hs NQ;have scN:=S.s_NextP c s o.args o.res hs NQ;have NF:X.take c o s=if X.TC c s o.args≠0∨X.TB c s o.args=false then none
  else if 0≤o.e∧(X.uj c s o.args o.res≠0∨X.ui c s o.args o.res=false)then none
  else if X.y9 c s o.args o.res≠0 then none else some (X.vY c s o.args o.res):=rfl
 refine S.tM.call ?_;simp[pK];simp[sF,xS,lenS];have e2:=(E0 h nx (.cells (eS s) .fix)).trans (E0 _ nx.succ (.cells [I 0,I 0,.str 0 0,.nils] .fix));have bs2:ae nx (aw nx.succ (some (.cells [I 0,I 0,.str 0 0,.nils] .fix)) (aw nx (some (.cells (eS s) .fix)) h))=some (.cells (eS s) .fix):=by rw[ax (by omega)];simp
 have b62:ae nx.succ (aw nx.succ (some (.cells [I 0,I 0,.str 0 0,.nils] .fix)) (aw nx (some (.cells (eS s) .fix)) h))=some (.cells [I 0,I 0,.str 0 0,.nils] .fix):=by simp
 have Yn:ae bj (aw nx.succ (some (.cells [I 0,I 0,.str 0 0,.nils] .fix)) (aw nx (some (.cells (eS s) .fix)) h))=some (.cells (jB X c.yr (.sl (ag eO os) os.length 10 .any) s0 e) .fix):=by rw[e2.g bj EJ];exact hb
 generalize aw nx.succ (some (.cells [I 0,I 0,.str 0 0,.nils] .fix)) (aw nx (some (.cells (eS s) .fix)) h)=h2 at *;simp[sG,Yn,jB,hxl,hr,tx,ec,QS,ZE,WT];have e3:=E0 h2 nx.succ.succ (.cells (eO o) .fix);have bo3:ae nx.succ.succ (aw nx.succ.succ (some (.cells (eO o) .fix)) h2)=some (.cells (eO o) .fix):=by simp
 have bs3:ae nx (aw nx.succ.succ (some (.cells (eO o) .fix)) h2)=some (.cells (eS s) .fix):=by rw[e3.g nx (by omega)];exact bs2
 have b63:ae nx.succ (aw nx.succ.succ (some (.cells (eO o) .fix)) h2)=some (.cells [I 0,I 0,.str 0 0,.nils] .fix):=by rw[e3.g nx.succ (by omega)];exact b62
 have RZ:ae bj (aw nx.succ.succ (some (.cells (eO o) .fix)) h2)=some (.cells (jB X c.yr (.sl (ag eO os) os.length 10 .any) s0 e) .fix):=by rw[e3.g bj (by omega)];exact Yn
 have Iy:=e2.trans e3;generalize aw nx.succ.succ (some (.cells (eO o) .fix)) h2=h3 at *;have af:∀n H,aM n (aL o.args) H=(aL o.args,H):=dM _;have done:∀(c6:List AV),Ext h nx (aw nx.succ (some (.cells c6 .fix)) h3) nx.succ.succ.succ:=fun c6=>Iy.put (by omega);simp[sH,RZ,jB,bo3,bs3,eO,hn,rC,su,lenS,zd,af];refine aG.known (scC _ _) ?_;simp;have yz:X.take c o s=none→aks X c o s (.ret (.tuple [.agg [I 0,I 0,.str 0 0,.nils],.bool false])):=fun e=>⟨⟨0,0,[]⟩,by rw[e];rfl,by rw[e];simp⟩;by_cases h1:X.TC c s o.args=0
 ·cases h2:X.TB c s o.args with
  |false=>
   have ht:X.take c o s=none:=by rw[NF,if_pos (.inr h2)]
   simp[gS,h1];simp[kQ,b63];exact⟨yz ht,done _⟩
  |true=>
   have nu:X.take c o s=if 0≤o.e∧(X.uj c s o.args o.res≠0∨X.ui c s o.args o.res=false)then none else if X.y9 c s o.args o.res≠0 then none else some (X.vY c s o.args o.res):=by rw[NF,if_neg];rw[h1,h2];simp
   have s4:=kTSu nx.succ.succ.succ;simp[gS,h1];have last:∀aJ:T AV,ae (K 0) aJ=some (.ptr bj 0)→ae (K 5) aJ=some (.ptr nx 0)→ae (K 6) aJ=some (.ptr nx.succ 0)→ae (K 8) aJ=some (.ptr nx.succ.succ 0)→(X.take c o s=if X.y9 c s o.args o.res≠0 then none else some (X.vY c s o.args o.res))→
     gn C (.seq (.staged kR ⟨[K 83,K 84,K 85,K 86,K 87,K 88,K 89,K 90,K 91,K 92,K 93,K 94,K 95,K 96,K 97,K 98,K 99,K 100,K 101,K 102,K 82,K 103,K 104,K 13,K 10],[]⟩) (.seq (.ops j6) .ret)) (bZ [.cell (K 6) true 4,.tmp (K 7)] fun out h' nx'=>aks X c o s out∧Ext h nx h' nx') aJ h3 nx.succ.succ.succ:=by
    intro aJ q0 q5 q6 q8 ht;simp;simp[kR,q0,q5,q8,RZ,jB,bo3,bs3,eO,hn,rN,su,lenS,zd,af];refine aG.known (scN _ _) ?_;simp[xS,lenS,UL];have b64:ae nx.succ (aw nx.succ.succ.succ (some (.cells (eS (X.vY c s o.args o.res)) .fix)) h3)=some (.cells [I 0,I 0,.str 0 0,.nils] .fix):=by rw[ax (by omega)];exact b63
    simp[j6,q6,b64,xS,lenS,su,zd];refine⟨⟨X.vY c s o.args o.res,?_,?_⟩,?_⟩
    ·rw[ht];by_cases he:X.y9 c s o.args o.res=0
     ·rw[if_neg (by simpa using he),bt he];rfl
     ·rw[if_pos he,bq he];rfl
    ·intro t hts;rw[ht]at hts;split at hts
     ·cases hts
     ·exact Option.some.inj hts
    ·exact⟨by have:=Iy.n;omega,fun b hb=>by rw[ax (by omega),ax (by omega)];exact Iy.g b hb⟩
   simp only[bM,bO]at last;by_cases he:o.e<0
   ·rw[if_neg (by omega)]at nu;simp[kT,bo3,eO,he];refine last _ ?_ ?_ ?_ ?_ nu<;>simp
   ·simp[kT,bo3,eO,he];simp[sI,RZ,jB,bo3,bs3,eO,hn,rH,su,lenS,zd,af];refine aG.known (scH _ _) ?_;simp;by_cases Wd:X.uj c s o.args o.res=0
    ·cases h4:X.ui c s o.args o.res with
     |false=>rw[if_pos ⟨by omega,.inr h4⟩]at nu;simp[gT,Wd];simp[kU,b63];exact⟨yz nu,done _⟩
     |true=>rw[if_neg (by rw[Wd,h4];simp)]at nu;simp[gT,Wd];refine last _ ?_ ?_ ?_ ?_ nu<;>simp
    ·rw[if_pos ⟨by omega,.inl Wd⟩]at nu;simp[gT,bq Wd];simp[kU,b63];exact⟨yz nu,done _⟩
 ·have ht:X.take c o s=none:=by rw[NF,if_pos (.inl h1)]
  simp[gS,bq h1];simp[kQ,b63];exact⟨yz ht,done _⟩
end Ln
namespace Ln
open Go.Sx Go
variable{C:bQ}{X:Kn}(S:Std C X)
include S
theorem ais{mi:Nat}{os:List Op}{cO:AV}(hc:gI 10 eO cO os){x:Nat}{o:Op}{c:jy}(hx:afo mi os x o c){s s0:St}(hs:iz mi s){h:T ah}{nx bj:Key}(hb:ae bj h=some (.cells (wB X mi cO s0) .fix))(EJ:bj.toNat<nx.toNat) :
  aG C iH [.ptr bj 0,I x,.agg (eS s)] h nx (fun out h' nx'=>aks X c o s out∧Ext h nx h' nx'):=by
 obtain⟨hxo,hn,NQ,rfl⟩:=hx;obtain⟨hxl,hox⟩:=List.getElem?_eq_some_iff.1 hxo;have s1:=kTSu nx;have s2:=kTSu nx.succ;have s3:=kTSu nx.succ.succ;have rC:C.raw IZ=false:=S.nr (by decide);have rH:C.raw B8=false:=S.nr (by decide);have rN:C.raw Fl=false:=S.nr (by decide);have E9:cO=.sl (ag eO os) os.length 10 .any:=by
  rcases hc with⟨_,rfl⟩|e
  ·simp at hxl
  ·exact e
 subst E9;have ec:=fP.at hxl;have hr:=fP.rows os;have tx:10≤os.length*10-x*10:=by omega
 have WT:(eO os[x]).all AV.aT=true:=wG.2 (fP.cell _);rw[hox]at ec WT;have scC:=S.s_CanR c s o.args hs NQ;have scH:=S.s_HoldsR c s o.args o.res hs NQ;have scN:=S.s_NextR c s o.args o.res hs NQ;have NF:X.take c o s=if X.TC c s o.args≠0∨X.TB c s o.args=false then none
  else if 0≤o.e∧(X.uj c s o.args o.res≠0∨X.ui c s o.args o.res=false)then none
  else if X.y9 c s o.args o.res≠0 then none else some (X.vY c s o.args o.res):=rfl
 refine S.I0.call ?_;simp[Fo];simp[GH,xS,lenS];have e2:=(E0 h nx (.cells (eS s) .fix)).trans (E0 _ nx.succ (.cells [I 0,I 0,.str 0 0,.nils] .fix));have bs2:ae nx (aw nx.succ (some (.cells [I 0,I 0,.str 0 0,.nils] .fix)) (aw nx (some (.cells (eS s) .fix)) h))=some (.cells (eS s) .fix):=by rw[ax (by omega)];simp
 have b62:ae nx.succ (aw nx.succ (some (.cells [I 0,I 0,.str 0 0,.nils] .fix)) (aw nx (some (.cells (eS s) .fix)) h))=some (.cells [I 0,I 0,.str 0 0,.nils] .fix):=by simp
 have Yn:ae bj (aw nx.succ (some (.cells [I 0,I 0,.str 0 0,.nils] .fix)) (aw nx (some (.cells (eS s) .fix)) h))=some (.cells (wB X c.yr (.sl (ag eO os) os.length 10 .any) s0) .fix):=by rw[e2.g bj EJ];exact hb
 generalize aw nx.succ (some (.cells [I 0,I 0,.str 0 0,.nils] .fix)) (aw nx (some (.cells (eS s) .fix)) h)=h2 at *;simp[GI,Yn,wB,hxl,hr,tx,ec,QS,ZE,WT];have e3:=E0 h2 nx.succ.succ (.cells (eO o) .fix);have bo3:ae nx.succ.succ (aw nx.succ.succ (some (.cells (eO o) .fix)) h2)=some (.cells (eO o) .fix):=by simp
 have bs3:ae nx (aw nx.succ.succ (some (.cells (eO o) .fix)) h2)=some (.cells (eS s) .fix):=by rw[e3.g nx (by omega)];exact bs2
 have b63:ae nx.succ (aw nx.succ.succ (some (.cells (eO o) .fix)) h2)=some (.cells [I 0,I 0,.str 0 0,.nils] .fix):=by rw[e3.g nx.succ (by omega)];exact b62
 have RZ:ae bj (aw nx.succ.succ (some (.cells (eO o) .fix)) h2)=some (.cells (wB X c.yr (.sl (ag eO os) os.length 10 .any) s0) .fix):=by rw[e3.g bj (by omega)];exact Yn
 have Iy:=e2.trans e3;generalize aw nx.succ.succ (some (.cells (eO o) .fix)) h2=h3 at *;have af:∀n H,aM n (aL o.args) H=(aL o.args,H):=dM _;have done:∀(c6:List AV),Ext h nx (aw nx.succ (some (.cells c6 .fix)) h3) nx.succ.succ.succ:=fun c6=>Iy.put (by omega);simp[GJ,RZ,wB,bo3,bs3,eO,hn,rC,su,lenS,zd,af];refine aG.known (scC _ _) ?_;simp;have yz:X.take c o s=none→aks X c o s (.ret (.tuple [.agg [I 0,I 0,.str 0 0,.nils],.bool false])):=fun e=>⟨⟨0,0,[]⟩,by rw[e];rfl,by rw[e];simp⟩;by_cases h1:X.TC c s o.args=0
 ·cases h2:X.TB c s o.args with
  |false=>
   have ht:X.take c o s=none:=by rw[NF,if_pos (.inr h2)]
   simp[qC,h1];simp[w7,b63];exact⟨yz ht,done _⟩
  |true=>
   have nu:X.take c o s=if 0≤o.e∧(X.uj c s o.args o.res≠0∨X.ui c s o.args o.res=false)then none else if X.y9 c s o.args o.res≠0 then none else some (X.vY c s o.args o.res):=by rw[NF,if_neg];rw[h1,h2];simp
   have s4:=kTSu nx.succ.succ.succ;simp[qC,h1];have last:∀aJ:T AV,ae (K 0) aJ=some (.ptr bj 0)→ae (K 5) aJ=some (.ptr nx 0)→ae (K 6) aJ=some (.ptr nx.succ 0)→ae (K 8) aJ=some (.ptr nx.succ.succ 0)→(X.take c o s=if X.y9 c s o.args o.res≠0 then none else some (X.vY c s o.args o.res))→
     gn C (.seq (.staged w8 ⟨[K 84,K 85,K 86,K 87,K 88,K 89,K 90,K 91,K 92,K 93,K 94,K 95,K 96,K 97,K 98,K 99,K 100,K 101,K 102,K 103,K 83,K 104,K 105,K 13,K 14],[]⟩) (.seq (.ops uV) .ret)) (bZ [.cell (K 6) true 4,.tmp (K 7)] fun out h' nx'=>aks X c o s out∧Ext h nx h' nx') aJ h3 nx.succ.succ.succ:=by
    intro aJ q0 q5 q6 q8 ht;simp;simp[w8,q0,q5,q8,RZ,wB,bo3,bs3,eO,hn,rN,su,lenS,zd,af];refine aG.known (scN _ _) ?_;simp[xS,lenS,UL];have b64:ae nx.succ (aw nx.succ.succ.succ (some (.cells (eS (X.vY c s o.args o.res)) .fix)) h3)=some (.cells [I 0,I 0,.str 0 0,.nils] .fix):=by rw[ax (by omega)];exact b63
    simp[uV,q6,b64,xS,lenS,su,zd];refine⟨⟨X.vY c s o.args o.res,?_,?_⟩,?_⟩
    ·rw[ht];by_cases he:X.y9 c s o.args o.res=0
     ·rw[if_neg (by simpa using he),bt he];rfl
     ·rw[if_pos he,bq he];rfl
    ·intro t hts;rw[ht]at hts;split at hts
     ·cases hts
     ·exact Option.some.inj hts
    ·exact⟨by have:=Iy.n;omega,fun b hb=>by rw[ax (by omega),ax (by omega)];exact Iy.g b hb⟩
   simp only[bM,bO]at last;by_cases he:o.e<0
   ·rw[if_neg (by omega)]at nu;simp[w9,bo3,eO,he];refine last _ ?_ ?_ ?_ ?_ nu<;>simp
   ·simp[w9,bo3,eO,he];simp[GK,RZ,wB,bo3,bs3,eO,hn,rH,su,lenS,zd,af];refine aG.known (scH _ _) ?_;simp;by_cases Wd:X.uj c s o.args o.res=0
    ·cases h4:X.ui c s o.args o.res with
     |false=>rw[if_pos ⟨by omega,.inr h4⟩]at nu;simp[qD,Wd];simp[xa,b63];exact⟨yz nu,done _⟩
     |true=>rw[if_neg (by rw[Wd,h4];simp)]at nu;simp[qD,Wd];refine last _ ?_ ?_ ?_ ?_ nu<;>simp
    ·rw[if_pos ⟨by omega,.inl Wd⟩]at nu;simp[qD,bq Wd];simp[xa,b63];exact⟨yz nu,done _⟩
 ·have ht:X.take c o s=none:=by rw[NF,if_pos (.inl h1)]
  simp[qC,bq h1];simp[w7,b63];exact⟨yz ht,done _⟩
end Ln
namespace Ln
open Go.Sx Go
def cm(i:Nat)(o:Op):jy:=(nv i o.name).getD default
def Kn.run(X:Kn)(i:Nat)(os:List Op):List Int→St→Bool
 | [],_=>true
 |x ::l,s=>match X.take (cm i (at_ os x)) (at_ os x) s with
  |none=>false
  |some t=>X.run i os l t
theorem QQ{i:Nat}{l:List Ev}(h:mh i l=0):bu [] l=0∧lY i (cT 0 l)=0:=by
 unfold mh at h;by_cases hv:bu [] l=0
 ·rw[if_pos hv]at h;exact⟨hv,h⟩
 ·rw[if_neg hv]at h;exfalso;unfold gp at h;split at h
  ·exact hv ‹_›
  ·exact absurd h (by decide)
  ·exact absurd h (by decide)
  ·exact absurd h (by decide)
theorem S9{i:Nat}(hi:i<3){os:List Op}(hb:lY i os=0){x:Nat}{o:Op}(h:os[x]?=some o):afo i os x o (cm i o):=by
 obtain⟨c,h1,h2⟩:=Z2 hb o (List.mem_of_getElem? h);have e:cm i o=c:=by unfold cm;rw[h1];rfl
 rw[e];exact⟨h,(UW h1).1.symm,h2,aku hi h1⟩
theorem ZC{i:Nat}(hi:i<3):iz i (cX i):=by unfold iz cX BP;split<;>simp
variable{C:bQ}{X:Kn}(S:Std C X)
include S
end Ln
namespace Ln
open Go.Sx Go
variable{C:bQ}{X:Kn}(S:Std C X)
include S
end Ln
namespace Ln
open Go.Sx Go
variable{C:bQ}{X:Kn}(S:Std C X)
include S
end Ln
namespace Ln
section
variable{σ:Type}
abbrev Cf(σ:Type):=Nat×σ
structure Sys(σ:Type) where
 n:Nat
 JP:Nat→Nat→Bool
 take:Nat→σ→Option σ
 acc:Nat→Bool
def Sys.step(S:Sys σ)(c:Cf σ)(i:Nat):Option (Nat×Cf σ):=if S.JP i c.1=true then(S.take i c.2).map fun s=>(i,(c.1+2^i,s))else none
def Sys.steps(S:Sys σ)(c:Cf σ):List (Nat×Cf σ):=(List.range S.n).filterMap (S.step c)
def Sys.Ok(S:Sys σ):Prop:=∀i d,S.JP i d=true→d.testBit i=false
inductive Good(S:Sys σ):Cf σ→Prop
 |now {c:Cf σ} (h:S.acc c.1=true):Good S c
 |step {c c':Cf σ} {i:Nat} (h:(i,c')∈S.steps c) (g:Good S c'):Good S c
inductive Path(S:Sys σ):Cf σ→List Nat→Prop
 |now {c:Cf σ} (h:S.acc c.1=true):Path S c []
 |step {c c':Cf σ} {i:Nat} {p:List Nat} {a b:List (Nat×Cf σ)} (h:S.acc c.1=false) (e:S.steps c=a++(i,c') ::b) (no:∀x∈a,¬Good S x.2) (g:Path S c' p):Path S c (i ::p)
theorem Path.CU{S:Sys σ}{c:Cf σ}{p:List Nat}(h:Path S c p):Good S c:=by
 induction h with
 |now h=>exact .now h
 | @step c c' i p a b h e no g ih=>exact .step (i:=i) (by rw[e];simp) ih
theorem Path.uniq{S:Sys σ}{c:Cf σ}{p:List Nat}(h:Path S c p):∀{q:List Nat},Path S c q→p=q:=by
 induction h with
 |now h=>
  intro q hq;cases hq with
  |now _=>rfl
  |step h'=>rw[h]at h';cases h'
 | @step c c' i p a b h e no g ih=>
  intro q hq;cases hq with
  |now h'=>rw[h]at h';cases h'
  | @step _ c2 i2 p2 a2 b2 h' e' no' g'=>
   have key:∀(a a2:List (Nat×Cf σ)),a++(i,c') ::b=a2++(i2,c2) ::b2→(∀x∈a,¬Good S x.2)→(∀x∈a2,¬Good S x.2)→(i,c')=(i2,c2):=by
    intro a
    induction a with
    |nil=>
     intro a2 e3 n1 n2;cases a2 with
     |nil=>simp only[List.nil_append,List.cons.injEq]at e3;exact e3.1
     |cons y t=>simp only[List.nil_append,List.cons_append,List.cons.injEq]at e3;exact absurd g.CU (by have:=n2 y (by simp);rw[←e3.1]at this;exact this)
    |cons x t iht=>
     intro a2 e3 n1 n2;cases a2 with
     |nil=>simp only[List.nil_append,List.cons_append,List.cons.injEq]at e3;exact absurd g'.CU (by have:=n1 x (by simp);rw[e3.1]at this;exact this)
     |cons y s=>simp only[List.cons_append,List.cons.injEq]at e3;exact iht s e3.2 (fun x hx=>n1 x (by simp[hx])) (fun x hx=>n2 x (by simp[hx]))
   have:=key a a2 (e.symm.trans e') no no';cases this;rw[ih g']
theorem OW{S:Sys σ}{c c':Cf σ}{i:Nat}(h:(i,c')∈S.steps c):i<S.n∧S.JP i c.1=true∧c'.1=c.1+2^i∧S.take i c.2=some c'.2:=by
 unfold Sys.steps at h;rw[List.mem_filterMap]at h;obtain⟨j,hj,e⟩:=h;unfold Sys.step at e;split at e
 ·rename_i ho;cases ht:S.take j c.2 with
  |none=>rw[ht]at e;cases e
  |some s=>rw[ht]at e;simp only[Option.map_some,Option.some.injEq,Prod.mk.injEq]at e;obtain⟨rfl,rfl⟩:=e;exact⟨List.mem_range.1 hj,ho,rfl,ht⟩
 ·cases e
theorem aeO:∀(i d:Nat),d.testBit i=false→d ||| 2^i=d+2^i
 |0,d,h=>by
  have h1:(d ||| 2^0) / 2=d / 2:=by rw[Nat.or_div_two];simp
  have h2:(d ||| 2^0)%2=1:=by
   have:(d ||| 2^0)%2^1=d%2^1 ||| 2^0%2^1:=Nat.or_mod_two_pow;have hd:d%2=0:=by rw[Nat.testBit_zero]at h;simp at h;omega
   rw[show(2:Nat)^1=2 from rfl,hd]at this;exact this
  have hd:d%2=0:=by rw[Nat.testBit_zero]at h;simp at h;omega
  generalize d ||| 2^0=x at h1 h2 ⊢;rw[Nat.pow_zero];omega
 |i+1,d,h=>by
  have h1:(d ||| 2^(i+1)) / 2=d / 2 ||| 2^i:=by rw[Nat.or_div_two,Nat.pow_succ,Nat.mul_div_cancel _ (by omega)]
  have h2:(d ||| 2^(i+1))%2=d%2:=by
   have:(d ||| 2^(i+1))%2^1=d%2^1 ||| 2^(i+1)%2^1:=Nat.or_mod_two_pow;have e:2^(i+1)%2=0:=by rw[Nat.pow_succ];omega
   simpa[e]using this
  have:=aeO i (d / 2) (by rw[←Nat.testBit_succ];exact h);rw[this]at h1;generalize d ||| 2^(i+1)=x at h1 h2 ⊢;rw[Nat.pow_succ];omega
theorem amu{d n i:Nat}(hd:d<2^n)(hi:i<n)(hb:d.testBit i=false):d+2^i<2^n∧d ||| 2^i=d+2^i:=by have e:=aeO i d hb;refine⟨?_,e⟩;rw[←e];exact Nat.or_lt_two_pow hd (Nat.pow_lt_pow_right (by omega) hi)
theorem amv{S:Sys σ}(hS:S.Ok){c c':Cf σ}{i:Nat}(h:(i,c')∈S.steps c)(hc:c.1<2^S.n):c'.1<2^S.n∧2^S.n-c'.1<2^S.n-c.1∧c.1<c'.1:=by obtain⟨h1,h2,h3,h4⟩:=OW h;have:=amu hc h1 (hS _ _ h2);have:0<2^i:=Nat.two_pow_pos i;omega
variable[DecidableEq σ]
def dW(l:List (Cf σ))(c:Cf σ):List (Cf σ):=if c∈l then l else l ++ [c]
def eN:List (Cf σ)→List (Cf σ)→Option (List (Cf σ))
 |l,[]=>some l
 |l,c ::r=>if (dW l c).length>1024 then none else eN (dW l c) r
def S8(S:Sys σ):Nat→Nat→List (Cf σ)→Option (List (Cf σ))
 |0,_,l=>some l
 |f+1,i,l=>match l[i]? with
  |none=>some l
  |some c=>match eN l ((S.steps c).map (·.2))with
   |none=>none
   |some l'=>S8 S f (i+1) l'
theorem amw(l:List (Cf σ))(c:Cf σ):∃r,dW l c=l++r:=by
 unfold dW;split
 ·exact⟨[],by simp⟩
 ·exact⟨[c],rfl⟩
theorem amx(l:List (Cf σ))(c:Cf σ):c∈dW l c:=by unfold dW;split<;>simp_all
theorem TF{l:List (Cf σ)}(h:l.Nodup)(c:Cf σ):(dW l c).Nodup:=by
 unfold dW;split
 ·exact h
 ·rename_i hc;rw[List.nodup_append];refine⟨h,by simp,?_⟩;intro a ha b hb;simp at hb;rintro rfl;subst hb;exact hc ha
theorem abk{p:Cf σ→Prop}{l:List (Cf σ)}{c:Cf σ}(h:∀x∈l,p x)(hc:p c):∀x∈dW l c,p x:=by
 unfold dW;split
 ·exact h
 ·intro x hx;rcases List.mem_append.1 hx with hx|hx
  ·exact h x hx
  ·simp at hx;rw[hx];exact hc
theorem qZ:∀{r l l':List (Cf σ)},eN l r=some l'→(∃t,l'=l++t)∧(∀c∈r,c∈l')∧(l.Nodup→l'.Nodup)∧(l.length≤1024→l'.length≤1024)∧(∀x∈l',x∈l∨x∈r)
 | [],l,l',h=>by unfold eN at h;cases h;exact⟨⟨[],by simp⟩,by simp,id,id,fun x hx=>.inl hx⟩
 |c ::r,l,l',h=>by
  unfold eN at h;split at h
  ·cases h
  ·rename_i hl;obtain⟨⟨t,e⟩,h2,h3,h4,h5⟩:=qZ h;obtain⟨u,e2⟩:=amw l c;refine⟨⟨u++t,by rw[e,e2];simp⟩,?_,fun hn=>h3 (TF hn c),fun _=>h4 (by omega),?_⟩
   ·intro x hx;rcases List.mem_cons.1 hx with rfl|hx
    ·rw[e];exact List.mem_append_left _ (amx _ _)
    ·exact h2 x hx
   ·intro x hx;rcases h5 x hx with hx|hx
    ·unfold dW at hx;split at hx
     ·exact .inl hx
     ·rcases List.mem_append.1 hx with hx|hx
      ·exact .inl hx
      ·simp at hx;subst hx;exact .inr (by simp)
    ·exact .inr (by simp[hx])
def pop:Nat→Nat→Nat
 |0,_=>0
 |n+1,d=>pop n d+(if d.testBit n then 1 else 0)
theorem amy(d i:Nat)(hb:d.testBit i=false):∀n:Nat,pop n (d ||| 2^i)=pop n d+(if i<n then 1 else 0)
 |0=>by simp[pop]
 |n+1=>by
  unfold pop;rw[amy d i hb n,Nat.testBit_or,Nat.testBit_two_pow];by_cases h:i=n
  ·subst h;rw[hb];simp
  ·by_cases h2:i<n
   ·simp[h,h2,show i<n+1 by omega];omega
   ·simp[h,h2,show ¬i<n+1 by omega]
structure Kept(S:Sys σ)(i:Nat)(l:List (Cf σ)):Prop where
 nodup:l.Nodup
 len:l.length≤1024
 lt:∀c∈l,c.1<2^S.n
 mono:l.Pairwise fun a b=>pop S.n a.1≤pop S.n b.1
 aFh:∀c,l[i]?=some c→∀x∈l,pop S.n x.1≤pop S.n c.1+1
 done:∀(j:Nat) (c:Cf σ),j<i→l[j]?=some c→∀x∈S.steps c,x.2∈l
theorem TG{S:Sys σ}(hS:S.Ok){c c':Cf σ}{i:Nat}(h:(i,c')∈S.steps c)(hc:c.1<2^S.n):pop S.n c'.1=pop S.n c.1+1:=by obtain⟨h1,h2,h3,h4⟩:=OW h;have hb:=hS _ _ h2;rw[h3,←(amu hc h1 hb).2,amy _ _ hb,if_pos h1]
theorem ajP{S:Sys σ}{l:List (Cf σ)}{c:Cf σ}{k:Nat}(hk:pop S.n c.1=k+1)(hle:∀x∈l,pop S.n x.1≤k+1)(hm:l.Pairwise fun a b=>pop S.n a.1≤pop S.n b.1) :
  (dW l c).Pairwise (fun a b=>pop S.n a.1≤pop S.n b.1)∧∀x∈dW l c,pop S.n x.1≤k+1:=by
 refine⟨?_,abk hle (by omega)⟩;unfold dW;split
 ·exact hm
 ·rw[List.pairwise_append];refine⟨hm,by simp,?_⟩;intro a ha b hb;simp at hb;subst hb;have:=hle a ha;omega
theorem Qg{S:Sys σ}{k:Nat}:∀{r l l':List (Cf σ)},eN l r=some l'→(∀c∈r,pop S.n c.1=k+1)→(∀x∈l,pop S.n x.1≤k+1)→(l.Pairwise fun a b=>pop S.n a.1≤pop S.n b.1)→
  (l'.Pairwise fun a b=>pop S.n a.1≤pop S.n b.1)∧∀x∈l',pop S.n x.1≤k+1
 | [],l,l',h,_,h2,h3=>by unfold eN at h;cases h;exact⟨h3,h2⟩
 |c ::r,l,l',h,h1,h2,h3=>by
  unfold eN at h;split at h
  ·cases h
  ·obtain⟨a,b⟩:=ajP (S:=S) (h1 c (by simp)) h2 h3;exact Qg h (fun c hc=>h1 c (by simp[hc])) b a
theorem Kept.next{S:Sys σ}(hS:S.Ok){i:Nat}{l l':List (Cf σ)}(h:Kept S i l){c:Cf σ}(hc:l[i]?=some c)(ha:eN l ((S.steps c).map (·.2))=some l'):Kept S (i+1) l':=by
 have Kb:c∈l:=List.mem_of_getElem? hc;have arz:=h.lt c Kb;obtain⟨⟨t,e⟩,h2,h3,h4,h5⟩:=qZ ha;obtain⟨m1,m2⟩:=Qg (S:=S) (k:=pop S.n c.1) ha (by intro x hx;rw[List.mem_map]at hx;obtain⟨⟨j,y⟩,hy,rfl⟩:=hx;exact TG hS hy arz) (h.aFh c hc) h.mono
 refine⟨h3 h.nodup,h4 h.len,?_,m1,?_,?_⟩
 ·intro x hx;rcases h5 x hx with hx|hx
  ·exact h.lt x hx
  ·rw[List.mem_map]at hx;obtain⟨⟨j,y⟩,hy,rfl⟩:=hx;exact(amv hS hy arz).1
 ·intro c2 hc2 x hx;have hle:=m2 x hx;have:pop S.n c.1≤pop S.n c2.1:=by
   have hp:=List.pairwise_iff_getElem.1 m1;obtain⟨q1,q2⟩:=List.getElem?_eq_some_iff.1 hc2;have hi:i<l'.length:=by omega
   have hci:l'[i]=c:=by
    have Jx:i<l.length:=(List.getElem?_eq_some_iff.1 hc).1;have:l'[i]?=some c:=by rw[e,List.getElem?_append_left Jx];exact hc
    exact(List.getElem?_eq_some_iff.1 this).2
   have:=hp i (i+1) hi q1 (by omega);rw[hci,q2]at this;exact this
  omega
 ·intro j c2 hj hc2 x hx;by_cases v7:j=i
  ·subst v7;have:c2=c:=by have Jx:j<l.length:=(List.getElem?_eq_some_iff.1 hc).1;rw[e,List.getElem?_append_left Jx,hc]at hc2;exact(Option.some.inj hc2).symm
   subst this;exact h2 _ (List.mem_map.2 ⟨x,hx,rfl⟩)
  ·have bW:j<l.length:=by have:=(List.getElem?_eq_some_iff.1 hc).1;omega
   rw[e,List.getElem?_append_left bW]at hc2;have:=h.done j c2 (by omega) hc2 x hx;rw[e];exact List.mem_append_left _ this
theorem Kept.up{S:Sys σ}(hS:S.Ok){i:Nat}{l:List (Cf σ)}(h:Kept S i l){j k:Nat}{c c':Cf σ}(hc:l[j]?=some c)(hk:l[k]?=some c'){q:Nat}(hs:(q,c')∈S.steps c):j<k:=by
 rcases Nat.lt_or_ge j k with hjk|hjk
 ·exact hjk
 ·exfalso;have hp:=TG hS hs (h.lt c (List.mem_of_getElem? hc));obtain⟨a1,a2⟩:=List.getElem?_eq_some_iff.1 hc;obtain⟨b1,b2⟩:=List.getElem?_eq_some_iff.1 hk;rcases Nat.lt_or_ge k j with cD|Wl
  ·have:=List.pairwise_iff_getElem.1 h.mono k j b1 a1 cD;rw[a2,b2]at this;omega
  ·have:j=k:=by omega
   subst this;rw[hc]at hk;cases hk;omega
end
section
variable{σ:Type}[DecidableEq σ]
open Classical in
noncomputable def sB(S:Sys σ)(c:Cf σ):Bool:=decide (Good S c)
theorem JN{S:Sys σ}{c:Cf σ}:sB S c=true↔Good S c:=by unfold sB;exact @decide_eq_true_iff _ (Classical.propDecidable _)
theorem Yf{S:Sys σ}{c:Cf σ}:sB S c=false↔¬Good S c:=by rw[←JN];cases sB S c<;>simp
theorem ad8{S:Sys σ}(c:Cf σ):sB S c=(S.acc c.1||(S.steps c).any fun x=>sB S x.2):=by
 rw[Bool.eq_iff_iff,JN,Bool.or_eq_true,List.any_eq_true];constructor
 ·intro h;cases h with
  |now h=>exact .inl h
  | @step c c' i h g=>exact .inr ⟨(i,c'),h,JN.2 g⟩
 ·rintro(h|⟨⟨i,c'⟩,hx,g⟩)
  ·exact .now h
  ·exact .step hx (JN.1 g)
def rowOf(S:Sys σ)(l:List (Cf σ))(c:Cf σ):List (Nat×Nat):=(S.steps c).map fun x=>(x.1,l.idxOf x.2)
theorem aih{l t:List (Cf σ)}{c:Cf σ}(h:c∈l):(l++t).idxOf c=l.idxOf c:=by rw[List.idxOf_append,if_pos h]
theorem alz{S:Sys σ}{l t:List (Cf σ)}{c:Cf σ}(h:∀x∈S.steps c,x.2∈l):rowOf S (l++t) c=rowOf S l c:=by unfold rowOf;apply List.map_congr_left;intro x hx;rw[aih (h x hx)]
theorem JM{l:List (Cf σ)}{c:Cf σ}(h:c∈l):l[l.idxOf c]?=some c:=by have:=List.idxOf_lt_length_of_mem h;rw[List.getElem?_eq_getElem this,List.getElem_idxOf]
theorem axZ{l:List (Cf σ)}(hn:l.Nodup){c:Cf σ}{j:Nat}(h:l[j]?=some c):l.idxOf c=j:=by have h1:=JM (List.mem_of_getElem? h);have a1:=(List.getElem?_eq_some_iff.1 h1);have a2:=(List.getElem?_eq_some_iff.1 h);obtain⟨p1,p2⟩:=a1;obtain⟨q1,q2⟩:=a2;exact(List.getElem_inj hn).1 (p2.trans q2.symm)
structure Whole(S:Sys σ)(l:List (Cf σ))(c0:Cf σ):Prop where
 kept:Kept S l.length l
 first:l[0]?=some c0
theorem Whole.closed{S:Sys σ}{l:List (Cf σ)}{c0:Cf σ}(h:Whole S l c0){c:Cf σ}(hc:c∈l):∀x∈S.steps c,x.2∈l:=by obtain⟨j,hj,e⟩:=List.getElem_of_mem hc;exact h.kept.done j c hj (by rw[List.getElem?_eq_getElem hj,e])
theorem Kept.start{S:Sys σ}{s:σ}(Pl:1≤1024):Kept S 0 [(0,s)]:=by
 refine⟨by simp,by simp,?_,by simp,?_,?_⟩
 ·intro c hc;simp at hc;subst hc;exact Nat.two_pow_pos _
 ·intro c hc x hx;simp at hc hx;subst hc;subst hx;omega
 ·intro j c hj;omega
theorem abi{S:Sys σ}{f i:Nat}{l:List (Cf σ)}{c:Cf σ}(h:l[i]?=some c):S8 S (f+1) i l=match eN l ((S.steps c).map (·.2))with|none=>none|some l'=>S8 S f (i+1) l':=by show(match l[i]? with|none=>some l|some c=>_)=_;simp only[h]<;>rfl
theorem ah3{S:Sys σ}{f i:Nat}{l:List (Cf σ)}(h:l.length≤i):S8 S f i l=some l:=by
 cases f with
 |zero=>rfl
 |succ f=>show(match l[i]? with|none=>some l|some c=>_)=_;rw[List.getElem?_eq_none h]
theorem Path.more{S:Sys σ}{c c':Cf σ}{i:Nat}{p:List Nat}{a b:List (Nat×Cf σ)}(h:S.acc c.1=false)(e:S.steps c=a++(i,c') ::b)(no:∀x∈a,¬Good S x.2)(g:Path S c' p):Path S c (i ::p):=.step h e no g
theorem aqc{S:Sys σ}{c:Cf σ}(h:S.acc c.1=false)(no:∀x∈S.steps c,¬Good S x.2):¬Good S c:=by
 intro hg;cases hg with
 |now h2=>rw[h]at h2;cases h2
 |step hs g=>exact no _ hs g
def Sys.dS(S:Sys σ)(c:Cf σ)(k:Nat):List (Nat×Cf σ):=(List.range k).filterMap (S.step c)
theorem gQ(S:Sys σ)(c:Cf σ)(k:Nat):S.dS c (k+1)=S.dS c k++(S.step c k).toList:=by unfold Sys.dS;rw[List.range_succ,List.filterMap_append];cases h:S.step c k<;>simp[h]
theorem Pn(S:Sys σ)(c:Cf σ):S.dS c S.n=S.steps c:=rfl
theorem Is(S:Sys σ)(c:Cf σ){k m:Nat}(h:k≤m):∃t,S.dS c m=S.dS c k++t:=by
 induction m with
 |zero=>exact⟨[],by obtain rfl:k=0:=Nat.le_zero.1 h;simp⟩
 |succ m ih=>
  rcases Nat.lt_or_ge k (m+1)with h1|h1
  ·obtain⟨t,e⟩:=ih (by omega);exact⟨t++(S.step c m).toList,by rw[gQ,e,List.append_assoc]⟩
  ·have:k=m+1:=by omega
   subst this;exact⟨[],by simp⟩
theorem Vx(S:Sys σ)(c:Cf σ){k:Nat}(h:k<S.n){x:Nat×Cf σ}(e:S.step c k=some x):∃b,S.steps c=S.dS c k++x ::b:=by obtain⟨t,e2⟩:=Is S c (k:=k+1) (m:=S.n) (by omega);refine⟨t,?_⟩;rw[←Pn,e2,gQ,e];simp
theorem RE{α:Type}{lt:α→α→Prop}(irr:∀a,¬lt a a)(tr:∀a b c,lt a b→lt b c→lt a c):∀{l m:List α},l.Pairwise lt→m.Pairwise lt→(∀x,x∈l↔x∈m)→l=m
 | [],[],_,_,_=>rfl
 | [],b ::m,_,_,h=>absurd ((h b).2 (by simp)) (by simp)
 |a ::l,[],_,_,h=>absurd ((h a).1 (by simp)) (by simp)
 |a ::l,b ::m,h1,h2,h=>by
  rw[List.pairwise_cons]at h1 h2;have hab:a=b:=by
   rcases List.mem_cons.1 ((h a).1 (by simp))with e|ha
   ·exact e
   ·rcases List.mem_cons.1 ((h b).2 (by simp))with e|hb
    ·exact e.symm
    ·exact absurd (tr _ _ _ (h1.1 b hb) (h2.1 a ha)) (irr a)
  subst hab;congr 1;refine RE irr tr h1.2 h2.2 fun x=>?_;constructor
  ·intro hx;rcases List.mem_cons.1 ((h x).1 (by simp[hx]))with e|hm
   ·subst e;exact absurd (h1.1 x hx) (irr x)
   ·exact hm
  ·intro hx;rcases List.mem_cons.1 ((h x).2 (by simp[hx]))with e|hm
   ·subst e;exact absurd (h2.1 x hx) (irr x)
   ·exact hm
end
end Ln
namespace Ln
open Go.Sx Go
def Av(os:List Op)(k d:Nat):Bool:=!d.testBit k&&(List.range os.length).all fun q=>q==k || !(before (os.getD q default) (os.getD k default)&&decide (0≤(os.getD q default).e) && !d.testBit q) && !(d.testBit q&&before (os.getD k default) (os.getD q default))
def C7(os:List Op)(d:Nat):Bool:=(List.range os.length).all fun q=>!decide (0≤(os.getD q default).e)||d.testBit q
def aP(X:Kn)(i:Nat)(os:List Op):Sys St:=⟨os.length,Av os,fun k s=>X.take (cm i (os.getD k default)) (os.getD k default) s,C7 os⟩
theorem JB(X:Kn)(i:Nat)(os:List Op):(aP X i os).Ok:=by intro k d h;have h:Av os k d=true:=h;unfold Av at h;rw[mP]at h;simpa using h.1
theorem pS{os:List Op}{k:Nat}(h:k<os.length):os.getD k default=os[k]:=by rw[List.getD_eq_getElem?_getD,yT h];rfl
variable{C:bQ}{X:Kn}(S:Std C X)
include S
theorem aff{k:Nat}(hk:k≤16){h:T ah}{nx:Key}:aG C js [I k] h nx (fun o h' nx'=>o=.ret (I ((2^k:Nat):Int))∧h'=h∧nx'=nx):=by
 refine S.Q6.call ?_;simp[PM];simp[Oi];simp[Oj];simp[Ol];refine W.dy (n:=k) (fun m ay h' nx'=>∃j:Nat,m=k-j∧j≤k∧ae (K 0) ay=some (I k)∧ae (K 4) ay=some (I j)∧ae (K 3) ay=some (I ((2^j:Nat):Int))∧h'=h∧nx'=nx) ⟨0,by simp,by omega,by simp,by simp,by simp,rfl,rfl⟩ ?_;rintro m ef h1 bS ⟨j,rfl,hj,g0,g4,g3,rfl,rfl⟩;refine W.of ?_;simp[Om];have hp:2^j≤65536:=lC (by omega);by_cases hjk:j<k
 ·have v7:(j:Int)<k:=by omega
  have hw:aW .i64 (2*((2^j:Nat):Int))=((2^(j+1):Nat):Int):=by rw[Nat.pow_succ];generalize 2^j=p at hp ⊢;rw[aB (by omega) (by omega)];omega
  simp[FH,g0,g4,v7];simp[On,g3,-Int.natCast_pow];simp[Oo,g4];rw[aB (n:=(j:Int)+1) (by omega) (by omega)];refine⟨k-(j+1),by omega,j+1,rfl,by omega,g0,by omega,?_⟩;have e:=hw;simpa using e
 ·have aKT:j=k:=by omega
  subst aKT;simp[FH,g0,g4];simp[Oq,g3]
theorem ajs{d k:Nat}(hd:d<65536)(hk:k≤16){h:T ah}{nx:Key}:aG C lf [I d,I k] h nx (fun o h' nx'=>o=.ret (.bool (d.testBit k))∧h'=h∧nx'=nx):=by
 have rb:C.raw js=false:=S.nr (by decide);refine S.Vk.call ?_;simp[U9];simp[Rp];simp[Rq,rb];refine(aff S hk).mono ?_;rintro o h1 bS ⟨rfl,rfl,rfl⟩;have hp:0<2^k:=Nat.two_pow_pos k;have hq:d / 2^k≤d:=Nat.div_le_self _ _;have hb:d.testBit k=decide (d / 2^k%2=1):=Nat.testBit_eq_decide_div_mod_eq;rw[hb];generalize 2^k=p at *;have h0:((p:Int)==0)=false:=bq (by omega);have hdv:Int.tdiv (d:Int) (p:Int)=((d / p:Nat):Int):=rfl;have hw:aW .i64 ((d / p:Nat):Int)=((d / p:Nat):Int):=by generalize d / p=q at *;exact aB (by omega) (by omega)
 have hm:Int.tmod ((d / p:Nat):Int) 2=((d / p%2:Nat):Int):=rfl;have hd2:(((d / p%2:Nat):Int)==1)=decide (d / p%2=1):=by generalize d / p%2=q;rw[Bool.eq_iff_iff];simp;omega
 simp[-Int.natCast_ediv,-Int.natCast_emod,h0,hdv,hw,hm,hd2]
end Ln
namespace Ln
open Go.Sx Go
theorem aaf{n:Nat}{p:Nat→Bool}{q:Nat}(hq:q<n)(h:p q=false):(List.range n).all p=false:=by rw[List.all_eq_false];exact⟨q,List.mem_range.2 hq,by simp[h]⟩
theorem Vw{n:Nat}{p:Nat→Bool}(h:∀q,q<n→p q=true):(List.range n).all p=true:=wG.2 fun q hq=>h q (List.mem_range.1 hq)
theorem aag{j:Nat}{p:Nat→Prop}(h:∀q,q<j→p q)(hj:p j):∀q,q<j+1→p q:=fun q hq=>by
 by_cases e:q=j
 ·subst e;exact hj
 ·exact h q (by omega)
variable{C:bQ}{X:Kn}(S:Std C X)
def aae(os:List Op)(k d q:Nat):Bool:=q==k || !(before (os.getD q default) (os.getD k default)&&decide (0≤(os.getD q default).e) && !d.testBit q) && !(d.testBit q&&before (os.getD k default) (os.getD q default))
def atx(X:Kn)(os:List Op)(cells:List AV)(k d:Nat)(bj:Key)(h:T ah)(nx:Key)(m:Nat)(ay:T AV)(h':T ah)(nx':Key):Prop:=∃j:Nat,m=os.length-j∧j≤os.length∧ae (K 0) ay=some (.ptr bj 0)∧ae (K 1) ay=some (I k)∧ae (K 2) ay=some (I d)∧ae (K 7) ay=some (I j)∧ae bj h'=some (.cells cells .fix)∧Ext h nx h' nx'∧∀q,q<j→aae os k d q=true
include S
theorem abO{i:Nat}{os:List Op}(ho:os.length≤16){cO:AV}(hc:gI 10 eO cO os){s0:St}{k d:Nat}(hk:k<os.length)(hd:d<65536){h:T ah}{nx bj:Key}(hb:ae bj h=some (.cells (wB X i cO s0) .fix))(EJ:bj.toNat<nx.toNat) :
  aG C iG [.ptr bj 0,I k,I d] h nx (fun o h' nx'=>o=.ret (.bool (Av os k d))∧Ext h nx h' nx'):=by
 have rI:C.raw lf=false:=S.nr (by decide);have rB:C.raw kg=false:=S.nr (by decide);have E9:cO=.sl (ag eO os) os.length 10 .any:=by
  rcases hc with⟨_,rfl⟩|e
  ·simp at hk
  ·exact e
 subst E9;have hr:=fP.rows os;have eck:=fP.at hk;have tk:10≤os.length*10-k*10:=by omega
 refine S.Ja.call ?_;simp[Fy];simp[Hu];simp[Hv,rI];refine(ajs S hd (by omega)).mono ?_;rintro o h1 bS ⟨rfl,rfl,rfl⟩;cases ZN:d.testBit k with
 |true=>
  have:Av os k d=false:=by unfold Av;rw[ZN];rfl
  simp;simp[Hw];exact⟨this,Ext.refl _ _⟩
 |false=>
  have CX:Av os k d=(List.range os.length).all (aae os k d):=by unfold Av;rw[ZN];rfl
  simp;simp[Hx];refine W.dy (n:=os.length) (atx X os (wB X i (.sl (ag eO os) os.length 10 .any) s0) k d bj h1 bS) ⟨0,by simp,by omega,by simp,by simp,by simp,by simp,hb,Ext.refl _ _,fun q hq=>absurd hq (by omega)⟩ ?_;rintro m ef h2 aN ⟨j,rfl,hj,g0,g1,g2,g7,Yn,e2,hq⟩;refine W.of ?_;simp[Hy];by_cases bW:j<os.length
  ·have v7:(j:Int)<os.length:=by omega
   have ecj:=fP.at bW;have tj:10≤os.length*10-j*10:=by omega
   have J7:aae os k d j=(j==k || !(before os[j] os[k]&&decide (0≤os[j].e) && !d.testBit j) && !(d.testBit j&&before os[k] os[j])):=by unfold aae;rw[pS bW,pS hk]
   simp[xC,g0,g7,Yn,wB,v7];have next:∀(aJ:T AV) (h3:T ah) (bY:Key),ae (K 0) aJ=some (.ptr bj 0)→ae (K 1) aJ=some (I k)→ae (K 2) aJ=some (I d)→ae (K 7) aJ=some (I j)→ae bj h3=some (.cells (wB X i (.sl (ag eO os) os.length 10 .any) s0) .fix)→Ext h1 bS h3 bY→aae os k d j=true→
     lA C (aQ (fun tm h' nx'=>∃m,m<os.length-j∧atx X os (wB X i (.sl (ag eO os) os.length 10 .any) s0) k d bj h1 bS m tm h' nx') (aC 0 (aQ (gn C (.seq (.ops kq) .ret) (bZ [.tmp (K 6)] fun o h' nx'=>o=.ret (.bool (Av os k d))∧Ext h1 bS h' nx')) (bZ [.tmp (K 6)] fun o h' nx'=>o=.ret (.bool (Av os k d))∧Ext h1 bS h' nx')))) oR aJ h3 bY:=by
    intro aJ h3 bY q0 q1 q2 q7 b3 e3 vH;simp[oR,q7];rw[aB (by omega) (by omega)];exact⟨os.length-(j+1),by omega,j+1,rfl,by omega,by simp[q0],by simp[q1],by simp[q2],by simp,b3,e3,aag hq vH⟩
   by_cases hjk:j=k
   ·subst hjk;simp[xD,g1,g7];refine next _ _ _ ?_ ?_ ?_ ?_ Yn e2 (by rw[J7];simp)<;>simp[g0,g1,g2,g7]
   ·have aKI:((j:Int)==k)=false:=bq (by omega);have aKJ:(j==k)=false:=by simpa using hjk
    rw[aKJ,Bool.false_or]at J7;simp[xD,g1,g7,aKI];have fail:aae os k d j=false→∀h3 bY,Ext h1 bS h3 bY→(Av os k d=false∧Ext h1 bS h3 bY):=fun hf h3 bY e3=>⟨by rw[CX,aaf bW hf],e3⟩;have Oc:∀(aJ:T AV) (h3:T ah) (bY:Key),ae (K 0) aJ=some (.ptr bj 0)→ae (K 1) aJ=some (I k)→ae (K 2) aJ=some (I d)→ae (K 7) aJ=some (I j)→ae bj h3=some (.cells (wB X i (.sl (ag eO os) os.length 10 .any) s0) .fix)→Ext h1 bS h3 bY→(before os[j] os[k]&&decide (0≤os[j].e) && !d.testBit j)=false→
      gn C (.seq (.staged xE ⟨[K 55,K 56,K 57,K 58,K 59,K 60,K 61,K 62,K 63,K 64,K 65,K 66,K 67,K 68,K 69,K 70,K 71,K 72,K 73,K 74],[]⟩) (.cond (.t (K 74)) (.seq (.ops xF) .ret) .skip)) (aC 1 (aQ (gn C (.ops oR) (aQ (fun tm h' nx'=>∃m,m<os.length-j∧atx X os (wB X i (.sl (ag eO os) os.length 10 .any) s0) k d bj h1 bS m tm h' nx') (aC 0 (aQ (gn C (.seq (.ops kq) .ret) (bZ [.tmp (K 6)] fun o h' nx'=>o=.ret (.bool (Av os k d))∧Ext h1 bS h' nx')) (bZ [.tmp (K 6)] fun o h' nx'=>o=.ret (.bool (Av os k d))∧Ext h1 bS h' nx'))))) (aQ (fun tm h' nx'=>∃m,m<os.length-j∧atx X os (wB X i (.sl (ag eO os) os.length 10 .any) s0) k d bj h1 bS m tm h' nx') (aC 0 (aQ (gn C (.seq (.ops kq) .ret) (bZ [.tmp (K 6)] fun o h' nx'=>o=.ret (.bool (Av os k d))∧Ext h1 bS h' nx')) (bZ [.tmp (K 6)] fun o h' nx'=>o=.ret (.bool (Av os k d))∧Ext h1 bS h' nx')))))) aJ h3 bY:=by
     intro aJ h3 bY q0 q1 q2 q7 b3 e3 hA;rw[hA]at J7;simp;simp[xE,q2,q7,rI];refine(ajs S hd (by omega)).mono ?_;rintro o h4 jZ ⟨rfl,rfl,rfl⟩;cases hbj:d.testBit j with
     |false=>rw[hbj]at J7;simp;refine next _ _ _ ?_ ?_ ?_ ?_ b3 e3 (by rw[J7];rfl)<;>simp[q0,q1,q2,q7]
     |true=>
      rw[hbj]at J7;simp[q0,q1,q7,b3,wB,hk,bW,hr,tk,tj,eck,ecj,rB,ait,QS,ZE];refine(VQ S os[k] os[j] _ _).mono ?_;rintro o h5 r9 ⟨rfl,e5⟩;have b5:ae bj h5=some (.cells (wB X i (.sl (ag eO os) os.length 10 .any) s0) .fix):=by rw[e5.g bj (by have:=e3.n;omega)];exact b3
      cases qx:before os[k] os[j]with
      |true=>rw[qx]at J7;simp;simp[xF];exact fail (by rw[J7];rfl) _ _ (e3.trans e5)
      |false=>rw[qx]at J7;simp;refine next _ _ _ ?_ ?_ ?_ ?_ b5 (e3.trans e5) (by rw[J7];rfl)<;>simp[q0,q1,q2,q7]
    simp only[bM,bO]at Oc;simp[Hz,g0,g1,g7,Yn,wB,hk,bW,hr,tk,tj,eck,ecj,rB,ait,QS,ZE];refine(VQ S os[j] os[k] _ _).mono ?_;rintro o h3 bY ⟨rfl,e3⟩;have b3:ae bj h3=some (.cells (wB X i (.sl (ag eO os) os.length 10 .any) s0) .fix):=by rw[e3.g bj (by have:=e2.n;omega)];exact Yn
    have Vt:=e2.trans e3;cases qx:before os[j] os[k]with
    |false=>rw[qx]at Oc;simp;refine Oc _ _ _ ?_ ?_ ?_ ?_ b3 Vt rfl<;>simp[g0,g1,g2,g7]
    |true=>
     rw[qx]at Oc J7;have b3':ae bj h3=some (.cells [.sl X.rows 7 45 .any,ft i,I 200,I 50,.sl (ag eO os) os.length 10 .any,I s0.k,I s0.n,.str 0 0,aL s0.kids] .fix):=b3;have aCX:List.take 10 (List.drop (j*10) (ag eO os))=[I os[j].client,I os[j].b,I os[j].e,I os[j].lost,.str os[j].name.1 os[j].name.2,aL os[j].args,I os[j].res.k,I os[j].res.n,.str 0 0,.nils]:=ecj;by_cases he:os[j].e<0
     ·have hed:decide (0≤os[j].e)=false:=by simp;omega
      rw[hed]at Oc;simp[g0,g7,b3',bW,hr,tj,aCX,he];refine Oc _ _ _ ?_ ?_ ?_ ?_ b3 Vt rfl<;>simp[g0,g1,g2,g7]
     ·have hed:decide (0≤os[j].e)=true:=by simp;omega
      rw[hed]at Oc J7;simp[g0,g2,g7,b3',bW,hr,tj,aCX,he,rI];refine(ajs S hd (by omega)).mono ?_;rintro o h4 jZ ⟨rfl,rfl,rfl⟩;cases hbj:d.testBit j with
      |true=>rw[hbj]at Oc;simp;refine Oc _ _ _ ?_ ?_ ?_ ?_ b3 Vt rfl<;>simp[g0,g1,g2,g7]
      |false=>rw[hbj]at J7;simp;simp[HA];exact fail (by rw[J7];rfl) _ _ Vt
  ·have xM:j=os.length:=by omega
   subst xM;simp[xC,g0,g7,Yn,wB];simp[kq];exact⟨by rw[CX];exact Vw hq,e2⟩
end Ln
namespace Go.Sx
open Go
def Gr(z:Nat)(c:AV)(l:List AV)(len:Nat)(h:T ah)(nx:Key)(ob:Option Key):Prop:=
 (c=.nils∧l=[]∧len=0∧ob=none)∨(∃(b:Key) (k:CK),ob=some b∧c=.slice b 0 len z∧ae b h=some (.cells l k)∧b.toNat<nx.toNat∧l.length=len*z∧(k=.part∨k=.fix))∨
 (∃t:Key,ob=some t∧c=.sl l len z (.tok t)∧ae t h=some .tok∧t.toNat<nx.toNat)
structure nR(h:T ah)(nx:Key)(ob:Option Key)(h':T ah)(nx':Key)(mK:Option Key):Prop where
 n:nx.toNat≤nx'.toNat
 g:∀b:Key,b.toNat<nx.toNat→ob≠some b→ae b h'=ae b h
 o:mK=ob∨∃b:Key,mK=some b∧nx.toNat≤b.toNat
theorem nR.refl(h:T ah)(nx:Key)(ob:Option Key):nR h nx ob h nx ob:=⟨fg _,fun _ _ _=>rfl,.inl rfl⟩
theorem nR.iT{h h':T ah}{nx nx':Key}(e:Ext h nx h' nx')(ob:Option Key):nR h nx ob h' nx' ob:=⟨e.n,fun b hb _=>e.g b hb,.inl rfl⟩
theorem nR.ne{h h':T ah}{nx nx' b:Key}{ob mK:Option Key}(a:nR h nx ob h' nx' mK)(hb:b.toNat<nx.toNat)(hn:ob≠some b):mK≠some b:=by
 rcases a.o with e|⟨x,e,hx⟩
 ·rw[e];exact hn
 ·rw[e];intro q;cases q;omega
theorem nR.trans{h h' h2:T ah}{nx nx' n2:Key}{ob mK o2:Option Key}(a:nR h nx ob h' nx' mK)(b:nR h' nx' mK h2 n2 o2):nR h nx ob h2 n2 o2:=by
 have h1:=a.n;refine⟨Nat.le_trans a.n b.n,fun x hx hn=>?_,?_⟩
 ·rw[b.g x (by omega) (a.ne hx hn)];exact a.g x hx hn
 ·rcases b.o with e|⟨y,e,hy⟩
  ·rw[e];exact a.o
  ·exact .inr ⟨y,e,by omega⟩
section
variable{z:Nat}{c:AV}{l new:List AV}{len m:Nat}{h h':T ah}{nx nx':Key}{ob:Option Key}
theorem Gr.nil(z:Nat)(h:T ah)(nx:Key):Gr z .nils [] 0 h nx none:=.inl ⟨rfl,rfl,rfl,rfl⟩
theorem Gr.lt(g:Gr z c l len h nx ob):∀b,ob=some b→b.toNat<nx.toNat:=by
 intro b hb;rcases g with⟨_,_,_,e⟩|⟨b',k,e,_,_,h4,_⟩|⟨t,e,_,_,h4⟩
 ·rw[hb]at e;cases e
 ·rw[hb]at e;cases e;exact h4
 ·rw[hb]at e;cases e;exact h4
theorem Gr.cF(g:Gr z c l len h nx ob)(hn:nx.toNat≤nx'.toNat)(hk:∀b,ob=some b→ae b h'=ae b h):Gr z c l len h' nx' ob:=by
 rcases g with g|⟨b,k,e,h1,h2,h3,h4⟩|⟨t,e,h1,h2,h3⟩
 ·exact .inl g
 ·exact .inr (.inl ⟨b,k,e,h1,by rw[hk b e];exact h2,by omega,h4⟩)
 ·exact .inr (.inr ⟨t,e,h1,by rw[hk t e];exact h2,by omega⟩)
theorem Gr.ext(g:Gr z c l len h nx ob)(e:Ext h nx h' nx'):Gr z c l len h' nx' ob:=g.cF e.n fun b hb=>e.g b (g.lt b hb)
theorem Gr.add(g:Gr z c l len h nx ob)(hw:Ie z=false)(hz:0<z)(hm:0<m)(hs:∀x∈l,OC x)(hn:new.length=m*z)(hl:len+m≤1048576)(hc:new.all AV.aT=true) :
  ∃c' h' nx' mK,appendTo z c new m h nx=.val c' h' nx'∧Gr z c' (l++new) (len+m) h' nx' mK∧nR h nx ob h' nx' mK:=by
 have s1:=kTSu nx;have Qj:m≠0:=by omega
 rcases g with⟨rfl,rfl,rfl,rfl⟩|⟨b,k,rfl,rfl,h2,h3,h4,hk⟩|⟨t,rfl,rfl,h2,h3⟩
 ·have Sa:m≤1048576:=by omega
  exact⟨.slice nx 0 m z,aw nx (some (.cells new .part)) h,nx.succ,some nx,by simp[Qj,Sa],.inr (.inl ⟨nx,.part,rfl,by simp,by simp,by omega,by simpa using hn,.inl rfl⟩),by omega,fun b hb _=>ax hb,.inr ⟨nx,rfl,fg _⟩⟩
 ·rcases hk with rfl|rfl
  ·refine⟨.sl (l++new) (len+m) z (.tok nx),aw nx (some .tok) (aw b none h),nx.succ,some nx,?_,.inr (.inr ⟨nx,rfl,by simp,by simp,by omega⟩),by omega,fun x hx hk=>?_,.inr ⟨nx,rfl,fg _⟩⟩
   ·simp[hl,hc,h2,h4,Qj,hw]
   ·rw[ax hx,aU];rintro rfl;exact hk rfl
  ·have QL:¬(len+m)*z≤len*z:=by rw[Nat.add_mul];have:=Nat.mul_pos hm hz;omega
   have Mz:bG (aM 9999) l h=(l,h):=bT hs;have htl:List.take (len*z) l=l:=RL (by omega);refine⟨.slice nx 0 (len+m) z,aw nx (some (.cells (l++new) .part)) h,nx.succ,some nx,?_,.inr (.inl ⟨nx,.part,rfl,rfl,by simp,by omega,by rw[Ko,h4,hn,Nat.add_mul],.inl rfl⟩),by omega,fun b hb _=>ax hb,.inr ⟨nx,rfl,fg _⟩⟩;simp[hl,hc,h2,h4,QL,htl,Mz]
 ·refine⟨.sl (l++new) (len+m) z (.tok nx),aw nx (some .tok) (aw t none h),nx.succ,some nx,?_,.inr (.inr ⟨nx,rfl,by simp,by simp,by omega⟩),by omega,fun x hx hk=>?_,.inr ⟨nx,rfl,fg _⟩⟩
  ·simp[hl,hc,h2,Qj]
  ·rw[ax hx,aU];rintro rfl;exact hk rfl
theorem Gr.As{α:Type}{enc:α→List AV}(F:Flat z enc){us:List α}(g:Gr z c (ag enc us) us.length h nx ob)(hw:Ie z=false)(hz:0<z)(hl:us.length+1≤1048576)(x:α) :
  ∃c' h' nx' mK,appendTo z c (enc x) 1 h nx=.val c' h' nx'∧Gr z c' (ag enc (us ++ [x])) (us ++ [x]).length h' nx' mK∧nR h nx ob h' nx' mK:=by
 obtain⟨c',h',nx',mK,a,b,r⟩:=g.add (new:=enc x) (m:=1) hw hz (by omega) (F.yo us) (by rw[F.len,Nat.one_mul]) hl (wG.2 (F.cell x));exact⟨c',h',nx',mK,a,by rw[jg,je,Ko];exact b,r⟩
end
def Rd(z:Nat)(c:AV)(l:List AV)(len:Nat)(h:T ah)(nx:Key):Prop:=(c=.nils∧l=[]∧len=0)∨(∃f,c=.sl l len z f)∨∃(b:Key) (k:CK),c=.slice b 0 len z∧ae b h=some (.cells l k)∧b.toNat<nx.toNat∧l.length=len*z
theorem Gr.rd{z:Nat}{c:AV}{l:List AV}{len:Nat}{h:T ah}{nx:Key}{ob:Option Key}(g:Gr z c l len h nx ob):Rd z c l len h nx:=by
 rcases g with⟨h1,h2,h3,_⟩|⟨b,k,_,h1,h2,h3,h4,_⟩|⟨t,_,h1,_⟩
 ·exact .inl ⟨h1,h2,h3⟩
 ·exact .inr (.inr ⟨b,_,h1,h2,h3,h4⟩)
 ·exact .inr (.inl ⟨_,h1⟩)
theorem Rd.ext{z:Nat}{c:AV}{l:List AV}{len:Nat}{h h':T ah}{nx nx':Key}(g:Rd z c l len h nx)(e:Ext h nx h' nx'):Rd z c l len h' nx':=by
 rcases g with g|g|⟨b,k,h1,h2,h3,h4⟩
 ·exact .inl g
 ·exact .inr (.inl g)
 ·exact .inr (.inr ⟨b,k,h1,by rw[e.g b h3];exact h2,by have:=e.n;omega,h4⟩)
def JV(z i:Nat):AV→AV
 |.sl l _ _ _=>.cref (List.take z (List.drop (i*z) l))
 |.slice b off _ _=>.ptr b (off+i*z)
 |_=>.nils
theorem Rd.ix{z:Nat}{c:AV}{α:Type}{enc:α→List AV}(F:Flat z enc){us:List α}{h:T ah}{nx:Key}(g:Rd z c (ag enc us) us.length h nx){i:Nat}(hi:i<us.length){C:bQ}{Q:dh}{L:List aA}{tm:T AV}{n2 k1 k2 d1 d2:Key}(h1:ae k1 tm=some c)(h2:ae k2 tm=some (I i)) :
  lA C Q (⟨some d1,.indexL z (.t k1) (.t k2),none⟩ ::⟨some d2,.load true z (.t d1),none⟩ ::L) tm h n2=lA C Q L (aw d2 (some (.agg (enc us[i]))) (aw d1 (some (JV z i c)) tm)) h n2:=by
 have hr:=F.rows us;have he:=F.at hi;have hl:=F.len us[i];have tx:z≤us.length*z-i*z:=by rw[←Nat.sub_mul];exact Nat.le_mul_of_pos_left z (by omega)
 have tk:List.take z (enc us[i])=enc us[i]:=RL (by omega);rcases g with⟨_,_,e⟩|⟨f,rfl⟩|⟨b,k,rfl,hb,_,_⟩
 ·omega
 ·simp[h1,h2,hi,hr,tx,he,hl,tk,JV]
 ·simp[h1,h2,hi,hr,tx,he,hl,tk,JV,hb]
theorem Rd.ln{z:Nat}{c:AV}{l:List AV}{len:Nat}{h:T ah}{nx:Key}(g:Rd z c l len h nx){C:bQ}{Q:dh}{L:List aA}{tm:T AV}{h2:T ah}{n2 k1 d1:Key}(h1:ae k1 tm=some c) :
  lA C Q (⟨some d1,.lenL (.t k1),none⟩ ::L) tm h2 n2=lA C Q L (aw d1 (some (I len)) tm) h2 n2:=by
 rcases g with⟨rfl,_,rfl⟩|⟨f,rfl⟩|⟨b,k,rfl,_⟩
 ·simp[h1]
 ·simp[h1]
 ·simp[h1]
end Go.Sx
namespace Ln
open Go.Sx Go
def eC(c:Cf St):List AV:=[I c.1,I c.2.k,I c.2.n,.str 0 0,aL c.2.kids]
theorem eJ:Flat 5 eC where
 len _:=rfl
 r7 x y hy:=by
  simp[eC]at hy;rcases hy with rfl|rfl|rfl|rfl|rfl
  ·exact dA _ _
  ·exact dA _ _
  ·exact dA _ _
  ·exact qw _ _
  ·exact dM _
 cell x y hy:=by simp[eC]at hy;rcases hy with rfl|rfl|rfl|rfl|rfl<;>first|rfl|exact(bH _).1
 lits x:=by simp[eC,AV.iA,AV.lits,CQ,I]
theorem CN(z:Cf St)(H:T ah):bG (aM 9998) (eC z) H=(eC z,H):=bT (eJ.r7 _)
theorem y8(z:Cf St):List.take 5 (eC z)=eC z:=rfl
theorem pr(z:Cf St):(eC z).length=5:=rfl
theorem CM(z:Cf St):(eC z).all AV.aT=true:=wG.2 (eJ.cell z)
variable{C:bQ}{X:Kn}(S:Std C X)
def AcI(X:Kn)(os:List Op)(cells:List AV)(d:Nat)(bj:Key)(h:T ah)(nx:Key)(m:Nat)(ay:T AV)(h':T ah)(nx':Key):Prop:=∃j:Nat,m=os.length-j∧j≤os.length∧ae (K 0) ay=some (.ptr bj 0)∧ae (K 1) ay=some (I d)∧ae (K 5) ay=some (I j)∧h'=h∧nx'=nx∧∀q,q<j→(!decide (0≤(os.getD q default).e)||d.testBit q)=true
include S
theorem ahv{i:Nat}{os:List Op}(ho:os.length≤16){cO:AV}(hc:gI 10 eO cO os){s0:St}{d:Nat}(hd:d<65536){h:T ah}{nx bj:Key}(hb:ae bj h=some (.cells (wB X i cO s0) .fix)) :
  aG C jx [.ptr bj 0,I d] h nx (fun o h' nx'=>o=.ret (.bool (C7 os d))∧h'=h∧nx'=nx):=by
 have rI:C.raw lf=false:=S.nr (by decide);refine S.Bu.call ?_;simp[xd];simp[Al];simp[Am];refine W.dy (n:=os.length) (AcI X os (wB X i cO s0) d bj h nx) ⟨0,by simp,by omega,by simp,by simp,by simp,rfl,rfl,fun q hq=>absurd hq (by omega)⟩ ?_;rintro m ef h2 aN ⟨j,rfl,hj,g0,g1,g5,rfl,rfl,hq⟩;refine W.of ?_;simp[Ao];by_cases bW:j<os.length
 ·have v7:(j:Int)<os.length:=by omega
  have E9:cO=.sl (ag eO os) os.length 10 .any:=by
   rcases hc with⟨_,rfl⟩|e
   ·simp at bW
   ·exact e
  subst E9;have hr:=fP.rows os;have ecj:=fP.at bW;have tj:10≤os.length*10-j*10:=by omega
  simp[lg,g0,g5,hb,wB,v7];have J7:(!decide (0≤(os.getD j default).e)||d.testBit j)=(!decide (0≤os[j].e)||d.testBit j):=by rw[pS bW]
  have next:∀(aJ:T AV),ae (K 0) aJ=some (.ptr bj 0)→ae (K 1) aJ=some (I d)→ae (K 5) aJ=some (I j)→(!decide (0≤os[j].e)||d.testBit j)=true→
    lA C (aQ (fun tm h' nx'=>∃m,m<os.length-j∧AcI X os (wB X i (.sl (ag eO os) os.length 10 .any) s0) d bj h2 aN m tm h' nx') (aC 0 (aQ (gn C (.seq (.ops lj) .ret) (bZ [.tmp (K 4)] fun o h' nx'=>o=.ret (.bool (C7 os d))∧h'=h2∧nx'=aN)) (bZ [.tmp (K 4)] fun o h' nx'=>o=.ret (.bool (C7 os d))∧h'=h2∧nx'=aN)))) qU aJ h2 aN:=by
   intro aJ q0 q1 q5 vH;simp[qU,q5];rw[aB (by omega) (by omega)];exact⟨os.length-(j+1),by omega,j+1,rfl,by omega,by simp[q0],by simp[q1],by simp,rfl,rfl,aag hq (by rw[J7];exact vH)⟩
  by_cases he:os[j].e<0
  ·simp[qT,g0,g5,hb,wB,bW,hr,tj,ecj,eO,he];refine next _ ?_ ?_ ?_ (by simp;omega)<;>simp[g0,g1,g5]
  ·have hed:decide (0≤os[j].e)=true:=by simp;omega
   rw[hed]at next J7
   simp[qT,g0,g1,g5,hb,wB,bW,hr,tj,ecj,eO,he,rI];refine(ajs S hd (by omega)).mono ?_;rintro o h4 jZ ⟨rfl,rfl,rfl⟩;cases hbj:d.testBit j with
   |true=>
    rw[hbj]at next
    simp;refine next _ ?_ ?_ ?_ rfl<;>simp[g0,g1,g5]
   |false=>rw[hbj]at J7;simp;simp[An];unfold C7;exact aaf bW (by rw[hbj];exact J7)
 ·have xM:j=os.length:=by omega
  subst xM;have fin:C7 os d=true:=by unfold C7;exact Vw hq
  rcases id hc with⟨e0,e1⟩|e0
  ·have:(os.length:Int)=0:=by rw[e1];rfl
   simp[lg,g0,g5,hb,wB,e0,this];simp[lj];exact fin
  ·simp[lg,g0,g5,hb,wB,e0];simp[lj];exact fin
theorem nQ{a b:Cf St}(ha:a.2.kids.length≤3)(hb:b.2.kids.length≤3):YO C kH [.agg (eC a),.agg (eC b)] (·=.ret (.bool (decide (a=b)))):=by
 intro h nx;have s1:=kTSu nx;have s2:=kTSu nx.succ;have rE:C.raw Cl=false:=S.nr (by decide);have ac1:=bH a.2.kids;have ac2:=bH b.2.kids;have af1:∀n H,aM n (aL a.2.kids) H=(aL a.2.kids,H):=dM _;have af2:∀n H,aM n (aL b.2.kids) H=(aL b.2.kids,H):=dM _;refine S.N8.call ?_;simp[Mi];simp[Lt,eC,ac1.1,ac2.1];have e1:=(E0 h nx (.cells (eC a) .fix)).trans (E0 _ nx.succ (.cells (eC b) .fix));simp[eC]at e1;obtain⟨a1,a2⟩:=a;obtain⟨b1,b2⟩:=b;by_cases hab:a1=b1
 ·subst hab;simp[Ct,rE,af1,af2];refine aG.known (S.s_Equal a2 b2 ha hb _ _) ?_;simp;exact e1
 ·have ayB:((a1:Int)==b1)=false:=bq (by omega);simp[Ct,ayB,hab];exact e1
theorem atG{a b:Cf St}(ha:a.2.kids.length≤3)(hb:b.2.kids.length≤3):YO C sV [.agg (eC a),.agg (eC b)] (fun o=>∃v,o=.ret (.bool v)∧(v=true↔(a.1<b.1∨a.1=b.1∧jA a.2 b.2<0))):=by
 intro h nx;have s1:=kTSu nx;have s2:=kTSu nx.succ;have rE:C.raw xf=false:=S.nr (by decide);have ac1:=bH a.2.kids;have ac2:=bH b.2.kids;have af1:∀n H,aM n (aL a.2.kids) H=(aL a.2.kids,H):=dM _;have af2:∀n H,aM n (aL b.2.kids) H=(aL b.2.kids,H):=dM _;refine S.N9.call ?_;simp[Mk];simp[Lu,eC,ac1.1,ac2.1];have e1:=(E0 h nx (.cells (eC a) .fix)).trans (E0 _ nx.succ (.cells (eC b) .fix));simp[eC]at e1;obtain⟨a1,a2⟩:=a;obtain⟨b1,b2⟩:=b;by_cases cD:a1<b1
 ·have ayC:(a1:Int)<b1:=by omega
  simp[vU,ayC];exact⟨by simp[cD],e1⟩
 ·have ayC:¬(a1:Int)<b1:=by omega
  by_cases hab:a1=b1
  ·subst hab;simp[vU,rE,af1,af2];refine aG.known (S.s_ref10_Compare a2 b2 ha hb _ _) ?_;simp;exact⟨by omega,e1⟩
  ·have ayB:((a1:Int)==b1)=false:=bq (by omega);simp[vU,ayC,ayB,hab];exact⟨by omega,e1⟩
end Ln
namespace Ln
open Go.Sx Go
def okS(s:St):Bool:=decide ((s.k=0∧s.kids=[]∨s.k=1∧(s.n=0∨s.n=1)∧s.kids=[])∨s.k=2∧s.n=0∧s.kids.all pV=true)
noncomputable def mj(l:List (Cf St)):List (Cf St):=l.mergeSort (fun a b=>decide (a.1<b.1∨a.1=b.1∧jA a.2 b.2≤0))
structure OU(C:bQ):Prop where
 KA:Fn C pW It
 FL:Fn C lE BR
 wj:Fn C bJ qL
 wk:Fn C gk qM
 tN:Fn C dU pL
 wo:Fn C eX qO
 xT:Fn C dP sJ
 yZ:Fn C fU nV
 AB:Fn C dx wM
 y0:Fn C iy uh
 zl:Fn C fV nW
 NO:Fn C sw L4
 UR:Fn C zB US
 KH:Fn C jG IE
 nZ:Fn C dL zu
 UT:Fn C gH UU
 abD:∀s:St,s.kids.length≤3→∀h nx,C.sum dX [.agg (eS s)] h nx=some (I (if okS s=true then 0 else 1),h,nx)
 anc:∀(l:List (Cf St)) (b:Key) (h:T ah) (nx:Key),(∀y∈l,y.2.kids.length≤3)→l.Nodup→l.length≤1024→ae b h=some (.cells (ag eC l) .fix)→C.sum cU [.slice b 0 l.length 5,.fn fX [] []] h nx=some (.tuple [],aw b (some (.cells (ag eC (mj l)) .fix)) h,nx)
def QW:AV:=.str 2 31354
structure Zz(C:bQ)(X:Kn)(z:List AV):Prop where
 p:∀h nx,C.sum jI [X.m,I 4,QW] h nx=some (.tuple [.agg z,.bool false],h,nx)
 r:∀h nx,C.sum gU [X.m,I 4,QW] h nx=some (.tuple [.agg z,.bool false],h,nx)
 len:z.length=45
 cell:∀y∈z,y.aT=true
 r7:∀y∈z,OC y
end Ln
namespace Ln
open Go.Sx Go Go.Proofs
def okV(b:Nat)(t:DT):DT:=.ask .eql (.var b) (.lit 0) t (.ask .eql (.var b) (.lit 1) (.ask .eql (.var (b+1)) (.lit 0) t (.ask .eql (.var (b+1)) (.lit 1) t (.leaf (I 1)))) (.ask .eql (.var b) (.lit 2) (.ask .eql (.var (b+1)) (.lit 0) t (.leaf (I 1))) (.leaf (I 1))))
def aCp:Nat→Nat→DT→DT
 |0,_,t=>t
 |n+1,b,t=>okV b (aCp n (b+2) t)
def aCq:Nat→DT
 |0=>okV 0 (.leaf (I 0))
 |n+1=>.ask .eql (.var 0) (.lit 2) (.ask .eql (.var 1) (.lit 0) (aCp (n+1) 2 (.leaf (I 0))) (.leaf (I 1))) (.leaf (I 1))
theorem FE{ρ:Nat→Int}{b:Nat}{t:DT}{u:U}(h0:ρ b=u.k)(h1:ρ (b+1)=u.n):(okV b t).val ρ=if pV u=true then t.val ρ else I 1:=by
 obtain⟨k,n⟩:=u;have d0:(SI.var b).den ρ=k:=h0;have d1:(SI.var (b+1)).den ρ=n:=h1;have dl:∀z:Int,(SI.lit z).den ρ=z:=fun _=>rfl;unfold okV;simp only[DT.val,DR,d0,d1,dl];by_cases h0:k=0
 ·simp[h0,pV]
 ·by_cases h1:k=1
  ·by_cases n0:n=0
   ·simp[h1,n0,pV]
   ·by_cases n1:n=1
    ·simp[h1,n1,pV]
    ·simp[h1,n0,n1,pV];rfl
  ·by_cases h2:k=2
   ·by_cases n0:n=0
    ·simp[h2,n0,pV]
    ·simp[h2,n0,pV];rfl
   ·simp[h0,h1,h2,pV];rfl
theorem ata(ρ:Nat→Int):(DT.leaf (I 0)).val ρ=I 0:=rfl
theorem apP{s:St}(hs:s.kids.length≤3):(aCq s.kids.length).val (yu s s)=I (if okS s=true then 0 else 1):=by
 obtain⟨k,n,l⟩:=s;have dl:∀(ρ:Nat→Int) (z:Int),(SI.lit z).den ρ=z:=fun _ _=>rfl
 match l,hs with
 | [],_=>
  show(okV 0 (.leaf (I 0))).val _=_;rw[FE (u:=⟨k,n⟩) rfl rfl,ata];by_cases h:pV ⟨k,n⟩=true
  ·have h2:=h;unfold pV at h;rw[decide_eq_true_eq]at h;have:okS ⟨k,n,[]⟩=true:=by
    unfold okS;rw[decide_eq_true_eq];rcases h with h|h|h
    ·exact .inl (.inl ⟨h,rfl⟩)
    ·exact .inl (.inr ⟨h.1,h.2,rfl⟩)
    ·exact .inr ⟨h.1,h.2,rfl⟩
   rw[if_pos h2,if_pos this]
  ·have:¬okS ⟨k,n,[]⟩=true:=by
    intro q;apply h;unfold okS at q;unfold pV;rw[decide_eq_true_eq]at q ⊢;rcases q with(q|q)|q
    ·exact .inl q.1
    ·exact .inr (.inl ⟨q.1,q.2.1⟩)
    ·exact .inr (.inr ⟨q.1,q.2.1⟩)
   rw[if_neg h,if_neg this]
 | [⟨a,b⟩],_=>
  have d0:(SI.var 0).den (yu ⟨k,n,[⟨a,b⟩]⟩ ⟨k,n,[⟨a,b⟩]⟩)=k:=rfl;have d1:(SI.var 1).den (yu ⟨k,n,[⟨a,b⟩]⟩ ⟨k,n,[⟨a,b⟩]⟩)=n:=rfl;show(DT.ask .eql (.var 0) (.lit 2) (.ask .eql (.var 1) (.lit 0) (okV 2 (.leaf (I 0))) (.leaf (I 1))) (.leaf (I 1))).val _=_;simp only[DT.val,DR,d0,d1,dl];rw[FE (b:=2) (u:=⟨a,b⟩) rfl rfl];unfold okS;by_cases h2:k=2
  ·by_cases n0:n=0
   ·by_cases q0:pV ⟨a,b⟩=true
    ·simp[h2,n0,q0,DT.val]<;>rfl
    ·simp[h2,n0,q0]<;>rfl
   ·simp[h2,n0]<;>rfl
  ·simp[h2]<;>rfl
 | [⟨a,b⟩,⟨c,d⟩],_=>
  have d0:(SI.var 0).den (yu ⟨k,n,[⟨a,b⟩,⟨c,d⟩]⟩ ⟨k,n,[⟨a,b⟩,⟨c,d⟩]⟩)=k:=rfl;have d1:(SI.var 1).den (yu ⟨k,n,[⟨a,b⟩,⟨c,d⟩]⟩ ⟨k,n,[⟨a,b⟩,⟨c,d⟩]⟩)=n:=rfl;show(DT.ask .eql (.var 0) (.lit 2) (.ask .eql (.var 1) (.lit 0) (okV 2 (okV 4 (.leaf (I 0)))) (.leaf (I 1))) (.leaf (I 1))).val _=_;simp only[DT.val,DR,d0,d1,dl];rw[FE (b:=2) (u:=⟨a,b⟩) rfl rfl,FE (b:=4) (u:=⟨c,d⟩) rfl rfl];unfold okS;by_cases h2:k=2
  ·by_cases n0:n=0
   ·by_cases q0:pV ⟨a,b⟩=true
    ·by_cases q1:pV ⟨c,d⟩=true
     ·simp[h2,n0,q0,q1,DT.val]<;>rfl
     ·simp[h2,n0,q0,q1]<;>rfl
    ·simp[h2,n0,q0]<;>rfl
   ·simp[h2,n0]<;>rfl
  ·simp[h2]<;>rfl
 | [⟨a,b⟩,⟨c,d⟩,⟨e,f⟩],_=>
  have d0:(SI.var 0).den (yu ⟨k,n,[⟨a,b⟩,⟨c,d⟩,⟨e,f⟩]⟩ ⟨k,n,[⟨a,b⟩,⟨c,d⟩,⟨e,f⟩]⟩)=k:=rfl;have d1:(SI.var 1).den (yu ⟨k,n,[⟨a,b⟩,⟨c,d⟩,⟨e,f⟩]⟩ ⟨k,n,[⟨a,b⟩,⟨c,d⟩,⟨e,f⟩]⟩)=n:=rfl;show(DT.ask .eql (.var 0) (.lit 2) (.ask .eql (.var 1) (.lit 0) (okV 2 (okV 4 (okV 6 (.leaf (I 0))))) (.leaf (I 1))) (.leaf (I 1))).val _=_;simp only[DT.val,DR,d0,d1,dl];rw[FE (b:=2) (u:=⟨a,b⟩) rfl rfl,FE (b:=4) (u:=⟨c,d⟩) rfl rfl,FE (b:=6) (u:=⟨e,f⟩) rfl rfl];unfold okS;by_cases h2:k=2
  ·by_cases n0:n=0
   ·by_cases q0:pV ⟨a,b⟩=true
    ·by_cases q1:pV ⟨c,d⟩=true
     ·by_cases q2:pV ⟨e,f⟩=true
      ·simp[h2,n0,q0,q1,q2,DT.val]<;>rfl
      ·simp[h2,n0,q0,q1,q2]<;>rfl
     ·simp[h2,n0,q0,q1]<;>rfl
    ·simp[h2,n0,q0]<;>rfl
   ·simp[h2,n0]<;>rfl
  ·simp[h2]<;>rfl
 |_ ::_ ::_ ::_ ::l,h=>exact absurd h (by simp)
def ajj:Nat→aO
 |0=>ajk
 |1=>ajl
 |2=>ajm
 |_=>ajn
theorem atb{n:Nat}(h:S4 n):aO.df (CF aR) 159 (ajj n) ⟨ai 159 (fx 159) [stS 0 n],[],.nil,bw⟩ [] []=true:=by
 cases h
 ·exact ale
 ·exact alf
 ·exact alg
 ·exact alh
theorem atc{n:Nat}(h:S4 n):DT.same (ajj n).dt (aCq n) []=true:=by cases h<;>kernel_rfl
def JL:MZ:=⟨159,QK,fun q=>[.agg (eS q.s)],fun q=>I (if okS q.s=true then 0 else 1),by intro q p h;simp only[List.cons.injEq,and_true]at h;rw[O4 h]⟩
theorem Z7:mZ Tryz.prog .nil JL:=by
 refine⟨⟨_,lv (n:=159) (by decide)⟩,fun q=>?_⟩;have h1:=Rf q.hs;have h:=gP (f:=159) (by decide) (avg h1) (atb h1) (yu q.s q.s);rw[DT.nQ (ρ:=yu q.s q.s) (atc h1) trivial,apP q.hs]at h;have e:AV.jo (yu q.s q.s) [stS 0 q.s.kids.length]=[.agg (eS q.s)]:=by show [_]=_;rw[sub_one q.hs]
 rw[e]at h;exact h
theorem aCc(u:U):okS ⟨u.k,u.n,[]⟩=pV u:=by
 rw[Bool.eq_iff_iff];unfold okS pV;rw[decide_eq_true_eq,decide_eq_true_eq];constructor
 ·rintro((q|q)|q)
  ·exact .inl q.1
  ·exact .inr (.inl ⟨q.1,q.2.1⟩)
  ·exact .inr (.inr ⟨q.1,q.2.1⟩)
 ·rintro(h|h|h)
  ·exact .inl (.inl ⟨h,rfl⟩)
  ·exact .inl (.inr ⟨h.1,h.2,rfl⟩)
  ·exact .inr ⟨h.1,h.2,rfl⟩
structure QJ where
 i:Nat
 lt:i<4
def nmZ:Nat→AV
 |3=>QW
 |i=>ft i
def aCs:Nat→AV
 |3=>.tuple [.agg ajF,.bool false]
 |i=>.tuple [.agg (LM i),.bool true]
theorem ajo:∀{i j:Nat},i<4→j<4→nmZ i=nmZ j→i=j:=by
 intro i j hi hj h;have Xd:i=0∨i=1∨i=2∨i=3:=by omega
 have hj':j=0∨j=1∨j=2∨j=3:=by omega
 rcases Xd with rfl|rfl|rfl|rfl<;>rcases hj' with rfl|rfl|rfl|rfl<;>first|rfl|(exfalso;simp[nmZ,QW,ft,lD]at h)
theorem ac5:∀y∈ajF,Y1 y=true:=fun y hy=>wG.1 (show ajF.all Y1=true by kernel_rfl) y hy
def Jb:MZ:=⟨129,QJ,fun q=>[vM,I 4,nmZ q.i],fun q=>aCs q.i,by intro q p h;simp only[List.cons.injEq,true_and,and_true]at h;rw[ajo q.lt p.lt h]⟩
theorem Vo:mZ Tryz.prog .nil Jb:=by
 refine⟨⟨_,lv (n:=129) (by decide)⟩,fun q=>?_⟩;obtain⟨i,hi⟩:=q;have h:=Tv
 match i,hi with
 |0,_=>exact h.1
 |1,_=>exact h.2.1
 |2,_=>exact h.2.2.1
 |3,_=>exact h.2.2.2.1
def Mn:MZ:=⟨71,QJ,fun q=>[vM,I 4,nmZ q.i],fun q=>aCs q.i,by intro q p h;simp only[List.cons.injEq,true_and,and_true]at h;rw[ajo q.lt p.lt h]⟩
theorem Xo:mZ Tryz.prog .nil Mn:=by
 refine⟨⟨_,lv (n:=71) (by decide)⟩,fun q=>?_⟩;obtain⟨i,hi⟩:=q;have h:=ahT
 match i,hi with
 |0,_=>exact h.1
 |1,_=>exact h.2.1
 |2,_=>exact h.2.2.1
 |3,_=>exact h.2.2.2.1
end Ln
