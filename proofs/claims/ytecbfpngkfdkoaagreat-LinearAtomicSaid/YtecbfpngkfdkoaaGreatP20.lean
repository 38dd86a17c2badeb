/- A part of the proof. No condition. -/
import Derived.Test.YtecbfpngkfdkoaaGreatP19
import Derived.Test.YtecbfpngkfdkoaaGreatP9
import Derived.Test.YtecbfpngkfdkoaaGreatP17
import Derived.Test.YtecbfpngkfdkoaaGreatP18
set_option linter.unusedSimpArgs false
set_option linter.unusedVariables false
set_option linter.unusedSectionVars false
namespace Ln
open Go.Sx Go
def sK(i:Nat)(l:List Ev):Int:=if cM [] l=0 then yx i (aR 0 l)else Gt (cM [] l)
def im(os:List Op):Nat→Nat
 |0=>0
 |j+1=>if 0≤(os.getD j default).e then im os j ||| 2^j else im os j
theorem Yr(os:List Op):∀j,im os j<2^j
 |0=>by simp[im]
 |j+1=>by
  have h:=Yr os j;have h2:2^j<2^(j+1):=Nat.pow_lt_pow_right (by omega) (by omega);unfold im;split
  ·exact Nat.or_lt_two_pow (by omega) h2
  ·omega
theorem zC{j:Nat}(h:j≤16):2^j≤65536:=Nat.pow_le_pow_right (n:=2) (by omega) h
theorem uq{n:Nat}(h:n≤65536):Q7 .i64 (n:Int)=n:=by unfold Q7 full;show Int.toNat (Int.emod (n:Int) 18446744073709551616)=n;have:Int.emod (n:Int) 18446744073709551616=(n:Int):=Int.emod_eq_of_lt (by omega) (by omega);rw[this];rfl
def jB(X:Kn)(i:Nat)(cO:AV)(s:St)(e:Nat):List AV:=[.sl X.rows 7 45 .any,fT i,cO,I 200,I 50,I 0,I s.k,I s.n,.str 0 0,aV s.kids,I e]
variable{C:bP}{X:Kn}(S:Std C X)
include S
structure BgA(X:Kn)(i:Nat)(os:List Op)(cO:AV)(bm bl bd bj n0:Key)(e:Nat)(tm:T AV)(h:T ah)(nx:Key):Prop where
 g1:ag (K 1) tm=some (fT i)
 g4:ag (K 4) tm=some (.ptr bm 0)
 g7:ag (K 7) tm=some (.ptr bl 0)
 g10:ag (K 10) tm=some cO
 g12:ag (K 12) tm=some (.ptr bd 0)
 g14:ag (K 14) tm=some (.ptr bj 0)
 m:ag bm h=QZ [.sl X.rows 7 45 .any]
 l:ag bl h=QZ [I 200,I 50]
 d:ag bd h=QZ (X.dec i)
 j:ag bj h=QZ (jB X i cO ⟨0,0,[]⟩ e)
 lt:bm.toNat<nx.toNat∧bl.toNat<nx.toNat∧bd.toNat<nx.toNat∧bj.toNat<nx.toNat
 ge:n0.toNat≤bj.toNat
 ne:bm≠bj∧bl≠bj∧bd≠bj
def BgL(X:Kn)(i:Nat)(os:List Op)(cO:AV)(bm bl bd bj n0:Key)(h:T ah)(m:Nat)(aD:T AV)(h':T ah)(nx':Key):Prop:=∃j:Nat,m=os.length-j∧j≤os.length∧ag (K 41) aD=some cO∧ag (K 42) aD=some (I os.length)∧ag (K 43) aD=some (I j)∧BgA X i os cO bm bl bd bj n0 (im os j) aD h' nx'∧Ext h n0 h' nx'∧yx i os=yx i (os.drop j)
theorem ao4{i:Nat}(hi:i<3){os:List Op}(ho:os.length≤16){cO:AV}(hc:nW 10 eO cO os){bm bl bd bj n0:Key}{h:T ah}{Q:cH}{m:Nat}{tm:T AV}{h1:T ah}{bw:Key}(A:BgL X i os cO bm bl bd bj n0 h m tm h1 bw)
  (zm:∀aD h' nx',ag (K 8) aD=some .nilp→ag (K 9) aD=some (I (yx i os))→yx i os≠0→Ext h n0 h' nx'→Q .ret aD h' nx')
  (gJ:∀aD h' nx',BgA X i os cO bm bl bd bj n0 (im os os.length) aD h' nx'→Ext h n0 h' nx'→yx i os=0→Q .norm aD h' nx') :
  W C (.loop pr) (aG 0 Q) tm h1 bw:=by
 have ri:=S.r bR;have d45:=S.ok.aur i hi;have d36:=S.ok.aBx i hi;have ac9:∀hh,(X.dec i)[36]'hh=axz X i:=fun hh=>by have q:=pY hh;rw[d36]at q;exact(Option.some.inj q).symm
 refine W.fh (BgL X i os cO bm bl bd bj n0 h) A ?_;rintro m dc h2 bu ⟨j,rfl,hj,g41,g42,g43,B,e2,BK⟩;obtain⟨g1,g4,g7,g10,g12,g14,bm2,bl2,bd2,bj2,lt,ge,ne⟩:=B;refine W.of ?_;simp[pr];by_cases da:j<os.length
 ·have L1:(j:Int)<os.length:=by omega
  have Vk:cO=.sl (aq eO os) os.length 10 .any:=by
   rcases hc with⟨_,rfl⟩|e
   ·simp at da
   ·exact e
  have acS:=g41;rw[Vk]at acS;have ec:=gV.at da;have hr:=gV.rows os;have tx:10≤os.length*10-j*10:=by omega
  have s2:=kTSu bu;have hac:(eO os[j]).all AV.aM=true:=sF.2 (gV.cell _);rw[zqt da]at BK;have hbg:yx i (os[j] ::os.drop (j+1))=match y9 i os[j].name with|none=>6|some c=>if os[j].args.length=c.ar then yx i (os.drop (j+1))else 1:=rfl
  rw[hbg]at BK;have hgd:os.getD j default=os[j]:=by rw[List.getD_eq_getElem?_getD,pY da];rfl
  have heb:im os (j+1)=if 0≤os[j].e then im os j ||| 2^j else im os j:=by rw[←hgd];rfl
  have elt:=Yr os j;have p16:=zC (j:=j) (by omega);generalize os[j]=o at *;simp[xr,g42,g43,L1];simp[Dt,acS,g43,da,hr,tx,ec,ajo,aaO,hac];have e3:=E0 h2 bu (.cells (eO o) .fix);have gb3:ag bu (aw bu (QZ (eO o)) h2)=QZ (eO o):=by simp
  have bd3:ag bd (aw bu (QZ (eO o)) h2)=QZ (X.dec i):=by rw[e3.g bd lt.2.2.1];exact bd2
  generalize hH:aw bu (QZ (eO o)) h2=h3 at *;simp[Du,g12,bd3,ac9,d45,ri];refine(anJ S hi o gb3 (by omega)).mono ?_;rintro out h4 kK ⟨rfl,e4⟩;simp;have gb4:ag bu h4=QZ (eO o):=by rw[e4.g bu (by omega)];exact gb3
  have ZH:=e3.trans e4;have bm4:ag bm h4=QZ [.sl X.rows 7 45 .any]:=by rw[ZH.g bm lt.1];exact bm2
  have bl4:ag bl h4=QZ [I 200,I 50]:=by rw[ZH.g bl lt.2.1];exact bl2
  have bd4:ag bd h4=QZ (X.dec i):=by rw[ZH.g bd lt.2.2.1];exact bd2
  have bj4:ag bj h4=QZ (jB X i cO ⟨0,0,[]⟩ (im os j)):=by rw[ZH.g bj lt.2.2.2];exact bj2
  have n24:=ZH.n;have hix:(∃(t:Nat) (ht:t<(aZ i).length),PE i o.name=t∧y9 i o.name=some (aZ i)[t])∨(PE i o.name=-1∧y9 i o.name=none):=by
   unfold PE y9;cases hf:(aZ i).findIdx? (fun c=>c.name==o.name)with
   |none=>rw[List.findIdx?_eq_none_iff]at hf;exact .inr ⟨rfl,List.find?_eq_none.2 (fun c hc=>by simpa using hf c hc)⟩
   |some t=>rw[List.findIdx?_eq_some_iff_getElem]at hf;obtain⟨ht,h1,h2⟩:=hf;refine .inl ⟨t,ht,rfl,?_⟩;rw[List.find?_eq_some_iff_getElem];exact⟨h1,t,ht,rfl,fun s hs=>by simpa using h2 s hs⟩
  have next:∀(tm2:T AV) (h5:T ah),(∀k:Key,k=K 1∨k=K 4∨k=K 7∨k=K 10∨k=K 12∨k=K 14∨k=K 41∨k=K 42∨k=K 43→ag k tm2=ag k dc)→ag bj h5=QZ (jB X i cO ⟨0,0,[]⟩ (im os (j+1)))→(∀k:Key,k≠bj→ag k h5=ag k h4)→yx i os=yx i (os.drop (j+1))→
    qy C (aW (fun tm h' nx'=>∃m,m<os.length-j∧BgL X i os cO bm bl bd bj n0 h m tm h' nx') (aG 0 Q)) jI tm2 h5 kK:=by
   intro tm2 h5 q qj qk qe;have q43:=(q (K 43) (by simp)).trans g43;simp[jI,q43];rw[aO (by omega) (by omega)];refine⟨os.length-(j+1),by omega,j+1,rfl,by omega,?_,?_,by simp,⟨?_,?_,?_,?_,?_,?_,by rw[qk bm ne.1];exact bm4,by rw[qk bl ne.2.1];exact bl4,by rw[qk bd ne.2.2];exact bd4,qj,by omega,ge,ne⟩,?_,qe⟩
   ·simp;exact(q (K 41) (by simp)).trans g41
   ·simp;exact(q (K 42) (by simp)).trans g42
   ·simp;exact(q (K 1) (by simp)).trans g1
   ·simp;exact(q (K 4) (by simp)).trans g4
   ·simp;exact(q (K 7) (by simp)).trans g7
   ·simp;exact(q (K 10) (by simp)).trans g10
   ·simp;exact(q (K 12) (by simp)).trans g12
   ·simp;exact(q (K 14) (by simp)).trans g14
   ·exact⟨by have:=e2.n;omega,fun b hb=>by rw[qk b (fun e=>by subst e;omega),ZH.g b (by have:=e2.n;omega)];exact e2.g b hb⟩
  have as9:Ext h n0 h4 kK:=e2.trans ZH;rcases hix with⟨t,ht,hx,LU⟩|⟨hx,LU⟩
  ·have h1:=S.ok.aIS i hi t _ (pY ht);have ecr:=ahX S ht;have hlr:=ahY S (i:=i);have hl:=(S.ok.aeE i).len t;have t23:23≤(aZ i).length*23-t*23:=by omega
   rw[LU]at BK;simp only at BK;have hx0:¬(t:Int)<0:=by omega
   generalize (aZ i)[t]=c at *;obtain⟨d,hd,hD⟩:=h1;have QR:∀hh,(X.cmd i t)[1]'hh=d:=fun hh=>by have q:=pY hh;rw[hd]at q;exact(Option.some.inj q).symm
   simp[uT,hx,hx0];have hA:(aV o.args=.nils∧o.args.length=0)∨∃l,aV o.args=.sl l o.args.length 4 .any:=by
    cases o.args with
    |nil=>exact .inl ⟨rfl,rfl⟩
    |cons a t=>exact .inr ⟨_,rfl⟩
   have rest:∀tm2:T AV,(∀k:Key,k=K 1∨k=K 4∨k=K 7∨k=K 10∨k=K 12∨k=K 14∨k=K 15∨k=K 16∨k=K 41∨k=K 42∨k=K 43→ag k tm2=ag k (aw (K 15) (some (I j)) (aw (K 16) (some (.ptr bu 0)) dc)))→o.args.length=c.ar→
     qy C (aW (iT C (.cond (.t (K 67)) (.staged uU ⟨[K 68,K 69,K 70,K 71,K 72,K 73,K 74,K 75,K 76],[]⟩) .skip) (aG 1 (aW (iT C (.ops jI) (aW (fun tm h' nx'=>∃m,m<os.length-j∧BgL X i os cO bm bl bd bj n0 h m tm h' nx') (aG 0 Q))) (aW (fun tm h' nx'=>∃m,m<os.length-j∧BgL X i os cO bm bl bd bj n0 h m tm h' nx') (aG 0 Q))))) (aG 1 (aW (iT C (.ops jI) (aW (fun tm h' nx'=>∃m,m<os.length-j∧BgL X i os cO bm bl bd bj n0 h m tm h' nx') (aG 0 Q))) (aW (fun tm h' nx'=>∃m,m<os.length-j∧BgL X i os cO bm bl bd bj n0 h m tm h' nx') (aG 0 Q))))) mZ tm2 h4 kK:=by
    intro tm2 q hlen;rw[if_pos hlen]at BK;have q15:ag (K 15) tm2=some (I j):=by rw[q (K 15) (by simp)];simp
    have q16:ag (K 16) tm2=some (.ptr bu 0):=by rw[q (K 16) (by simp)];simp
    have q14:ag (K 14) tm2=some (.ptr bj 0):=by rw[q (K 14) (by simp)];simp[g14]
    have q9:∀k:Key,k=K 1∨k=K 4∨k=K 7∨k=K 10∨k=K 12∨k=K 14∨k=K 41∨k=K 42∨k=K 43→ag k tm2=ag k dc:=by rintro k (rfl|rfl|rfl|rfl|rfl|rfl|rfl|rfl|rfl)<;>(rw[q _ (by simp)];simp)
    by_cases he:o.e<0
    ·rw[if_neg (by omega)]at heb;simp[mZ,q16,gb4,eO,he];refine next _ h4 ?_ (by rw[heb];exact bj4) (fun _ _=>rfl) BK
     rintro k (rfl|rfl|rfl|rfl|rfl|rfl|rfl|rfl|rfl)<;>(simp;exact q9 _ (by simp))
    ·rw[if_pos (by omega)]at heb;simp[mZ,q16,gb4,eO,he];have hsh:NS .i64 j=true:=by unfold NS;exact Nat.ble_eq_true_of_le (by omega)
     have ZI:((2:Int)^j)=((2^j:Nat):Int):=by simp
     have hp2:2^j≤65536:=zC (by omega);have hw:bD .i64 ((2:Int)^j)=((2^j:Nat):Int):=by rw[ZI];exact aO (by omega) (by omega)
     have hl1:Q7 .i64 ((2^j:Nat):Int)=2^j:=uq hp2;have WA:Q7 .i64 (im os j:Int)=im os j:=uq (by omega);have hor:im os j ||| 2^j<2^(j+1):=Nat.or_lt_two_pow (by have:2^j<2^(j+1):=Nat.pow_lt_pow_right (by omega) (by omega);omega) (Nat.pow_lt_pow_right (by omega) (by omega));have hp3:2^(j+1)≤131072:=Nat.pow_le_pow_right (n:=2) (by omega) (by omega:j+1≤17);have hw2:bD .i64 ((im os j ||| 2^j:Nat):Int)=((im os j ||| 2^j:Nat):Int):=aO (by omega) (by omega);simp[uU,q14,q15,bj4,jB,hsh,-Int.natCast_pow,hw,hl1,WA,hw2];refine next _ _ ?_ ?_ (fun k hk=>aP _ _ _ _ hk) BK
     ·rintro k (rfl|rfl|rfl|rfl|rfl|rfl|rfl|rfl|rfl)<;>(simp;exact q9 _ (by simp))
     ·rw[heb];simp[jB];rw[hw,hl1,hw2]
   rcases hA with⟨ea,ha0⟩|⟨la,ea⟩<;>rcases hD with⟨rfl,hk0⟩|⟨ld,z,rfl⟩
   ·simp[dY,g12,gb4,bd4,eO,ac9,d45,ht,hlr,t23,ecr,hl,QR,ea];refine rest _ ?_ (by omega);rintro k (rfl|rfl|rfl|rfl|rfl|rfl|rfl|rfl|rfl|rfl|rfl)<;>simp
   ·by_cases IL:c.ar=0
    ·simp[dY,g12,gb4,bd4,eO,ac9,d45,ht,hlr,t23,ecr,hl,QR,ea,IL];refine rest _ ?_ (by omega);rintro k (rfl|rfl|rfl|rfl|rfl|rfl|rfl|rfl|rfl|rfl|rfl)<;>simp
    ·have UJ:((0:Int)==(c.ar:Int))=false:=bq (by omega);rw[if_neg (by omega)]at BK;simp[dY,g12,gb4,bd4,eO,ac9,d45,ht,hlr,t23,ecr,hl,QR,ea,UJ];simp[mY];refine zm _ _ _ ?_ ?_ (by rw[BK];decide) as9
     ·simp
     ·simp[BK]
   ·by_cases IL:o.args.length=0
    ·simp[dY,g12,gb4,bd4,eO,ac9,d45,ht,hlr,t23,ecr,hl,QR,ea,IL];refine rest _ ?_ (by omega);rintro k (rfl|rfl|rfl|rfl|rfl|rfl|rfl|rfl|rfl|rfl|rfl)<;>simp
    ·have UJ:((o.args.length:Int)==0)=false:=bq (by omega);rw[if_neg (by omega)]at BK;simp[dY,g12,gb4,bd4,eO,ac9,d45,ht,hlr,t23,ecr,hl,QR,ea,UJ];simp[mY];refine zm _ _ _ ?_ ?_ (by rw[BK];decide) as9
     ·simp
     ·simp[BK]
   ·by_cases IL:o.args.length=c.ar
    ·simp[dY,g12,gb4,bd4,eO,ac9,d45,ht,hlr,t23,ecr,hl,QR,ea,IL];refine rest _ ?_ IL;rintro k (rfl|rfl|rfl|rfl|rfl|rfl|rfl|rfl|rfl|rfl|rfl)<;>simp
    ·have UJ:((o.args.length:Int)==(c.ar:Int))=false:=bq (by omega);rw[if_neg IL]at BK;simp[dY,g12,gb4,bd4,eO,ac9,d45,ht,hlr,t23,ecr,hl,QR,ea,UJ];simp[mY];refine zm _ _ _ ?_ ?_ (by rw[BK];decide) as9
     ·simp
     ·simp[BK]
  ·rw[LU]at BK;simp only at BK;simp[uT,hx];simp[Dv];refine zm _ _ _ ?_ ?_ (by rw[BK];decide) as9
   ·simp
   ·simp[BK]
 ·have Jk:j=os.length:=by omega
  subst Jk;rw[List.drop_length]at BK;simp[xr,g42,g43];exact gJ _ _ _ ⟨by simp[g1],by simp[g4],by simp[g7],by simp[g10],by simp[g12],by simp[g14],bm2,bl2,bd2,bj2,lt,ge,ne⟩ e2 BK
end Ln
namespace Ln
open Go.Sx Go
variable{C:bP}{X:Kn}(S:Std C X)
include S
def ax4(mk:AV→List AV)(i:Nat)(l:List Ev)(h:T ah)(nx:Key)(o:Out)(h':T ah)(nx':Key):Prop:=Ext h nx h' nx'∧
 ((sK i l≠0∧o=.ret (.tuple [.nilp,I (sK i l)]))∨
  (sK i l=0∧∃(b:Key) (cO:AV),o=.ret (.tuple [.ptr b 0,I 0])∧ag b h'=QZ (mk cO)∧nW 10 eO cO (aR 0 l)∧nx.toNat≤b.toNat∧b.toNat<nx'.toNat))
omit S in
theorem agF(i:Nat):∃k n,bJ i=⟨k,n,[]⟩:=by unfold bJ;split<;>exact⟨_,_,rfl⟩
theorem aaL{i:Nat}(hi:i<3){ev:AV}{l:List Ev}(hl:adD l){h:T ah}{nx:Key}(hv:Rd 8 ev (aq eE l) l.length h nx):aJ C hN [X.m,fT i,ev,iW] h nx (ax4 (fun cO=>jB X i cO (bJ i) (im (aR 0 l) (aR 0 l).length)) i l h nx):=by
 have s1:=kTSu nx;have s2:=kTSu nx.succ;have rO:C.raw nX=true:=S.rw (by decide);have rD:=S.r B7;have rI:=S.r Ek;have Gs:(aR 0 l).length≤16:=hl.beg;refine S.HR.call ?_;simp[Ef];simp[Fl,Kn.m,iW];have e2:=(E0 h nx (.cells [.sl X.rows 7 45 .any] .fix)).trans (E0 _ nx.succ (.cells [I 200,I 50] .fix));have bm2:ag nx (aw nx.succ (QZ [I 200,I 50]) (aw nx (QZ [.sl X.rows 7 45 .any]) h))=QZ [.sl X.rows 7 45 .any]:=by rw[aA (by omega)];simp
 have bl2:ag nx.succ (aw nx.succ (QZ [I 200,I 50]) (aw nx (QZ [.sl X.rows 7 45 .any]) h))=QZ [I 200,I 50]:=by simp
 generalize aw nx.succ (QZ [I 200,I 50]) (aw nx (QZ [.sl X.rows 7 45 .any]) h)=h2 at *;simp[Fm,rO];refine(ap5 S hl _ _ (hv.ext e2)).mono ?_;rintro o h3 dZ ⟨⟨cO,rfl,hc⟩,e3⟩;have UE:=e2.trans e3;have bm3:ag nx h3=QZ [.sl X.rows 7 45 .any]:=by rw[e3.g nx (by omega)];exact bm2
 have bl3:ag nx.succ h3=QZ [I 200,I 50]:=by rw[e3.g nx.succ (by omega)];exact bl2
 have n3:=e3.n;simp;by_cases hvd:cM [] l=0
 ·rw[if_pos hvd]at hc;have hcb:sK i l=yx i (aR 0 l):=by unfold sK;rw[if_pos hvd]
  simp[xk,hvd,Gt];have d45:=S.ok.aur i hi;have dC:(X.dec i).all AV.aM=true:=sF.2 (S.ok.aIT i hi);simp[Fo,bm3,rD];refine aJ.known (S.s_parser_Decl i hi _ _) ?_;have s3:=kTSu dZ;have s4:=kTSu dZ.succ;simp[d45,dC];have dt:List.drop 45 (X.dec i)=[]:=List.drop_eq_nil_of_le (by omega);have e4:=E0 h3 dZ (.cells (X.dec i) .fix);have bd4:ag dZ (aw dZ (QZ (X.dec i)) h3)=QZ (X.dec i):=by simp
  have bm4:ag nx (aw dZ (QZ (X.dec i)) h3)=QZ [.sl X.rows 7 45 .any]:=by rw[e4.g nx (by omega)];exact bm3
  have bl4:ag nx.succ (aw dZ (QZ (X.dec i)) h3)=QZ [I 200,I 50]:=by rw[e4.g nx.succ (by omega)];exact bl3
  generalize aw dZ (QZ (X.dec i)) h3=h4 at *;simp[Fp];have Nt:cO.aM=true∧cO.cells=[cO]:=hc.cell;have hcz:∀n H,aS n cO H=(cO,H):=fun n H=>hc.wU n H;simp[Fq,bm4,bl4,Nt.1,Nt.2,hcz];have e5:=E0 h4 dZ.succ (.cells (jB X i cO ⟨0,0,[]⟩ 0) .fix);have ejB:jB X i cO ⟨0,0,[]⟩ 0=[.sl X.rows 7 45 .any,fT i,cO,I 200,I 50,I 0,I 0,I 0,.str 0 0,.nils,I 0]:=rfl;rw[ejB]at e5;have s5:=kTSu dZ.succ;have bj5:ag dZ.succ (aw dZ.succ (QZ [.sl X.rows 7 45 .any,fT i,cO,I 200,I 50,I 0,I 0,I 0,.str 0 0,.nils,I 0]) h4)=QZ (jB X i cO ⟨0,0,[]⟩ 0):=by rw[gTSm];rfl
  have bm5:ag nx (aw dZ.succ (QZ [.sl X.rows 7 45 .any,fT i,cO,I 200,I 50,I 0,I 0,I 0,.str 0 0,.nils,I 0]) h4)=QZ [.sl X.rows 7 45 .any]:=by rw[e5.g nx (by omega)];exact bm4
  have bl5:ag nx.succ (aw dZ.succ (QZ [.sl X.rows 7 45 .any,fT i,cO,I 200,I 50,I 0,I 0,I 0,.str 0 0,.nils,I 0]) h4)=QZ [I 200,I 50]:=by rw[e5.g nx.succ (by omega)];exact bl4
  have bd5:ag dZ (aw dZ.succ (QZ [.sl X.rows 7 45 .any,fT i,cO,I 200,I 50,I 0,I 0,I 0,.str 0 0,.nils,I 0]) h4)=QZ (X.dec i):=by rw[e5.g dZ (by omega)];exact bd4
  have e25:=(UE.trans e4).trans e5;generalize aw dZ.succ (QZ [.sl X.rows 7 45 .any,fT i,cO,I 200,I 50,I 0,I 0,I 0,.str 0 0,.nils,I 0]) h4=h5 at *;have main:∀tm5:T AV,ag (K 41) tm5=some cO→ag (K 42) tm5=some (I (aR 0 l).length)→ag (K 43) tm5=some (I 0)→ag (K 1) tm5=some (fT i)→ag (K 4) tm5=some (.ptr nx 0)→ag (K 7) tm5=some (.ptr nx.succ 0)→ag (K 10) tm5=some cO→ag (K 12) tm5=some (.ptr dZ 0)→ag (K 14) tm5=some (.ptr dZ.succ 0)→
    W C (.loop pr) (aG 0 (aW (iT C (.seq (.ops uK) (.seq (.seq (.ops uL) (.cond (.t (K 86)) (.seq (.ops Dd) .ret) .skip)) (.seq (.ops uM) (.seq (.ops uN) .ret)))) (fQ [.tmp (K 8),.tmp (K 9)] (ax4 (fun cO=>jB X i cO (bJ i) (im (aR 0 l) (aR 0 l).length)) i l h nx))) (fQ [.tmp (K 8),.tmp (K 9)] (ax4 (fun cO=>jB X i cO (bJ i) (im (aR 0 l) (aR 0 l).length)) i l h nx)))) tm5 h5 dZ.succ.succ:=by
   intro tm5 q41 q42 q43 q1 q4 q7 q10 q12 q14;refine ao4 S hi Gs hc (h:=h) (n0:=nx) (bm:=nx) (bl:=nx.succ) (bd:=dZ) (bj:=dZ.succ) (m:=(aR 0 l).length) ⟨0,by simp,by omega,q41,q42,by simpa using q43,⟨q1,q4,q7,q10,q12,q14,bm5,bl5,bd5,bj5,by omega,by omega,?_⟩,e25,rfl⟩ ?_ ?_
   ·refine⟨?_,?_,?_⟩<;>(intro e;have:=congrArg Key.toNat e;omega)
   ·intro aD h' nx' a8 a9 bW e';simp[a8,a9];exact⟨e',.inl ⟨by rw[hcb];exact bW,by rw[hcb]⟩⟩
   ·rintro aD h' nx' ⟨a1,a4,a7,a10,a12,a14,bm',bl',bd',bj',lt,ge,ne⟩ e' UJ;simp;simp[uK,a1,a4,a7,bm',bl',rI];refine aJ.known (S.s_InitP i hi _ _) ?_;obtain⟨k,n,yI⟩:=agF i;have es:eS (bJ i)=[I k,I n,.str 0 0,.nils]:=by rw[yI];rfl
    have s6:=kTSu nx';simp[es];have bj6:ag dZ.succ (aw nx' (QZ [I k,I n,.str 0 0,.nils]) h')=QZ (jB X i cO ⟨0,0,[]⟩ (im (aR 0 l) (aR 0 l).length)):=by rw[aA lt.2.2.2];exact bj'
    simp[uL];simp[uM,a14,bj6,jB];simp[uN,a14];refine⟨?_,.inr ⟨by rw[hcb];exact UJ,dZ.succ,cO,rfl,?_,hc,by omega,by omega⟩⟩
    ·exact⟨by have:=e'.n;omega,fun b hb=>by rw[aA (by omega),aA (by have:=e'.n;omega)];exact e'.g b hb⟩
    ·simp[jB,yI,aV]
  rcases id hc with⟨ec,eo⟩|ec
  ·have hl0:(aR 0 l).length=0:=by rw[eo];rfl
   have aKL:((aR 0 l).length:Int)=0:=by omega
   rw[aKL]at main;simp[xl,ec];refine main _ ?_ ?_ ?_ ?_ ?_ ?_ ?_ ?_ ?_<;>simp[ec]
  ·simp[xl,ec];refine main _ ?_ ?_ ?_ ?_ ?_ ?_ ?_ ?_ ?_<;>simp[ec]
 ·have bW:Gt (cM [] l)≠0:=by unfold Gt;split<;>first|exact absurd ‹_› hvd|decide
  have hcb:sK i l=Gt (cM [] l):=by unfold sK;rw[if_neg hvd]
  simp[xk,bq bW];simp[Ft];exact⟨UE,.inl ⟨by rw[hcb];exact bW,by rw[hcb]⟩⟩
end Ln
namespace Ln
open Go.Sx Go
variable{C:bP}{X:Kn}(S:Std C X)
include S
end Ln
namespace Ln
open Go.Sx Go
def wB(X:Kn)(i:Nat)(cO:AV)(s:St):List AV:=[.sl X.rows 7 45 .any,fT i,I 200,I 50,cO,I s.k,I s.n,.str 0 0,aV s.kids]
variable{C:bP}{X:Kn}(S:Std C X)
include S
end Ln
namespace Ln
open Go.Sx Go
theorem aIH(u:U)(H:T ah):bA (aS 9998) (eU u) H=(eU u,H):=bF (Cu.wU u)
theorem aII(s:St):∀y∈eS s,KD y:=by
 intro y hy;simp[eS]at hy;rcases hy with rfl|rfl|rfl|rfl
 ·exact c5 _ _
 ·exact c5 _ _
 ·exact jj _ _
 ·exact gx _
theorem Cx(s:St)(H:T ah):bA (aS 9998) (eS s) H=(eS s,H):=bF (aII s)
theorem CB(s:St):(eS s).all AV.aM=true:=by simp[eS,(du s.kids).1]
theorem lenS(s:St):(eS s).length=4:=rfl
theorem zv(s:St):List.take 4 (eS s)=eS s:=rfl
theorem aaN(s:St):List.drop 4 (eS s)=[]:=rfl
def awz(X:Kn)(c:cd)(o:Op)(s:St)(out:Out):Prop:=∃u:St,out=.ret (.tuple [.agg (eS u),.bool (X.take c o s).isSome])∧∀t,X.take c o s=some t→u=t
structure amO(mi:Nat)(os:List Op)(x:Nat)(o:Op)(c:cd):Prop where
 get:os[x]?=some o
 name:o.name=c.name
 ar:o.args.length=c.ar
 fm:c.fm=mi
variable{C:bP}{X:Kn}(S:Std C X)
include S
theorem aa0{mi:Nat}{os:List Op}{cO:AV}(hc:nW 10 eO cO os){x:Nat}{o:Op}{c:cd}(hx:amO mi os x o c){s s0:St}(hs:jL mi s){e:Nat}{h:T ah}{nx bj:Key}(hb:ag bj h=QZ (jB X mi cO s0 e))(FL:bj.toNat<nx.toNat) :
  aJ C cU [.ptr bj 0,I x,.agg (eS s)] h nx (fun out h' nx'=>awz X c o s out∧Ext h nx h' nx'):=by
 obtain⟨hxo,hn,har,rfl⟩:=hx;obtain⟨Tk,hox⟩:=List.getElem?_eq_some_iff.1 hxo;have s1:=kTSu nx;have s2:=kTSu nx.succ;have s3:=kTSu nx.succ.succ;have rC:=S.r Hw;have rH:=S.r BW;have rN:=S.r DX;have Vk:cO=.sl (aq eO os) os.length 10 .any:=by
  rcases hc with⟨_,rfl⟩|e
  ·simp at Tk
  ·exact e
 subst Vk;have ec:=gV.at Tk;have hr:=gV.rows os;have tx:10≤os.length*10-x*10:=by omega
 have hac:(eO os[x]).all AV.aM=true:=sF.2 (gV.cell _);rw[hox]at ec hac;have scC:=S.s_CanP c s o.args hs har;have scH:=S.s_HoldsP c s o.args o.res hs har;have scN:=S.s_NextP c s o.args o.res hs har;have aau:X.take c o s=if X.US c s o.args≠0∨X.UR c s o.args=false then none
  else if 0≤o.e∧(X.zg c s o.args o.res≠0∨X.zf c s o.args o.res=false)then none
  else if X.Ez c s o.args o.res≠0 then none else some (X.Ct c s o.args o.res):=rfl
 refine S.tr.call ?_;simp[nR];simp[rq,CB,lenS];have e2:=(E0 h nx (.cells (eS s) .fix)).trans (E0 _ nx.succ (.cells [I 0,I 0,.str 0 0,.nils] .fix));have bs2:ag nx (aw nx.succ (QZ [I 0,I 0,.str 0 0,.nils]) (aw nx (QZ (eS s)) h))=QZ (eS s):=by rw[aA (by omega)];simp
 have b62:ag nx.succ (aw nx.succ (QZ [I 0,I 0,.str 0 0,.nils]) (aw nx (QZ (eS s)) h))=QZ [I 0,I 0,.str 0 0,.nils]:=by simp
 have bj2:ag bj (aw nx.succ (QZ [I 0,I 0,.str 0 0,.nils]) (aw nx (QZ (eS s)) h))=QZ (jB X c.fm (.sl (aq eO os) os.length 10 .any) s0 e):=by rw[e2.g bj FL];exact hb
 generalize aw nx.succ (QZ [I 0,I 0,.str 0 0,.nils]) (aw nx (QZ (eS s)) h)=h2 at *;simp[ru,bj2,jB,Tk,hr,tx,ec,aaO,ajo,hac];have e3:=E0 h2 nx.succ.succ (.cells (eO o) .fix);have bo3:ag nx.succ.succ (aw nx.succ.succ (QZ (eO o)) h2)=QZ (eO o):=by simp
 have bs3:ag nx (aw nx.succ.succ (QZ (eO o)) h2)=QZ (eS s):=by rw[e3.g nx (by omega)];exact bs2
 have b63:ag nx.succ (aw nx.succ.succ (QZ (eO o)) h2)=QZ [I 0,I 0,.str 0 0,.nils]:=by rw[e3.g nx.succ (by omega)];exact b62
 have bj3:ag bj (aw nx.succ.succ (QZ (eO o)) h2)=QZ (jB X c.fm (.sl (aq eO os) os.length 10 .any) s0 e):=by rw[e3.g bj (by omega)];exact bj2
 have UE:=e2.trans e3;generalize aw nx.succ.succ (QZ (eO o)) h2=h3 at *;have af:∀n H,aS n (aV o.args) H=(aV o.args,H):=gx _;have done:∀(c6:List AV),Ext h nx (aw nx.succ (QZ c6) h3) nx.succ.succ.succ:=fun c6=>UE.put (by omega);simp[ry,bj3,jB,bo3,bs3,eO,hn,rC,zv,lenS,Cx,af];refine aJ.known (scC _ _) ?_;simp;have Rc:X.take c o s=none→awz X c o s (.ret (.tuple [.agg [I 0,I 0,.str 0 0,.nils],.bool false])):=fun e=>⟨⟨0,0,[]⟩,by rw[e];rfl,by rw[e];simp⟩;by_cases h1:X.US c s o.args=0
 ·cases h2:X.UR c s o.args with
  |false=>
   have ht:X.take c o s=none:=by rw[aau,if_pos (.inr h2)]
   simp[gE,h1];simp[kb,b63];exact⟨Rc ht,done _⟩
  |true=>
   have Hx:X.take c o s=if 0≤o.e∧(X.zg c s o.args o.res≠0∨X.zf c s o.args o.res=false)then none else if X.Ez c s o.args o.res≠0 then none else some (X.Ct c s o.args o.res):=by rw[aau,if_neg];rw[h1,h2];simp
   have s4:=kTSu nx.succ.succ.succ;simp[gE,h1];have last:∀tm2:T AV,ag (K 0) tm2=some (.ptr bj 0)→ag (K 5) tm2=some (.ptr nx 0)→ag (K 6) tm2=some (.ptr nx.succ 0)→ag (K 8) tm2=some (.ptr nx.succ.succ 0)→(X.take c o s=if X.Ez c s o.args o.res≠0 then none else some (X.Ct c s o.args o.res))→
     iT C (.seq (.staged ke ⟨[K 83,K 84,K 85,K 86,K 87,K 88,K 89,K 90,K 91,K 92,K 93,K 94,K 95,K 96,K 97,K 98,K 99,K 100,K 101,K 102,K 82,K 103,K 104,K 13,K 10],[]⟩) (.seq (.ops jz) .ret)) (fQ [.cell (K 6) true 4,.tmp (K 7)] fun out h' nx'=>awz X c o s out∧Ext h nx h' nx') tm2 h3 nx.succ.succ.succ:=by
    intro tm2 q0 q5 q6 q8 ht;simp;simp[ke,q0,q5,q8,bj3,jB,bo3,bs3,eO,hn,rN,zv,lenS,Cx,af];refine aJ.known (scN _ _) ?_;simp[CB,lenS,aaN];have b64:ag nx.succ (aw nx.succ.succ.succ (QZ (eS (X.Ct c s o.args o.res))) h3)=QZ [I 0,I 0,.str 0 0,.nils]:=by rw[aA (by omega)];exact b63
    simp[jz,q6,b64,CB,lenS,zv,Cx];refine⟨⟨X.Ct c s o.args o.res,?_,?_⟩,?_⟩
    ·rw[ht];by_cases he:X.Ez c s o.args o.res=0
     ·rw[if_neg (by simpa using he),bt he];rfl
     ·rw[if_pos he,bq he];rfl
    ·intro t hts;rw[ht]at hts;split at hts
     ·cases hts
     ·exact Option.some.inj hts
    ·exact⟨by have:=UE.n;omega,fun b hb=>by rw[aA (by omega),aA (by omega)];exact UE.g b hb⟩
   simp only[dO,jQ]at last;by_cases he:o.e<0
   ·rw[if_neg (by omega)]at Hx;simp[kg,bo3,eO,he];refine last _ ?_ ?_ ?_ ?_ Hx<;>simp
   ·simp[kg,bo3,eO,he];simp[rz,bj3,jB,bo3,bs3,eO,hn,rH,zv,lenS,Cx,af];refine aJ.known (scH _ _) ?_;simp;by_cases UA:X.zg c s o.args o.res=0
    ·cases h4:X.zf c s o.args o.res with
     |false=>rw[if_pos ⟨by omega,.inr h4⟩]at Hx;simp[gF,UA];simp[kh,b63];exact⟨Rc Hx,done _⟩
     |true=>rw[if_neg (by rw[UA,h4];simp)]at Hx;simp[gF,UA];refine last _ ?_ ?_ ?_ ?_ Hx<;>simp
    ·rw[if_pos ⟨by omega,.inl UA⟩]at Hx;simp[gF,bq UA];simp[kh,b63];exact⟨Rc Hx,done _⟩
 ·have ht:X.take c o s=none:=by rw[aau,if_pos (.inl h1)]
  simp[gE,bq h1];simp[kb,b63];exact⟨Rc ht,done _⟩
end Ln
namespace Ln
open Go.Sx Go
variable{C:bP}{X:Kn}(S:Std C X)
include S
end Ln
namespace Ln
open Go.Sx Go
def cm(i:Nat)(o:Op):cd:=(y9 i o.name).getD default
def Kn.run(X:Kn)(i:Nat)(os:List Op):List Int→St→Bool
 | [],_=>true
 |x ::l,s=>match X.take (cm i (at_ os x)) (at_ os x) s with
  |none=>false
  |some t=>X.run i os l t
noncomputable def Kn.check(X:Kn)(i:Nat)(l:List Ev)(ord:List Int):Int:=if sK i l=0 then(if jt (aR 0 l) ord=true then(if X.run i (aR 0 l) ord (bJ i)=true then 0 else 25)else 12)else sK i l
theorem Pw{i:Nat}{l:List Ev}(h:sK i l=0):cM [] l=0∧yx i (aR 0 l)=0:=by
 unfold sK at h;by_cases hv:cM [] l=0
 ·rw[if_pos hv]at h;exact⟨hv,h⟩
 ·rw[if_neg hv]at h;exfalso;unfold Gt at h;split at h
  ·exact hv ‹_›
  ·exact absurd h (by decide)
  ·exact absurd h (by decide)
  ·exact absurd h (by decide)
theorem XH{i:Nat}(hi:i<3){os:List Op}(hb:yx i os=0){x:Nat}{o:Op}(h:os[x]?=some o):amO i os x o (cm i o):=by
 obtain⟨c,h1,h2⟩:=aiw hb o (List.mem_of_getElem? h);have e:cm i o=c:=by unfold cm;rw[h1];rfl
 rw[e];exact⟨h,(Tq h1).1.symm,h2,ajy hi h1⟩
theorem YR{i:Nat}(hi:i<3):jL i (bJ i):=by unfold jL bJ AX;split<;>simp
variable{C:bP}{X:Kn}(S:Std C X)
def CkI(X:Kn)(i:Nat)(os:List Op)(ord:List Int)(c3:AV)(bj bs:Key)(s0:St)(h:T ah)(nx:Key)(cells:List AV)(m:Nat)(aD:T AV)(h':T ah)(nx':Key):Prop:=∃(j:Nat) (s:St),m=ord.length-j∧j≤ord.length∧ag (K 11) aD=some (.ptr bj 0)∧ag (K 13) aD=some (.ptr bs 0)∧ag (K 41) aD=some c3∧ag (K 42) aD=some (I ord.length)∧ag (K 43) aD=some (I j)∧
 ag bj h'=QZ cells∧ag bs h'=QZ (eS s)∧bj.toNat<nx'.toNat∧bs.toNat<nx'.toNat∧Ext h nx h' nx'∧jL i s∧X.run i os ord s0=X.run i os (ord.drop j) s
include S
theorem asM{i:Nat}(hi:i<3){os:List Op}(BK:yx i os=0){ord:List Int}(hlen:ord.length≤1000)(rng:∀x∈ord,0≤x∧x<os.length){c3 cO:AV}(hc:nW 10 eO cO os){bj bs:Key}{s0 s1:St}{e:Nat}{h:T ah}{nx:Key}{Q:cH}(hbs:nx.toNat≤bs.toNat)(bW:bj≠bs)(o0:Ord c3 ord ord.length h nx){m:Nat}{tm:T AV}{h1:T ah}{bw:Key}(A:CkI X i os ord c3 bj bs s0 h nx (jB X i cO s1 e) m tm h1 bw)
  (zm:∀aD h' nx',ag (K 10) aD=some (I 25)→X.run i os ord s0=false→Ext h nx h' nx'→Q .ret aD h' nx')
  (gJ:∀aD h' nx',X.run i os ord s0=true→Ext h nx h' nx'→Q .norm aD h' nx') :
  W C (.loop pn) (aG 0 Q) tm h1 bw:=by
 have rp:=S.r cU;refine W.fh (CkI X i os ord c3 bj bs s0 h nx (jB X i cO s1 e)) A ?_;rintro m dc h2 bu ⟨j,s,rfl,hj,g11,g13,g41,g42,g43,bj2,bs2,ltj,lts,e2,hs,eM⟩;refine W.of ?_;simp[pn];by_cases da:j<ord.length
 ·have L1:(j:Int)<ord.length:=by omega
  have rj:=rng _ (LA da);obtain⟨x,hx⟩:=Int.eq_ofNat_of_zero_le rj.1;have Tk:x<os.length:=by omega
  have hco:=XH hi BK (pY Tk);have DK:=Yj hx Tk;rw[zqt da]at eM;have hru:X.run i os (ord[j] ::ord.drop (j+1)) s=match X.take (cm i os[x]) os[x] s with|none=>false|some t=>X.run i os (ord.drop (j+1)) t:=by show(match X.take (cm i (at_ os ord[j])) (at_ os ord[j]) s with|none=>false|some t=>X.run i os (ord.drop (j+1)) t)=_;rw[DK]
  rw[hru]at eM;have n2:=e2.n;simp[xi,g42,g43,L1];have body:∀tm2:T AV,(∀k:Key,k=K 11∨k=K 13∨k=K 41∨k=K 42∨k=K 43→ag k tm2=ag k dc)→ag (K 15) tm2=some (I ord[j])→
    iT C (.seq (.ops uF) (.seq (.seq (.ops mX) (.cond (.t (K 55)) (.seq (.ops uG) .ret) .skip)) (.ops uH))) (aG 1 (aW (iT C (.ops uI) (aW (fun tm h' nx'=>∃m,m<ord.length-j∧CkI X i os ord c3 bj bs s0 h nx (jB X i cO s1 e) m tm h' nx') (aG 0 Q))) (aW (fun tm h' nx'=>∃m,m<ord.length-j∧CkI X i os ord c3 bj bs s0 h nx (jB X i cO s1 e) m tm h' nx') (aG 0 Q)))) tm2 h2 bu:=by
   intro tm2 q q15;have q11:=(q (K 11) (by simp)).trans g11;have q13:=(q (K 13) (by simp)).trans g13;have q41:=(q (K 41) (by simp)).trans g41;have q42:=(q (K 42) (by simp)).trans g42;have q43:=(q (K 43) (by simp)).trans g43;rw[hx]at q15;simp;simp[uF,q11,q13,q15,bs2,lenS,zv,rp,Cx];refine(aa0 S hc hco hs bj2 ltj).mono ?_;rintro out h3 dZ ⟨⟨u,rfl,hu⟩,e3⟩;have n3:=e3.n;have s3:=kTSu dZ;simp[CB,lenS,aaN];have e4:=E0 h3 dZ (.cells (eS u) .fix);have b16:ag dZ (aw dZ (QZ (eS u)) h3)=QZ (eS u):=by simp
   have bs4:ag bs (aw dZ (QZ (eS u)) h3)=QZ (eS s):=by rw[e4.g bs (by omega),e3.g bs lts];exact bs2
   have bj4:ag bj (aw dZ (QZ (eS u)) h3)=QZ (jB X i cO s1 e):=by rw[e4.g bj (by omega),e3.g bj ltj];exact bj2
   have ZH:=(e2.trans e3).trans e4;generalize aw dZ (QZ (eS u)) h3=h4 at *;cases ht:X.take (cm i os[x]) os[x] s with
   |none=>rw[ht]at eM;simp[mX];simp[uG];refine zm _ _ _ ?_ eM ZH;simp
   |some t=>rw[ht]at eM;have:=hu t ht;subst this;simp[mX];simp[uH,q13,b16,bs4,lenS,zv,aaN,CB];simp[uI,q43];rw[aO (by omega) (by omega)];refine⟨ord.length-(j+1),by omega,j+1,u,rfl,by omega,by simp[q11],by simp[q13],by simp[q41],by simp[q42],by simp,by rw[aP _ _ _ _ bW];exact bj4,by simp,by omega,by omega,ZH.put hbs,?_,eM⟩;have:=S.ok.take (cm i os[x]) os[x] s u (by rw[hco.fm];exact hs) hco.ar ht;rw[hco.fm]at this;exact this
  simp only[dO,fo]at body;rcases (o0.ext e2).cases with⟨_,e'⟩|⟨f,e'⟩|⟨b,kd,e',hb,FL⟩
  ·rw[e']at da;simp at da
  ·have jo:1≤ord.length-j:=by omega
   have GL:(aq eI ord).length=ord.length:=fC _;have rdj:=ur da;have acS:=g41;rw[e']at acS;simp[xj,acS,g43,da,GL,jo,rdj];refine body _ ?_ ?_
   ·rintro k (rfl|rfl|rfl|rfl|rfl)<;>simp
   ·simp
  ·have GL:(aq eI ord).length=ord.length:=fC _;have acS:=g41;rw[e']at acS;simp[xj,acS,g43,da,GL,hb];refine body _ ?_ ?_
   ·rintro k (rfl|rfl|rfl|rfl|rfl)<;>simp
   ·simp
 ·have Jk:j=ord.length:=by omega
  subst Jk;rw[List.drop_length]at eM;simp[xi,g42,g43];exact gJ _ _ _ eM e2
end Ln
namespace Ln
open Go.Sx Go
variable{C:bP}{X:Kn}(S:Std C X)
include S
theorem alZ{i:Nat}(hi:i<3){ev:AV}{l:List Ev}(hv:nW 8 eE ev l)(hl:adD l){c3:AV}{ord:List Int}(hlen:ord.length≤1000){h:T ah}{nx:Key}(o0:Ord c3 ord ord.length h nx) :
  aJ C mc [X.m,fT i,ev,c3,iW] h nx (fun o h' nx'=>o=.ret (I (X.check i l ord))∧Ext h nx h' nx'):=by
 have s1:=kTSu nx;have s2:=kTSu nx.succ;have rb:C.raw hN=true:=S.rw (by decide);have rL:C.raw jA=true:=S.rw (by decide);have hz:∀H,aS 9999 ev H=(ev,H):=fun H=>hv.wU _ _;have Gs:(aR 0 l).length≤16:=hl.beg;refine S.HQ.call ?_;simp[Ee];simp[FD,Kn.m,iW];have e2:=(E0 h nx (.cells [.sl X.rows 7 45 .any] .fix)).trans (E0 _ nx.succ (.cells [I 200,I 50] .fix));have bm2:ag nx (aw nx.succ (QZ [I 200,I 50]) (aw nx (QZ [.sl X.rows 7 45 .any]) h))=QZ [.sl X.rows 7 45 .any]:=by rw[aA (by omega)];simp
 have bl2:ag nx.succ (aw nx.succ (QZ [I 200,I 50]) (aw nx (QZ [.sl X.rows 7 45 .any]) h))=QZ [I 200,I 50]:=by simp
 generalize aw nx.succ (QZ [I 200,I 50]) (aw nx (QZ [.sl X.rows 7 45 .any]) h)=h2 at *;simp[FE,bm2,bl2,rb,hz];refine(aaL S hi hl (hv.rde _ _)).mono ?_;rintro o h3 dZ ⟨e3,hR⟩;have UE:=e2.trans e3;have n3:=e3.n;rcases hR with⟨bW,rfl⟩|⟨AF,bj,cO,rfl,bj3,hc,bj0,bjn⟩
 ·have IL:X.check i l ord=sK i l:=by unfold Kn.check;rw[if_neg bW]
  simp;simp[xq,bq bW];simp[FF];exact⟨IL.symm,UE⟩
 ·obtain⟨hvd,BK⟩:=Pw AF;have IL:X.check i l ord=if jt (aR 0 l) ord=true then(if X.run i (aR 0 l) ord (bJ i)=true then 0 else 25)else 12:=by unfold Kn.check;rw[if_pos AF]
  simp;simp[xq];simp[FG,bj3,jB,rL];refine(asL S Gs hlen hc (o0.ext UE)).mono ?_;rintro o h4 kK ⟨rfl,e4⟩;have bj4:ag bj h4=QZ (jB X i cO (bJ i) (im (aR 0 l) (aR 0 l).length)):=by rw[e4.g bj bjn];exact bj3
  have ZH:=UE.trans e4;have n4:=e4.n;have s4:=kTSu kK;cases hL:jt (aR 0 l) ord with
  |false=>rw[hL]at IL;simp;simp[FH];exact⟨by rw[IL];rfl,ZH⟩
  |true=>
   rw[hL,if_pos rfl]at IL;have rng:∀x∈ord,0≤x∧x<(aR 0 l).length:=by
    by_cases aC7:Lin (aR 0 l) ord
    ·exact aC7.rng
    ·rw[mW aC7]at hL;cases hL
   simp;have e5:=E0 h4 kK (.cells (eS (bJ i)) .fix);have bs5:ag kK (aw kK (QZ (eS (bJ i))) h4)=QZ (eS (bJ i)):=by simp
   have bj5:ag bj (aw kK (QZ (eS (bJ i))) h4)=QZ (jB X i cO (bJ i) (im (aR 0 l) (aR 0 l).length)):=by rw[e5.g bj (by omega)];exact bj4
   have e25:=ZH.trans e5;have hac:=(du (bJ i).kids).1;simp[FI,bj4,jB,hac];have ees:eS (bJ i)=[I (bJ i).k,I (bJ i).n,.str 0 0,aV (bJ i).kids]:=rfl;rw[ees]at bs5 bj5 e25;have main:∀tm2:T AV,ag (K 11) tm2=some (.ptr bj 0)→ag (K 13) tm2=some (.ptr kK 0)→ag (K 41) tm2=some c3→ag (K 42) tm2=some (I ord.length)→ag (K 43) tm2=some (I 0)→
     W C (.loop pn) (aG 0 (aW (iT C (.seq (.ops uR) .ret) (fQ [.tmp (K 10)] fun o h' nx'=>o=.ret (I (X.check i l ord))∧Ext h nx h' nx')) (fQ [.tmp (K 10)] fun o h' nx'=>o=.ret (I (X.check i l ord))∧Ext h nx h' nx'))) tm2 (aw kK (QZ [I (bJ i).k,I (bJ i).n,.str 0 0,aV (bJ i).kids]) h4) kK.succ:=by
    intro tm2 q11 q13 q41 q42 q43;refine asM S hi BK hlen rng hc (h:=h) (nx:=nx) (bj:=bj) (bs:=kK) (s0:=bJ i) (s1:=bJ i) (e:=im (aR 0 l) (aR 0 l).length) (by have:=ZH.n;omega) (by rintro rfl;omega) o0 (m:=ord.length) ⟨0,bJ i,by simp,by omega,q11,q13,q41,q42,by simpa using q43,bj5,bs5,by omega,by omega,e25,YR hi,rfl⟩ ?_ ?_
    ·intro aD h' nx' q10 hr e';rw[hr]at IL;simp[q10];exact⟨by rw[IL];rfl,e'⟩
    ·intro aD h' nx' hr e';rw[hr,if_pos rfl]at IL;simp;simp[uR];exact⟨by rw[IL],e'⟩
   rcases asE S o0 with⟨e,e'⟩|⟨l',f,e⟩|⟨b,e⟩
   ·have hl0:(ord.length:Int)=0:=by omega
    rw[hl0]at main;simp[pw,e];refine main _ ?_ ?_ ?_ ?_ ?_<;>simp[e]
   ·simp[pw,e];refine main _ ?_ ?_ ?_ ?_ ?_<;>simp[e]
   ·simp[pw,e];refine main _ ?_ ?_ ?_ ?_ ?_<;>simp[e]
end Ln
namespace Ln
open Go.Sx Go
variable{C:bP}{X:Kn}(S:Std C X)
include S
end Ln
namespace Ln
section
variable{σ:Type}
abbrev Cf(σ:Type):=Nat×σ
structure Sys(σ:Type) where
 n:Nat
 Gf:Nat→Nat→Bool
 take:Nat→σ→Option σ
 acc:Nat→Bool
def Sys.step(S:Sys σ)(c:Cf σ)(i:Nat):Option (Nat×Cf σ):=if S.Gf i c.1=true then(S.take i c.2).map fun s=>(i,(c.1+2^i,s))else none
def Sys.steps(S:Sys σ)(c:Cf σ):List (Nat×Cf σ):=(List.range S.n).filterMap (S.step c)
def Sys.Ok(S:Sys σ):Prop:=∀i d,S.Gf i d=true→d.testBit i=false
inductive Good(S:Sys σ):Cf σ→Prop
 |now {c:Cf σ} (h:S.acc c.1=true):Good S c
 |step {c c':Cf σ} {i:Nat} (h:(i,c')∈S.steps c) (g:Good S c'):Good S c
inductive Path(S:Sys σ):Cf σ→List Nat→Prop
 |now {c:Cf σ} (h:S.acc c.1=true):Path S c []
 |step {c c':Cf σ} {i:Nat} {p:List Nat} {a b:List (Nat×Cf σ)} (h:S.acc c.1=false) (e:S.steps c=a++(i,c') ::b) (no:∀x∈a,¬Good S x.2) (g:Path S c' p):Path S c (i ::p)
theorem Path.NO{S:Sys σ}{c:Cf σ}{p:List Nat}(h:Path S c p):Good S c:=by
 induction h with
 |now h=>exact .now h
 | @step c c' i p a b h e no g ih=>exact .step (i:=i) (by rw[e];simp) ih
theorem Path.uniq{S:Sys σ}{c:Cf σ}{p:List Nat}(h:Path S c p):∀{q:List Nat},Path S c q→p=q:=by
 induction h with
 |now h=>
  intro q hq;cases hq with
  |now _=>rfl
  |step h'=>rw[h]at h';cases h'
 | @step c c' i p a b h e no g ih=>
  intro q hq;cases hq with
  |now h'=>rw[h]at h';cases h'
  | @step _ c2 i2 p2 a2 b2 h' e' no' g'=>
   have key:∀(a a2:List (Nat×Cf σ)),a++(i,c') ::b=a2++(i2,c2) ::b2→(∀x∈a,¬Good S x.2)→(∀x∈a2,¬Good S x.2)→(i,c')=(i2,c2):=by
    intro a
    induction a with
    |nil=>
     intro a2 e3 n1 n2;cases a2 with
     |nil=>simp only[List.nil_append,List.cons.injEq]at e3;exact e3.1
     |cons y t=>simp only[List.nil_append,List.cons_append,List.cons.injEq]at e3;exact absurd g.NO (by have:=n2 y (by simp);rw[←e3.1]at this;exact this)
    |cons x t iht=>
     intro a2 e3 n1 n2;cases a2 with
     |nil=>simp only[List.nil_append,List.cons_append,List.cons.injEq]at e3;exact absurd g'.NO (by have:=n1 x (by simp);rw[e3.1]at this;exact this)
     |cons y s=>simp only[List.cons_append,List.cons.injEq]at e3;exact iht s e3.2 (fun x hx=>n1 x (by simp[hx])) (fun x hx=>n2 x (by simp[hx]))
   have:=key a a2 (e.symm.trans e') no no';cases this;rw[ih g']
theorem Il{S:Sys σ}{c c':Cf σ}{i:Nat}(h:(i,c')∈S.steps c):i<S.n∧S.Gf i c.1=true∧c'.1=c.1+2^i∧S.take i c.2=some c'.2:=by
 unfold Sys.steps at h;rw[List.mem_filterMap]at h;obtain⟨j,hj,e⟩:=h;unfold Sys.step at e;split at e
 ·rename_i ho;cases ht:S.take j c.2 with
  |none=>rw[ht]at e;cases e
  |some s=>rw[ht]at e;simp only[Option.map_some,Option.some.injEq,Prod.mk.injEq]at e;obtain⟨rfl,rfl⟩:=e;exact⟨List.mem_range.1 hj,ho,rfl,ht⟩
 ·cases e
theorem RI:∀(i d:Nat),d.testBit i=false→d ||| 2^i=d+2^i
 |0,d,h=>by
  have h1:(d ||| 2^0) / 2=d / 2:=by rw[Nat.or_div_two];simp
  have h2:(d ||| 2^0)%2=1:=by
   have:(d ||| 2^0)%2^1=d%2^1 ||| 2^0%2^1:=Nat.or_mod_two_pow;have hd:d%2=0:=by rw[Nat.testBit_zero]at h;simp at h;omega
   rw[show(2:Nat)^1=2 from rfl,hd]at this;exact this
  have hd:d%2=0:=by rw[Nat.testBit_zero]at h;simp at h;omega
  generalize d ||| 2^0=x at h1 h2 ⊢;rw[Nat.pow_zero];omega
 |i+1,d,h=>by
  have h1:(d ||| 2^(i+1)) / 2=d / 2 ||| 2^i:=by rw[Nat.or_div_two,Nat.pow_succ,Nat.mul_div_cancel _ (by omega)]
  have h2:(d ||| 2^(i+1))%2=d%2:=by
   have:(d ||| 2^(i+1))%2^1=d%2^1 ||| 2^(i+1)%2^1:=Nat.or_mod_two_pow;have e:2^(i+1)%2=0:=by rw[Nat.pow_succ];omega
   simpa[e]using this
  have:=RI i (d / 2) (by rw[←Nat.testBit_succ];exact h);rw[this]at h1;generalize d ||| 2^(i+1)=x at h1 h2 ⊢;rw[Nat.pow_succ];omega
theorem alI{d n i:Nat}(hd:d<2^n)(hi:i<n)(hb:d.testBit i=false):d+2^i<2^n∧d ||| 2^i=d+2^i:=by have e:=RI i d hb;refine⟨?_,e⟩;rw[←e];exact Nat.or_lt_two_pow hd (Nat.pow_lt_pow_right (by omega) hi)
theorem alJ{S:Sys σ}(hS:S.Ok){c c':Cf σ}{i:Nat}(h:(i,c')∈S.steps c)(hc:c.1<2^S.n):c'.1<2^S.n∧2^S.n-c'.1<2^S.n-c.1∧c.1<c'.1:=by obtain⟨h1,h2,h3,h4⟩:=Il h;have:=alI hc h1 (hS _ _ h2);have:0<2^i:=Nat.two_pow_pos i;omega
variable[DecidableEq σ]
def fu(l:List (Cf σ))(c:Cf σ):List (Cf σ):=if c∈l then l else l ++ [c]
def gB:List (Cf σ)→List (Cf σ)→Option (List (Cf σ))
 |l,[]=>some l
 |l,c ::r=>if (fu l c).length>1024 then none else gB (fu l c) r
def ZD(S:Sys σ):Nat→Nat→List (Cf σ)→Option (List (Cf σ))
 |0,_,l=>some l
 |f+1,i,l=>match l[i]? with
  |none=>some l
  |some c=>match gB l ((S.steps c).map (·.2))with
   |none=>none
   |some l'=>ZD S f (i+1) l'
theorem alK(l:List (Cf σ))(c:Cf σ):∃r,fu l c=l++r:=by
 unfold fu;split
 ·exact⟨[],by simp⟩
 ·exact⟨[c],rfl⟩
theorem alL(l:List (Cf σ))(c:Cf σ):c∈fu l c:=by unfold fu;split<;>simp_all
theorem KH{l:List (Cf σ)}(h:l.Nodup)(c:Cf σ):(fu l c).Nodup:=by
 unfold fu;split
 ·exact h
 ·rename_i hc;rw[List.nodup_append];refine⟨h,by simp,?_⟩;intro a ha b hb;simp at hb;rintro rfl;subst hb;exact hc ha
theorem aac{p:Cf σ→Prop}{l:List (Cf σ)}{c:Cf σ}(h:∀x∈l,p x)(hc:p c):∀x∈fu l c,p x:=by
 unfold fu;split
 ·exact h
 ·intro x hx;rcases List.mem_append.1 hx with hx|hx
  ·exact h x hx
  ·simp at hx;rw[hx];exact hc
theorem qd:∀{r l l':List (Cf σ)},gB l r=some l'→(∃t,l'=l++t)∧(∀c∈r,c∈l')∧(l.Nodup→l'.Nodup)∧(l.length≤1024→l'.length≤1024)∧(∀x∈l',x∈l∨x∈r)
 | [],l,l',h=>by unfold gB at h;cases h;exact⟨⟨[],by simp⟩,by simp,id,id,fun x hx=>.inl hx⟩
 |c ::r,l,l',h=>by
  unfold gB at h;split at h
  ·cases h
  ·rename_i hl;obtain⟨⟨t,e⟩,h2,h3,h4,h5⟩:=qd h;obtain⟨u,e2⟩:=alK l c;refine⟨⟨u++t,by rw[e,e2];simp⟩,?_,fun hn=>h3 (KH hn c),fun _=>h4 (by omega),?_⟩
   ·intro x hx;rcases List.mem_cons.1 hx with rfl|hx
    ·rw[e];exact List.mem_append_left _ (alL _ _)
    ·exact h2 x hx
   ·intro x hx;rcases h5 x hx with hx|hx
    ·unfold fu at hx;split at hx
     ·exact .inl hx
     ·rcases List.mem_append.1 hx with hx|hx
      ·exact .inl hx
      ·simp at hx;subst hx;exact .inr (by simp)
    ·exact .inr (by simp[hx])
def pop:Nat→Nat→Nat
 |0,_=>0
 |n+1,d=>pop n d+(if d.testBit n then 1 else 0)
theorem alM(d i:Nat)(hb:d.testBit i=false):∀n:Nat,pop n (d ||| 2^i)=pop n d+(if i<n then 1 else 0)
 |0=>by simp[pop]
 |n+1=>by
  unfold pop;rw[alM d i hb n,Nat.testBit_or,Nat.testBit_two_pow];by_cases h:i=n
  ·subst h;rw[hb];simp
  ·by_cases h2:i<n
   ·simp[h,h2,show i<n+1 by omega];omega
   ·simp[h,h2,show ¬i<n+1 by omega]
structure Kept(S:Sys σ)(i:Nat)(l:List (Cf σ)):Prop where
 nodup:l.Nodup
 len:l.length≤1024
 lt:∀c∈l,c.1<2^S.n
 mono:l.Pairwise fun a b=>pop S.n a.1≤pop S.n b.1
 aFB:∀c,l[i]?=some c→∀x∈l,pop S.n x.1≤pop S.n c.1+1
 done:∀(j:Nat) (c:Cf σ),j<i→l[j]?=some c→∀x∈S.steps c,x.2∈l
theorem aad{S:Sys σ}(hS:S.Ok){c c':Cf σ}{i:Nat}(h:(i,c')∈S.steps c)(hc:c.1<2^S.n):pop S.n c'.1=pop S.n c.1+1:=by obtain⟨h1,h2,h3,h4⟩:=Il h;have hb:=hS _ _ h2;rw[h3,←(alI hc h1 hb).2,alM _ _ hb,if_pos h1]
theorem aiU{S:Sys σ}{l:List (Cf σ)}{c:Cf σ}{k:Nat}(hk:pop S.n c.1=k+1)(hle:∀x∈l,pop S.n x.1≤k+1)(hm:l.Pairwise fun a b=>pop S.n a.1≤pop S.n b.1) :
  (fu l c).Pairwise (fun a b=>pop S.n a.1≤pop S.n b.1)∧∀x∈fu l c,pop S.n x.1≤k+1:=by
 refine⟨?_,aac hle (by omega)⟩;unfold fu;split
 ·exact hm
 ·rw[List.pairwise_append];refine⟨hm,by simp,?_⟩;intro a ha b hb;simp at hb;subst hb;have:=hle a ha;omega
theorem O4{S:Sys σ}{k:Nat}:∀{r l l':List (Cf σ)},gB l r=some l'→(∀c∈r,pop S.n c.1=k+1)→(∀x∈l,pop S.n x.1≤k+1)→(l.Pairwise fun a b=>pop S.n a.1≤pop S.n b.1)→
  (l'.Pairwise fun a b=>pop S.n a.1≤pop S.n b.1)∧∀x∈l',pop S.n x.1≤k+1
 | [],l,l',h,_,h2,h3=>by unfold gB at h;cases h;exact⟨h3,h2⟩
 |c ::r,l,l',h,h1,h2,h3=>by
  unfold gB at h;split at h
  ·cases h
  ·obtain⟨a,b⟩:=aiU (S:=S) (h1 c (by simp)) h2 h3;exact O4 h (fun c hc=>h1 c (by simp[hc])) b a
theorem Kept.next{S:Sys σ}(hS:S.Ok){i:Nat}{l l':List (Cf σ)}(h:Kept S i l){c:Cf σ}(hc:l[i]?=some c)(ha:gB l ((S.steps c).map (·.2))=some l'):Kept S (i+1) l':=by
 have Kw:c∈l:=List.mem_of_getElem? hc;have aAi:=h.lt c Kw;obtain⟨⟨t,e⟩,h2,h3,h4,h5⟩:=qd ha;obtain⟨m1,m2⟩:=O4 (S:=S) (k:=pop S.n c.1) ha (by intro x hx;rw[List.mem_map]at hx;obtain⟨⟨j,y⟩,hy,rfl⟩:=hx;exact aad hS hy aAi) (h.aFB c hc) h.mono
 refine⟨h3 h.nodup,h4 h.len,?_,m1,?_,?_⟩
 ·intro x hx;rcases h5 x hx with hx|hx
  ·exact h.lt x hx
  ·rw[List.mem_map]at hx;obtain⟨⟨j,y⟩,hy,rfl⟩:=hx;exact(alJ hS hy aAi).1
 ·intro c2 hc2 x hx;have hle:=m2 x hx;have:pop S.n c.1≤pop S.n c2.1:=by
   have hp:=List.pairwise_iff_getElem.1 m1;obtain⟨q1,q2⟩:=List.getElem?_eq_some_iff.1 hc2;have hi:i<l'.length:=by omega
   have hci:l'[i]=c:=by
    have RJ:i<l.length:=(List.getElem?_eq_some_iff.1 hc).1;have:l'[i]?=some c:=by rw[e,List.getElem?_append_left RJ];exact hc
    exact(List.getElem?_eq_some_iff.1 this).2
   have:=hp i (i+1) hi q1 (by omega);rw[hci,q2]at this;exact this
  omega
 ·intro j c2 hj hc2 x hx;by_cases L1:j=i
  ·subst L1;have:c2=c:=by have RJ:j<l.length:=(List.getElem?_eq_some_iff.1 hc).1;rw[e,List.getElem?_append_left RJ,hc]at hc2;exact(Option.some.inj hc2).symm
   subst this;exact h2 _ (List.mem_map.2 ⟨x,hx,rfl⟩)
  ·have da:j<l.length:=by have:=(List.getElem?_eq_some_iff.1 hc).1;omega
   rw[e,List.getElem?_append_left da]at hc2;have:=h.done j c2 (by omega) hc2 x hx;rw[e];exact List.mem_append_left _ this
theorem Kept.up{S:Sys σ}(hS:S.Ok){i:Nat}{l:List (Cf σ)}(h:Kept S i l){j k:Nat}{c c':Cf σ}(hc:l[j]?=some c)(hk:l[k]?=some c'){q:Nat}(hs:(q,c')∈S.steps c):j<k:=by
 rcases Nat.lt_or_ge j k with hjk|hjk
 ·exact hjk
 ·exfalso;have hp:=aad hS hs (h.lt c (List.mem_of_getElem? hc));obtain⟨a1,a2⟩:=List.getElem?_eq_some_iff.1 hc;obtain⟨b1,b2⟩:=List.getElem?_eq_some_iff.1 hk;rcases Nat.lt_or_ge k j with cQ|P9
  ·have:=List.pairwise_iff_getElem.1 h.mono k j b1 a1 cQ;rw[a2,b2]at this;omega
  ·have:j=k:=by omega
   subst this;rw[hc]at hk;cases hk;omega
end
section
variable{σ:Type}[DecidableEq σ]
open Classical in
noncomputable def qT(S:Sys σ)(c:Cf σ):Bool:=decide (Good S c)
theorem Iz{S:Sys σ}{c:Cf σ}:qT S c=true↔Good S c:=by unfold qT;exact @decide_eq_true_iff _ (Classical.propDecidable _)
theorem WK{S:Sys σ}{c:Cf σ}:qT S c=false↔¬Good S c:=by rw[←Iz];cases qT S c<;>simp
theorem acV{S:Sys σ}(c:Cf σ):qT S c=(S.acc c.1||(S.steps c).any fun x=>qT S x.2):=by
 rw[Bool.eq_iff_iff,Iz,Bool.or_eq_true,List.any_eq_true];constructor
 ·intro h;cases h with
  |now h=>exact .inl h
  | @step c c' i h g=>exact .inr ⟨(i,c'),h,Iz.2 g⟩
 ·rintro(h|⟨⟨i,c'⟩,hx,g⟩)
  ·exact .now h
  ·exact .step hx (Iz.1 g)
def rowOf(S:Sys σ)(l:List (Cf σ))(c:Cf σ):List (Nat×Nat):=(S.steps c).map fun x=>(x.1,l.idxOf x.2)
theorem ahl{l t:List (Cf σ)}{c:Cf σ}(h:c∈l):(l++t).idxOf c=l.idxOf c:=by rw[List.idxOf_append,if_pos h]
theorem akF{S:Sys σ}{l t:List (Cf σ)}{c:Cf σ}(h:∀x∈S.steps c,x.2∈l):rowOf S (l++t) c=rowOf S l c:=by unfold rowOf;apply List.map_congr_left;intro x hx;rw[ahl (h x hx)]
theorem Ix{l:List (Cf σ)}{c:Cf σ}(h:c∈l):l[l.idxOf c]?=some c:=by have:=List.idxOf_lt_length_of_mem h;rw[List.getElem?_eq_getElem this,List.getElem_idxOf]
theorem axS{l:List (Cf σ)}(hn:l.Nodup){c:Cf σ}{j:Nat}(h:l[j]?=some c):l.idxOf c=j:=by have h1:=Ix (List.mem_of_getElem? h);have a1:=(List.getElem?_eq_some_iff.1 h1);have a2:=(List.getElem?_eq_some_iff.1 h);obtain⟨p1,p2⟩:=a1;obtain⟨q1,q2⟩:=a2;exact(List.getElem_inj hn).1 (p2.trans q2.symm)
structure Whole(S:Sys σ)(l:List (Cf σ))(c0:Cf σ):Prop where
 kept:Kept S l.length l
 first:l[0]?=some c0
theorem Whole.closed{S:Sys σ}{l:List (Cf σ)}{c0:Cf σ}(h:Whole S l c0){c:Cf σ}(hc:c∈l):∀x∈S.steps c,x.2∈l:=by obtain⟨j,hj,e⟩:=List.getElem_of_mem hc;exact h.kept.done j c hj (by rw[List.getElem?_eq_getElem hj,e])
theorem Kept.start{S:Sys σ}{s:σ}(SV:1≤1024):Kept S 0 [(0,s)]:=by
 refine⟨by simp,by simp,?_,by simp,?_,?_⟩
 ·intro c hc;simp at hc;subst hc;exact Nat.two_pow_pos _
 ·intro c hc x hx;simp at hc hx;subst hc;subst hx;omega
 ·intro j c hj;omega
theorem aps{S:Sys σ}{f i:Nat}{l:List (Cf σ)}{c:Cf σ}(h:l[i]?=some c):ZD S (f+1) i l=match gB l ((S.steps c).map (·.2))with|none=>none|some l'=>ZD S f (i+1) l':=by show(match l[i]? with|none=>some l|some c=>_)=_;simp only[h]<;>rfl
theorem as5{S:Sys σ}{f i:Nat}{l:List (Cf σ)}(h:l.length≤i):ZD S f i l=some l:=by
 cases f with
 |zero=>rfl
 |succ f=>show(match l[i]? with|none=>some l|some c=>_)=_;rw[List.getElem?_eq_none h]
theorem Path.more{S:Sys σ}{c c':Cf σ}{i:Nat}{p:List Nat}{a b:List (Nat×Cf σ)}(h:S.acc c.1=false)(e:S.steps c=a++(i,c') ::b)(no:∀x∈a,¬Good S x.2)(g:Path S c' p):Path S c (i ::p):=.step h e no g
def Sys.j6(S:Sys σ)(c:Cf σ)(k:Nat):List (Nat×Cf σ):=(List.range k).filterMap (S.step c)
theorem j7(S:Sys σ)(c:Cf σ)(k:Nat):S.j6 c (k+1)=S.j6 c k++(S.step c k).toList:=by unfold Sys.j6;rw[List.range_succ,List.filterMap_append];cases h:S.step c k<;>simp[h]
theorem WB(S:Sys σ)(c:Cf σ):S.j6 c S.n=S.steps c:=rfl
theorem Ha(S:Sys σ)(c:Cf σ){k m:Nat}(h:k≤m):∃t,S.j6 c m=S.j6 c k++t:=by
 induction m with
 |zero=>exact⟨[],by obtain rfl:k=0:=Nat.le_zero.1 h;simp⟩
 |succ m ih=>
  rcases Nat.lt_or_ge k (m+1)with h1|h1
  ·obtain⟨t,e⟩:=ih (by omega);exact⟨t++(S.step c m).toList,by rw[j7,e,List.append_assoc]⟩
  ·have:k=m+1:=by omega
   subst this;exact⟨[],by simp⟩
theorem agz(S:Sys σ)(c:Cf σ){k:Nat}(h:k<S.n){x:Nat×Cf σ}(e:S.step c k=some x):∃b,S.steps c=S.j6 c k++x ::b:=by obtain⟨t,e2⟩:=Ha S c (k:=k+1) (m:=S.n) (by omega);refine⟨t,?_⟩;rw[←WB,e2,j7,e];simp
end
end Ln
namespace Ln
open Go.Sx Go
def Cw(os:List Op)(k d:Nat):Bool:=!d.testBit k&&(List.range os.length).all fun q=>q==k || !(before (os.getD q default) (os.getD k default)&&decide (0≤(os.getD q default).e) && !d.testBit q) && !(d.testBit q&&before (os.getD k default) (os.getD q default))
def FP(os:List Op)(d:Nat):Bool:=(List.range os.length).all fun q=>!decide (0≤(os.getD q default).e)||d.testBit q
def aY(X:Kn)(i:Nat)(os:List Op):Sys St:=⟨os.length,Cw os,fun k s=>X.take (cm i (os.getD k default)) (os.getD k default) s,FP os⟩
theorem Ra(X:Kn)(i:Nat)(os:List Op):(aY X i os).Ok:=by intro k d h;have h:Cw os k d=true:=h;unfold Cw at h;rw[jq]at h;simpa using h.1
theorem vq{os:List Op}{k:Nat}(h:k<os.length):os.getD k default=os[k]:=by rw[List.getD_eq_getElem?_getD,pY h];rfl
variable{C:bP}{X:Kn}(S:Std C X)
include S
end Ln
namespace Ln
open Go.Sx Go
theorem ass{n:Nat}{p:Nat→Bool}{q:Nat}(hq:q<n)(h:p q=false):(List.range n).all p=false:=by rw[List.all_eq_false];exact⟨q,List.mem_range.2 hq,by simp[h]⟩
theorem aoI{n:Nat}{p:Nat→Bool}(h:∀q,q<n→p q=true):(List.range n).all p=true:=sF.2 fun q hq=>h q (List.mem_range.1 hq)
theorem ast{j:Nat}{p:Nat→Prop}(h:∀q,q<j→p q)(hj:p j):∀q,q<j+1→p q:=fun q hq=>by
 by_cases e:q=j
 ·subst e;exact hj
 ·exact h q (by omega)
variable{C:bP}{X:Kn}(S:Std C X)
def axO(os:List Op)(k d q:Nat):Bool:=q==k || !(before (os.getD q default) (os.getD k default)&&decide (0≤(os.getD q default).e) && !d.testBit q) && !(d.testBit q&&before (os.getD k default) (os.getD q default))
include S
end Ln
namespace Ln
open Go.Sx Go
def eC(c:Cf St):List AV:=[I c.1,I c.2.k,I c.2.n,.str 0 0,aV c.2.kids]
theorem xU:Flat 5 eC where
 len _:=rfl
 wU x y hy:=by
  simp[eC]at hy;rcases hy with rfl|rfl|rfl|rfl|rfl
  ·exact c5 _ _
  ·exact c5 _ _
  ·exact c5 _ _
  ·exact jj _ _
  ·exact gx _
 cell x y hy:=by simp[eC]at hy;rcases hy with rfl|rfl|rfl|rfl|rfl<;>first|rfl|exact(du _).1
 lits x:=by simp[eC,AV.dU,AV.lits,Cv,I]
theorem S7(z:Cf St)(H:T ah):bA (aS 9998) (eC z) H=(eC z,H):=bF (xU.wU _)
theorem ael(z:Cf St):List.take 5 (eC z)=eC z:=rfl
theorem ED(z:Cf St):(eC z).length=5:=rfl
theorem Te(z:Cf St):(eC z).all AV.aM=true:=sF.2 (xU.cell z)
variable{C:bP}{X:Kn}(S:Std C X)
include S
end Ln
namespace Ln
open Go.Sx Go
def ZG(s:St):Bool:=decide ((s.k=0∧s.kids=[]∨s.k=1∧(s.n=0∨s.n=1)∧s.kids=[])∨s.k=2∧s.n=0∧s.kids.all sH=true)
noncomputable def x4(l:List (Cf St)):List (Cf St):=l.mergeSort (fun a b=>decide (a.1<b.1∨a.1=b.1∧qz a.2 b.2≤0))
structure O0(C:bP):Prop where
 Jm:Fn C od Hb
 EB:Fn C ku BU
 v7:Fn C bH pG
 wa:Fn C fW pH
 tu:Fn C dF nS
 wc:Fn C dW pI
 ya:Fn C dx rJ
 zd:Fn C fG mJ
 AR:Fn C cZ wS
 ze:Fn C gY tV
 zw:Fn C fH mK
 MF:Fn C qS KR
 Tl:Fn C zM Tm
 Jp:Fn C iZ Hp
 mM:Fn C dw zG
 Tn:Fn C gp Tp
 aaC:∀s:St,s.kids.length≤3→∀h nx,C.sum cP [.agg (eS s)] h nx=some (I (if ZG s=true then 0 else 1),h,nx)
 amo:∀(l:List (Cf St)) (b:Key) (h:T ah) (nx:Key),(∀y∈l,y.2.kids.length≤3)→l.Nodup→l.length≤1024→ag b h=QZ (aq eC l)→C.sum ch [.slice b 0 l.length 5,.fn fJ [] []] h nx=some (.tuple [],aw b (QZ (aq eC (x4 l))) h,nx)
def zzV:AV:=.str 2 31354
end Ln
namespace Ln
open Go.Sx Go Go.Proofs
def TW(b:Nat)(t:DT):DT:=.ask .eql (.var b) (.lit 0) t (.ask .eql (.var b) (.lit 1) (.ask .eql (.var (b+1)) (.lit 0) t (.ask .eql (.var (b+1)) (.lit 1) t (.leaf (I 1)))) (.ask .eql (.var b) (.lit 2) (.ask .eql (.var (b+1)) (.lit 0) t (.leaf (I 1))) (.leaf (I 1))))
def aCl:Nat→Nat→DT→DT
 |0,_,t=>t
 |n+1,b,t=>TW b (aCl n (b+2) t)
def aCm:Nat→DT
 |0=>TW 0 (.leaf (I 0))
 |n+1=>.ask .eql (.var 0) (.lit 2) (.ask .eql (.var 1) (.lit 0) (aCl (n+1) 2 (.leaf (I 0))) (.leaf (I 1))) (.leaf (I 1))
theorem En{ρ:Nat→Int}{b:Nat}{t:DT}{u:U}(h0:ρ b=u.k)(h1:ρ (b+1)=u.n):(TW b t).val ρ=if sH u=true then t.val ρ else I 1:=by
 obtain⟨k,n⟩:=u;have d0:(SI.var b).den ρ=k:=h0;have d1:(SI.var (b+1)).den ρ=n:=h1;have dl:∀z:Int,(SI.lit z).den ρ=z:=fun _=>rfl;unfold TW;simp only[DT.val,C5,d0,d1,dl];by_cases h0:k=0
 ·simp[h0,sH]
 ·by_cases h1:k=1
  ·by_cases n0:n=0
   ·simp[h1,n0,sH]
   ·by_cases n1:n=1
    ·simp[h1,n1,sH]
    ·simp[h1,n0,n1,sH];rfl
  ·by_cases h2:k=2
   ·by_cases n0:n=0
    ·simp[h2,n0,sH]
    ·simp[h2,n0,sH];rfl
   ·simp[h0,h1,h2,sH];rfl
theorem asu(ρ:Nat→Int):(DT.leaf (I 0)).val ρ=I 0:=rfl
theorem aoJ{s:St}(hs:s.kids.length≤3):(aCm s.kids.length).val (yA s s)=I (if ZG s=true then 0 else 1):=by
 obtain⟨k,n,l⟩:=s;have dl:∀(ρ:Nat→Int) (z:Int),(SI.lit z).den ρ=z:=fun _ _=>rfl
 match l,hs with
 | [],_=>
  show(TW 0 (.leaf (I 0))).val _=_;rw[En (u:=⟨k,n⟩) rfl rfl,asu];by_cases h:sH ⟨k,n⟩=true
  ·have h2:=h;unfold sH at h;rw[decide_eq_true_eq]at h;have:ZG ⟨k,n,[]⟩=true:=by
    unfold ZG;rw[decide_eq_true_eq];rcases h with h|h|h
    ·exact .inl (.inl ⟨h,rfl⟩)
    ·exact .inl (.inr ⟨h.1,h.2,rfl⟩)
    ·exact .inr ⟨h.1,h.2,rfl⟩
   rw[if_pos h2,if_pos this]
  ·have:¬ZG ⟨k,n,[]⟩=true:=by
    intro q;apply h;unfold ZG at q;unfold sH;rw[decide_eq_true_eq]at q ⊢;rcases q with(q|q)|q
    ·exact .inl q.1
    ·exact .inr (.inl ⟨q.1,q.2.1⟩)
    ·exact .inr (.inr ⟨q.1,q.2.1⟩)
   rw[if_neg h,if_neg this]
 | [⟨a,b⟩],_=>
  have d0:(SI.var 0).den (yA ⟨k,n,[⟨a,b⟩]⟩ ⟨k,n,[⟨a,b⟩]⟩)=k:=rfl;have d1:(SI.var 1).den (yA ⟨k,n,[⟨a,b⟩]⟩ ⟨k,n,[⟨a,b⟩]⟩)=n:=rfl;show(DT.ask .eql (.var 0) (.lit 2) (.ask .eql (.var 1) (.lit 0) (TW 2 (.leaf (I 0))) (.leaf (I 1))) (.leaf (I 1))).val _=_;simp only[DT.val,C5,d0,d1,dl];rw[En (b:=2) (u:=⟨a,b⟩) rfl rfl];unfold ZG;by_cases h2:k=2
  ·by_cases n0:n=0
   ·by_cases q0:sH ⟨a,b⟩=true
    ·simp[h2,n0,q0,DT.val]<;>rfl
    ·simp[h2,n0,q0]<;>rfl
   ·simp[h2,n0]<;>rfl
  ·simp[h2]<;>rfl
 | [⟨a,b⟩,⟨c,d⟩],_=>
  have d0:(SI.var 0).den (yA ⟨k,n,[⟨a,b⟩,⟨c,d⟩]⟩ ⟨k,n,[⟨a,b⟩,⟨c,d⟩]⟩)=k:=rfl;have d1:(SI.var 1).den (yA ⟨k,n,[⟨a,b⟩,⟨c,d⟩]⟩ ⟨k,n,[⟨a,b⟩,⟨c,d⟩]⟩)=n:=rfl;show(DT.ask .eql (.var 0) (.lit 2) (.ask .eql (.var 1) (.lit 0) (TW 2 (TW 4 (.leaf (I 0)))) (.leaf (I 1))) (.leaf (I 1))).val _=_;simp only[DT.val,C5,d0,d1,dl];rw[En (b:=2) (u:=⟨a,b⟩) rfl rfl,En (b:=4) (u:=⟨c,d⟩) rfl rfl];unfold ZG;by_cases h2:k=2
  ·by_cases n0:n=0
   ·by_cases q0:sH ⟨a,b⟩=true
    ·by_cases q1:sH ⟨c,d⟩=true
     ·simp[h2,n0,q0,q1,DT.val]<;>rfl
     ·simp[h2,n0,q0,q1]<;>rfl
    ·simp[h2,n0,q0]<;>rfl
   ·simp[h2,n0]<;>rfl
  ·simp[h2]<;>rfl
 | [⟨a,b⟩,⟨c,d⟩,⟨e,f⟩],_=>
  have d0:(SI.var 0).den (yA ⟨k,n,[⟨a,b⟩,⟨c,d⟩,⟨e,f⟩]⟩ ⟨k,n,[⟨a,b⟩,⟨c,d⟩,⟨e,f⟩]⟩)=k:=rfl;have d1:(SI.var 1).den (yA ⟨k,n,[⟨a,b⟩,⟨c,d⟩,⟨e,f⟩]⟩ ⟨k,n,[⟨a,b⟩,⟨c,d⟩,⟨e,f⟩]⟩)=n:=rfl;show(DT.ask .eql (.var 0) (.lit 2) (.ask .eql (.var 1) (.lit 0) (TW 2 (TW 4 (TW 6 (.leaf (I 0))))) (.leaf (I 1))) (.leaf (I 1))).val _=_;simp only[DT.val,C5,d0,d1,dl];rw[En (b:=2) (u:=⟨a,b⟩) rfl rfl,En (b:=4) (u:=⟨c,d⟩) rfl rfl,En (b:=6) (u:=⟨e,f⟩) rfl rfl];unfold ZG;by_cases h2:k=2
  ·by_cases n0:n=0
   ·by_cases q0:sH ⟨a,b⟩=true
    ·by_cases q1:sH ⟨c,d⟩=true
     ·by_cases q2:sH ⟨e,f⟩=true
      ·simp[h2,n0,q0,q1,q2,DT.val]<;>rfl
      ·simp[h2,n0,q0,q1,q2]<;>rfl
     ·simp[h2,n0,q0,q1]<;>rfl
    ·simp[h2,n0,q0]<;>rfl
   ·simp[h2,n0]<;>rfl
  ·simp[h2]<;>rfl
 |_ ::_ ::_ ::_ ::l,h=>exact absurd h (by simp)
def aio:Nat→aL
 |0=>aip
 |1=>aiq
 |2=>air
 |_=>ais
theorem asv{n:Nat}(h:S4 n):aL.cu (CF aQ) 159 (aio n) ⟨ai 159 (fx 159) [stS 0 n],[],.nil,bC⟩ [] []=true:=by
 cases h
 ·exact akm
 ·exact akn
 ·exact ako
 ·exact akp
theorem asw{n:Nat}(h:S4 n):DT.same (aio n).dt (aCm n) []=true:=by cases h<;>kernel_rfl
def Iw:Im:=⟨159,QK,fun q=>[.agg (eS q.s)],fun q=>I (if ZG q.s=true then 0 else 1),by intro q p h;simp only[List.cons.injEq,and_true]at h;rw[NT h]⟩
theorem YL:js Tryz.prog .nil Iw:=by
 refine⟨⟨_,iJ (n:=159) (by decide)⟩,fun q=>?_⟩;have h1:=PL q.hs;have h:=eJ (f:=159) (by decide) (auL h1) (asv h1) (yA q.s q.s);rw[DT.uX (ρ:=yA q.s q.s) (asw h1) trivial,aoJ q.hs]at h;have e:AV.gX (yA q.s q.s) [stS 0 q.s.kids.length]=[.agg (eS q.s)]:=by show [_]=_;rw[sub_one q.hs]
 rw[e]at h;exact h
theorem aCd(u:U):ZG ⟨u.k,u.n,[]⟩=sH u:=by
 rw[Bool.eq_iff_iff];unfold ZG sH;rw[decide_eq_true_eq,decide_eq_true_eq];constructor
 ·rintro((q|q)|q)
  ·exact .inl q.1
  ·exact .inr (.inl ⟨q.1,q.2.1⟩)
  ·exact .inr (.inr ⟨q.1,q.2.1⟩)
 ·rintro(h|h|h)
  ·exact .inl (.inl ⟨h,rfl⟩)
  ·exact .inl (.inr ⟨h.1,h.2,rfl⟩)
  ·exact .inr ⟨h.1,h.2,rfl⟩
structure QJ where
 i:Nat
 lt:i<4
def nmZ:Nat→AV
 |3=>zzV
 |i=>fT i
def aCo:Nat→AV
 |3=>.tuple [.agg avk,.bool false]
 |i=>.tuple [.agg (KC i),.bool true]
theorem ait:∀{i j:Nat},i<4→j<4→nmZ i=nmZ j→i=j:=by
 intro i j hi hj h;have Vr:i=0∨i=1∨i=2∨i=3:=by omega
 have hj':j=0∨j=1∨j=2∨j=3:=by omega
 rcases Vr with rfl|rfl|rfl|rfl<;>rcases hj' with rfl|rfl|rfl|rfl<;>first|rfl|(exfalso;simp[nmZ,zzV,fT,NU]at h)
def HS:Im:=⟨129,QJ,fun q=>[vM,I 4,nmZ q.i],fun q=>aCo q.i,by intro q p h;simp only[List.cons.injEq,true_and,and_true]at h;rw[ait q.lt p.lt h]⟩
theorem TP:js Tryz.prog .nil HS:=by
 refine⟨⟨_,iJ (n:=129) (by decide)⟩,fun q=>?_⟩;obtain⟨i,hi⟩:=q;have h:=Rx
 match i,hi with
 |0,_=>exact h.1
 |1,_=>exact h.2.1
 |2,_=>exact h.2.2.1
 |3,_=>exact h.2.2.2.1
def La:Im:=⟨71,QJ,fun q=>[vM,I 4,nmZ q.i],fun q=>aCo q.i,by intro q p h;simp only[List.cons.injEq,true_and,and_true]at h;rw[ait q.lt p.lt h]⟩
theorem VA:js Tryz.prog .nil La:=by
 refine⟨⟨_,iJ (n:=71) (by decide)⟩,fun q=>?_⟩;obtain⟨i,hi⟩:=q;have h:=ag3
 match i,hi with
 |0,_=>exact h.1
 |1,_=>exact h.2.1
 |2,_=>exact h.2.2.1
 |3,_=>exact h.2.2.2.1
end Ln
namespace Ln
open Go.Sx Go
structure Sq where
 c:cd
 a:List U
 r:U
deriving Inhabited
def opQ(j:Nat)(q:Sq):Op:=⟨((j%4:Nat):Int),2*j,((2*j+1:Nat):Int),-1,q.c.name,q.a,q.r⟩
def BR:Nat→List Sq→List Op
 |_,[]=>[]
 |j,q ::l=>opQ j q ::BR (j+1) l
theorem L3:∀(l:List Sq) (j:Nat),(BR j l).length=l.length
 | [],_=>rfl
 |q ::l,j=>by show(BR (j+1) l).length+1=_;rw[L3 l];rfl
theorem aae:∀(l:List Sq) (j k:Nat),(BR j l)[k]?=(l[k]?).map (opQ (j+k))
 | [],_,_=>by simp[BR]
 |q ::l,j,0=>rfl
 |q ::l,j,k+1=>by show(BR (j+1) l)[k]?=(l[k]?).map _;rw[aae l,show j+1+k=j+(k+1) by omega]
theorem adX{l:List Sq}{k:Nat}(h:k<l.length):(BR 0 l).getD k default=opQ k l[k]:=by rw[List.getD_eq_getElem?_getD,aae,pY h,Nat.zero_add];rfl
theorem alN(c:cd):c.name≠(0,0)∧c.name.1≤16:=by cases c<;>simp[cd.name]
theorem RB(c:cd):y9 c.fm c.name=some c:=by cases c<;>rfl
theorem L4(j k:Nat)(p q:Sq):before (opQ j p) (opQ k q)=decide (j<k):=by unfold before;rw[decide_eq_decide];simp only[opQ];omega
theorem bits(j q:Nat):(2^j-1).testBit q=decide (q<j):=Nat.testBit_two_pow_sub_one ..
theorem att{l:List Sq}{j k:Nat}(hj:j≤l.length)(hk:k<l.length):Cw (BR 0 l) k (2^j-1)=decide (k=j):=by
 unfold Cw;rw[bits,L3,adX hk];rw[Bool.eq_iff_iff,jq,Bool.not_eq_true',decide_eq_false_iff_not,sF,decide_eq_true_eq];constructor
 ·rintro⟨h1,h2⟩;rcases KA j k with hjk|hjk
  ·have da:j<l.length:=by omega
   have:=h2 j (List.mem_range.2 da);rw[adX da,L4,L4,bits]at this;have e:(j==k)=false:=by simp;omega
   rw[e]at this;have h0:(0:Int)≤(opQ j l[j]).e:=by show(0:Int)≤((2*j+1:Nat):Int);omega
   simp[h0,hjk]at this
  ·omega
 ·rintro rfl;refine⟨by omega,fun q hq=>?_⟩;have hq:=List.mem_range.1 hq;rw[adX hq,L4,L4,bits];by_cases h:q=k
  ·subst h;simp
  ·have e:(q==k)=false:=by simpa using h
   rw[e];by_cases h2:q<k
   ·have:¬k<q:=by omega
    simp[h2,this]
   ·simp[h2]
theorem aaf{α:Type}(f:Nat→Option α)(j:Nat):∀n,(∀k,k<n→k≠j→f k=none)→(List.range n).filterMap f=if j<n then(f j).toList else []
 |0,_=>by simp
 |n+1,h=>by
  rw[List.range_succ,List.filterMap_append,aaf f j n fun k hk=>h k (by omega)];by_cases e:n=j
  ·subst e;rw[if_neg (by omega),if_pos (by omega)];cases hf:f n<;>simp[hf]
  ·have:=h n (by omega) e;simp only[List.filterMap_cons,this,List.filterMap_nil,List.append_nil];by_cases h2:j<n
   ·rw[if_pos h2,if_pos (by omega)]
   ·rw[if_neg h2,if_neg (by omega)]
theorem alO(j:Nat):2^j-1+2^j=2^(j+1)-1:=by have:=Nat.two_pow_pos j;rw[Nat.pow_succ];omega
variable{X:Kn}{i:Nat}
theorem aqx{l:List Sq}{j:Nat}(hj:j≤l.length)(s:St):(aY X i (BR 0 l)).steps (2^j-1,s)=if j<l.length then(((aY X i (BR 0 l)).take j s).map fun t=>(j,(2^(j+1)-1,t))).toList else []:=by
 unfold Sys.steps;rw[aaf _ j]
 ·show(if j<(BR 0 l).length then _ else _)=_;rw[L3];by_cases h:j<l.length
  ·rw[if_pos h,if_pos h];unfold Sys.step;have:(aY X i (BR 0 l)).Gf j (2^j-1)=true:=by show Cw (BR 0 l) j (2^j-1)=true;rw[att hj h];simp
   rw[if_pos this];simp only[alO]
  ·rw[if_neg h,if_neg h]
 ·intro k hk bW;have hk:k<(BR 0 l).length:=hk;rw[L3]at hk;unfold Sys.step;have:(aY X i (BR 0 l)).Gf k (2^j-1)=false:=by show Cw (BR 0 l) k (2^j-1)=false;rw[att hj hk];simpa using bW
  rw[this];rfl
structure Chn(X:Kn)(i:Nat)(l:List Sq)(st:Nat→St)(m:Nat):Prop where
 le:m≤l.length
 go:∀j,j<m→(aY X i (BR 0 l)).take j (st j)=some (st (j+1))
 ends:m=l.length∨(aY X i (BR 0 l)).take m (st m)=none
theorem Chn.steps{l:List Sq}{st:Nat→St}{m:Nat}(H:Chn X i l st m){j:Nat}(hj:j≤m):(aY X i (BR 0 l)).steps (2^j-1,st j)=if j<m then [(j,(2^(j+1)-1,st (j+1)))]else []:=by
 have:=H.le;rw[aqx (by omega)];by_cases h:j<m
 ·rw[if_pos h,if_pos (by omega),H.go j h];rfl
 ·rw[if_neg h];have:j=m:=by omega
  subst this;rcases H.ends with e|e
  ·rw[if_neg (by omega)]
  ·rw[e];split<;>rfl
def cfS(st:Nat→St)(m:Nat):List (Cf St):=(List.range (m+1)).map fun j=>(2^j-1,st j)
theorem Chn.closed{l:List Sq}{st:Nat→St}{m:Nat}(H:Chn X i l st m):∀c∈cfS st m,∀x∈(aY X i (BR 0 l)).steps c,x.2∈cfS st m:=by
 intro c hc x hx;obtain⟨j,hj,rfl⟩:=NI.1 hc;have hj:=List.mem_range.1 hj;rw[H.steps (by omega)]at hx;split at hx
 ·simp only[List.mem_singleton]at hx;subst hx;exact NI.2 ⟨j+1,List.mem_range.2 (by omega),rfl⟩
 ·simp at hx
section
variable{σ:Type}
theorem Q6[DecidableEq σ]:∀{l m:List σ},l.Nodup→(∀x∈l,x∈m)→l.length≤m.length
 | [],_,_,_=>Nat.zero_le _
 |a ::l,m,hn,h=>by
  rw[List.nodup_cons]at hn;have ha:=h a (by simp);have:=Q6 (l:=l) (m:=m.erase a) hn.2 fun x hx=>by
   have:x≠a:=by rintro rfl;exact hn.1 hx
   exact(List.mem_erase_of_ne this).2 (h x (by simp[hx]))
  rw[List.length_erase_of_mem ha]at this;have:=List.length_pos_of_mem ha;rw[ZW];omega
variable[DecidableEq σ]
theorem Wo{A:List (Cf σ)}(hA:A.length≤1024):∀{r l:List (Cf σ)},l.Nodup→(∀c∈l,c∈A)→(∀c∈r,c∈A)→∃l',gB l r=some l'
 | [],l,_,_,_=>⟨l,rfl⟩
 |c ::r,l,hn,hl,hr=>by have h1:=KH hn c;have h2:∀x∈fu l c,x∈A:=aac hl (hr c (by simp));have h3:=Q6 h1 h2;show ∃l',(if (fu l c).length>1024 then none else gB (fu l c) r)=some l';rw[if_neg (by omega)];exact Wo hA h1 h2 (fun x hx=>hr x (by simp[hx]))
theorem alP{S:Sys σ}{A:List (Cf σ)}(hA:A.length≤1024)(hc:∀c∈A,∀x∈S.steps c,x.2∈A):∀(f k:Nat) (l:List (Cf σ)),l.Nodup→(∀c∈l,c∈A)→∃L,ZD S f k l=some L∧∃t,L=l++t
 |0,_,l,_,_=>⟨l,rfl,[],by simp⟩
 |f+1,k,l,hn,hl=>by
  unfold ZD;cases hk:l[k]? with
  |none=>exact⟨l,rfl,[],by simp⟩
  |some c=>
   have hs:∀y∈(S.steps c).map (·.2),y∈A:=by intro y hy;obtain⟨x,hx,rfl⟩:=NI.1 hy;exact hc c (hl c (List.mem_of_getElem? hk)) x hx
   obtain⟨l',RK⟩:=Wo hA hn hl hs;simp only[RK];obtain⟨⟨t,e⟩,_,h3,_,h5⟩:=qd RK;obtain⟨L,h6,u,e2⟩:=alP hA hc f (k+1) l' (h3 hn) fun x hx=>by
    rcases h5 x hx with h|h
    ·exact hl x h
    ·exact hs x h
   exact⟨L,h6,t++u,by rw[e2,e,List.append_assoc]⟩
end
theorem Chn.ZD{l:List Sq}{st:Nat→St}{m:Nat}(H:Chn X i l st m)(hl:l.length≤16):∃L,ZD (aY X i (BR 0 l)) 1025 0 [(0,st 0)]=some L∧0<L.length:=by
 have:=H.le;obtain⟨L,h,t,e⟩:=alP (A:=cfS st m) (by unfold cfS;rw[List.length_map,List.length_range];omega) H.closed 1025 0 [(0,st 0)] (by simp) (by intro c hc;simp only[List.mem_singleton]at hc;subst hc;exact NI.2 ⟨0,List.mem_range.2 (by omega),rfl⟩)
 exact⟨L,h,by rw[e];simp⟩
end Ln
namespace Ln
open Go.Sx Go
abbrev w64(n:Int):Int:=bD .i64 n
def BM:U:=⟨0,0⟩
def Ck:cd→St→Bool
 |.put,s=>decide (s.kids.length<3)
 |.get,s=>decide (0<s.kids.length)
 |.inc,s=>decide (s.n<99)
 |_,_=>true
def pz:cd→St→List U→U
 |.get,s,_=>s.kids.headD BM
 |.inc,s,_=>⟨0,w64 (s.n+1)⟩
 |.readC,s,_=>⟨0,s.n⟩
 |.readR,s,_=>⟨0,s.n⟩
 |.add,s,a=>⟨0,w64 (s.n+(a.headD BM).n)⟩
 |_,_,_=>BM
def wP:cd→St→List U→St
 |.put,s,a=>⟨2,0,s.kids++a⟩
 |.get,s,_=>⟨2,0,s.kids.tail⟩
 |.inc,s,_=>⟨0,w64 (s.n+1),[]⟩
 |.add,s,a=>⟨0,w64 (s.n+(a.headD BM).n),[]⟩
 |.write,_,a=>⟨0,(a.headD BM).n,[]⟩
 |_,s,_=>s
def AD(i:Nat)(s:St):Prop:=if i=0 then s.k=2∧s.n=0∧s.kids.length≤3∧∀u∈s.kids,u.k=0 else s.k=0∧s.kids=[]
def LJ(c:cd)(a:List U):Prop:=a.length=c.ar∧∀u∈a,u.k=0
theorem AD.st{i:Nat}{s:St}(h:AD i s):jL i s:=by
 unfold AD at h;unfold jL AX;split at h
 ·subst ‹i=0›;exact h.2.2.1
 ·rw[h.2];exact Nat.zero_le _
theorem AD.init(i:Nat):AD i (bJ i):=by
 unfold AD bJ;split
 ·rename_i h;subst h;simp
 ·split
  ·exact absurd rfl ‹_›
  ·simp
theorem LJ.one{c:cd}{a:List U}(h:LJ c a)(hc:c.ar=1):∃n,a=[⟨0,n⟩]:=by
 obtain⟨h1,h2⟩:=h;rw[hc]at h1
 match a,h1,h2 with
 | [⟨k,n⟩],_,h2=>have:=h2 ⟨k,n⟩ (by simp);simp only at this;subst this;exact⟨n,rfl⟩
theorem LJ.none{c:cd}{a:List U}(h:LJ c a)(hc:c.ar=0):a=[]:=zqr (h.1.trans hc)
theorem AD.next{c:cd}{s:St}{a:List U}(hs:AD c.fm s)(ha:LJ c a)(hc:Ck c s=true):AD c.fm (wP c s a):=by
 obtain⟨k,n,l⟩:=s;cases c<;>simp only[AD,cd.fm,Ck,wP]at *<;>simp at *
 ·obtain⟨m,rfl⟩:=ha.one rfl;obtain⟨_,_,h3,h4⟩:=hs;refine⟨by simp;omega,fun u hu=>?_⟩;rcases hu with hu|hu
  ·exact h4 u hu
  ·simp at hu;rw[hu]
 ·obtain⟨_,_,h3,h4⟩:=hs;exact⟨by omega,fun u hu=>h4 u (List.mem_of_mem_tail hu)⟩
 ·exact hs
 ·exact hs
theorem ak6{c:cd}{s:St}{a:List U}(hs:AD c.fm s):(pz c s a).k=0:=by
 obtain⟨k,n,l⟩:=s;cases c<;>simp only[pz,BM];cases l with
 |nil=>rfl
 |cons u l=>simp only[AD,cd.fm]at hs;simp at hs;exact hs.2.2.2.1
structure XF(X:Kn):Prop where
 can:∀c s a,AD c.fm s→LJ c a→X.US c s a=0∧X.UR c s a=Ck c s
 hold:∀c s a r,AD c.fm s→LJ c a→Ck c s=true→r.k=0→X.zg c s a r=0∧X.zf c s a r=decide (r=pz c s a)
 next:∀c s a r,AD c.fm s→LJ c a→Ck c s=true→r.k=0→X.Ez c s a r=0∧X.Ct c s a r=wP c s a
def an0:List (cd×List U)→St→List Sq
 | [],_=>[]
 |x ::l,s=>if Ck x.1 s=true then⟨x.1,x.2,pz x.1 s x.2⟩ ::an0 l (wP x.1 s x.2)else an0 l s
def an1(q:Sq):cd×List U:=(q.c,q.a)
inductive Gd:List Sq→St→Prop
 |nil (s:St):Gd [] s
 |cons {q:Sq} {l:List Sq} {s:St} (hc:Ck q.c s=true) (hr:q.r=pz q.c s q.a) (g:Gd l (wP q.c s q.a)):Gd (q ::l) s
theorem Gd.run{l:List Sq}{s:St}(h:Gd l s):an0 (l.map an1) s=l:=by
 induction h with
 |nil s=>rfl
 | @cons q l s hc hr g ih=>obtain⟨c,a,r⟩:=q;simp only at hr hc;subst hr;simp only[ZC,an0,an1];rw[if_pos hc];have ih:an0 (l.map an1) (wP c s a)=l:=ih;rw[ih]
def stQ:List Sq→St→Nat→St
 |_,s,0=>s
 | [],s,_+1=>s
 |q ::l,s,j+1=>stQ l (wP q.c s q.a) j
structure GdQ(i:Nat)(l:List Sq)(s:St):Prop where
 g:Gd l s
 s:AD i s
 l:∀q∈l,q.c.fm=i∧LJ q.c q.a
theorem GdQ.at{i:Nat}:∀{l:List Sq} {s:St},GdQ i l s→∀{j:Nat} (hj:j<l.length),AD i (stQ l s j)∧Ck l[j].c (stQ l s j)=true∧l[j].r=pz l[j].c (stQ l s j) l[j].a∧stQ l s (j+1)=wP l[j].c (stQ l s j) l[j].a
 | [],_,_,j,hj=>absurd hj (by simp)
 |q ::l,s,⟨g,hs,hl⟩,0,_=>by
  cases g with
  |cons hc hr g=>refine⟨hs,hc,hr,?_⟩;show stQ l _ 0=_;cases l<;>rfl
 |q ::l,s,⟨g,hs,hl⟩,j+1,hj=>by
  cases g with
  |cons hc hr g=>
   obtain⟨h1,h2⟩:=hl q (by simp);have hs':AD i (wP q.c s q.a):=by subst h1;exact AD.next hs h2 hc
   exact GdQ.at (l:=l) ⟨g,hs',fun x hx=>hl x (by simp[hx])⟩ (by simpa using hj)
theorem an2{u:U}(h:u.k=0):sH u=true:=by unfold sH;simp[h]
theorem ZL(c:cd):c.ar≤1:=by cases c<;>decide
variable{X:Kn}(F:XF X)
include F
end Ln
namespace Ln
open Go.Sx Go
structure Sqf(C:bP):Prop where
 vT:Fn C mj pD
 MC:Fn C qX KP
 Hs:Fn C ml DQ
 MD:Fn C mO KQ
 Px:Fn C vU Od
 EV:Fn C kv BV
 vV:Fn C df pE
 xD:Fn C gy qI
 x8:Fn C gz qY
 Bg:Fn C eP w8
 x9:Fn C cp qZ
 AO:Fn C cX wQ
 Bh:Fn C c9 w9
 zh:Fn C gZ tW
 xW:Fn C gA qM
 vW:Fn C fU pF
 qh:Fn C cr kP
 mn:Fn C dp ja
end Ln
namespace Go.Sx
open Go
def O7(z:Nat)(c:AV)(l:List AV)(len:Nat)(h:T ah)(nx:Key)(ob:Option Key):Prop:=
 (c=.nils∧l=[]∧len=0∧ob=none)∨∃b:Key,ob=some b∧c=.slice b 0 len z∧ag b h=some (.cells l .part)∧b.toNat<nx.toNat∧l.length=len*z
section
variable{z:Nat}{c:AV}{l new:List AV}{len m:Nat}{h h':T ah}{nx nx':Key}{ob:Option Key}
theorem O7.nil(z:Nat)(h:T ah)(nx:Key):O7 z .nils [] 0 h nx none:=.inl ⟨rfl,rfl,rfl,rfl⟩
theorem O7.lt(g:O7 z c l len h nx ob):∀b,ob=some b→b.toNat<nx.toNat:=by
 intro b hb;rcases g with⟨_,_,_,e⟩|⟨b',e,_,_,h4,_⟩
 ·rw[hb]at e;cases e
 ·rw[hb]at e;cases e;exact h4
theorem O7.cv(g:O7 z c l len h nx ob)(hn:nx.toNat≤nx'.toNat)(hk:∀b,ob=some b→ag b h'=ag b h):O7 z c l len h' nx' ob:=by
 rcases g with g|⟨b,e,h1,h2,h3,h4⟩
 ·exact .inl g
 ·exact .inr ⟨b,e,h1,by rw[hk b e];exact h2,by omega,h4⟩
theorem O7.gr(g:O7 z c l len h nx ob):Gr z c l len h nx ob:=by
 rcases g with g|⟨b,e,h1,h2,h3,h4⟩
 ·exact .inl g
 ·exact .inr (.inl ⟨b,.part,e,h1,h2,h3,h4,.inl rfl⟩)
theorem O7.cell(g:O7 z c l len h nx ob):c.aM=true∧c.cells=[c]:=by rcases g with⟨rfl,_⟩|⟨b,_,rfl,_⟩<;>exact⟨rfl,rfl⟩
theorem O7.add(g:O7 z c l len h nx ob)(hw:Jb z=true)(hm:0<m)(hn:new.length=m*z)(hl:len+m≤1048576)(hc:new.all AV.aM=true) :
  ∃h',appendTo z c new m h nx=.val (.slice nx 0 (len+m) z) h' nx.succ∧O7 z (.slice nx 0 (len+m) z) (l++new) (len+m) h' nx.succ (some nx)∧Qs h nx ob h' nx.succ (some nx):=by
 have s1:=kTSu nx;have NY:m≠0:=by omega
 rcases g with⟨rfl,rfl,rfl,rfl⟩|⟨b,rfl,rfl,h2,h3,h4⟩
 ·have MI:m≤1048576:=by omega
  exact⟨aw nx (some (.cells new .part)) h,by simp[NY,MI],.inr ⟨nx,rfl,by simp,by simp,by omega,by simpa using hn⟩,by omega,fun b hb _=>aA hb,.inr ⟨nx,rfl,fE _⟩⟩
 ·refine⟨aw nx (some (.cells (l++new) .part)) (aw b none h),?_,.inr ⟨nx,rfl,rfl,by simp,by omega,by rw[DG,h4,hn,Nat.add_mul]⟩,by omega,fun x hx hk=>?_,.inr ⟨nx,rfl,fE _⟩⟩
  ·simp[hl,hc,h2,h4,NY,hw]
  ·rw[aA hx,aP];rintro rfl;exact hk rfl
theorem O7.put(g:O7 z c l len h nx ob){b:Key}(hb:ob=some b){l':List AV}(hl:l'.length=l.length):O7 z c l' len (aw b (some (.cells l' .part)) h) nx ob:=by
 rcases g with⟨_,_,_,e⟩|⟨b',e,h1,h2,h3,h4⟩
 ·rw[hb]at e;cases e
 ·rw[hb]at e;cases e;exact .inr ⟨b,hb,h1,by simp,h3,by rw[hl];exact h4⟩
end
theorem Qs.M8{h h':T ah}{nx nx' b:Key}(e:Qs h nx (some b) h' nx' (some b))(v:Option ah):Qs h nx (some b) (aw b v h') nx' (some b):=⟨e.n,fun x hx hn=>by rw[aP _ _ _ _ (fun q=>hn (by rw[q]))];exact e.g x hx hn,.inl rfl⟩
theorem lat{α:Type}{l:List α}{k:Nat}{x:α}(h:l[k]?=some x):∀hh,l[k]'hh=x:=fun hh=>by have q:=pY hh;rw[h]at q;exact(Option.some.inj q).symm
end Go.Sx
namespace Ln
open Go.Sx Go
def nmC:cd→Nat
 |.add=>121|_=>120
def yR(nm:Nat)(v:List AV):List AV:=.str 1 nm ::v
def adF(c:cd):List U→List AV
 | []=>[]
 |u ::_=>yR (nmC c) (eU u)
def DB(c:cd)(s:St)(a:List U):List AV:=yR 115 (eS s)++yR 108 (eU BM)++adF c a
def zN:AV:=.agg [I 0,I 0]
def anc:Nat→Nat×Nat
 |0=>(4,1735289202)|1=>(4,1819043171)|_=>(6,133532402673005)
abbrev aw8(i:Nat):AV:=.str (anc i).1 (anc i).2
structure BJ where
 sys:Nat→List AV
 cmd:cd→List AV
 drw:cd→List AV
 par:cd→List AV
 act:cd→List AV
def Ku(c:cd)(l:List AV)(z:Nat):AV:=if c.ar=0 then .nils else .sl l 1 z .any
def BJ.op(Y:BJ)(c:cd):List AV:=[.str c.name.1 c.name.2,Ku c (Y.par c) 4,.sl (Y.act c) 1 14 .any]
structure Cel(n:Nat)(l:List AV):Prop where
 len:l.length=n
 wU:∀y∈l,KD y
 cell:∀y∈l,y.aM=true
 lits:AV.dU l=true
theorem kF:∀{l:List AV},AV.dU l=true↔∀y∈l,AV.lits y=true
 | []=>by simp[AV.dU]
 |a ::l=>by simp[AV.dU,kF (l:=l)]
theorem Cel.all{n:Nat}{l:List AV}(h:Cel n l):l.all AV.aM=true:=sF.2 h.cell
theorem Cel.cut{n:Nat}{l:List AV}(h:Cel n l)(o k:Nat)(hk:o+k≤n):Cel k ((l.drop o).take k):=by have hm:∀y∈(l.drop o).take k,y∈l:=fun y hy=>List.mem_of_mem_drop (List.mem_of_mem_take hy);refine⟨?_,fun y hy=>h.wU y (hm y hy),fun y hy=>h.cell y (hm y hy),kF.2 fun y hy=>kF.1 h.lits y (hm y hy)⟩;rw[UD,List.length_drop,h.len];omega
def Qj(o:Nat)(l:List AV):AV:=.agg ((l.drop o).take 7)
structure Zz(C:bP)(X:Kn)(Y:BJ):Prop where
 f:XF X
 avI:AV.beq X.m X.m=true
 sys:∀i,1≤i→i<3→Cel 45 (Y.sys i)
 par:∀c,c.ar=1→Cel 4 (Y.par c)∧(Y.par c)[0]?=some (.str 1 (nmC c))
 act:∀c,Cel 14 (Y.act c)
 aBD:∀h nx,C.sum zV [X.m] h nx=some (X.m,h,nx)
 auw:∀i,1≤i→i<3→∀h nx,C.sum zX [X.m,aw8 i] h nx=some (.tuple [.agg (Y.sys i),.bool true],h,nx)
 aCD:∀c,1≤c.fm→∀h nx,C.sum sn [.agg (Y.sys c.fm),.str c.name.1 c.name.2] h nx=some (.tuple [.agg (Y.op c),.bool true],h,nx)
 anl:∀i,1≤i→i<3→∃x y z:Int,∀h nx,C.sum fi [X.m,.nils,Qj 29 (Y.sys i),iW,zN] h nx=some (.tuple [.agg (eS (bJ i)),.agg [I x,I y,I z],.nils,I 0],h,nx)
 atw:∀i,1≤i→i<3→∀s,AD i s→∃x y z:Int,∀h nx,C.sum fi [X.m,.sl (yR 115 (eS s)) 1 5 .any,Qj 38 (Y.sys i),iW,zN] h nx=some (.tuple [.agg (eS s),.agg [I x,I y,I z],.nils,I 0],h,nx)
 atd:∀c s a,1≤c.fm→AD c.fm s→LJ c a→∃x y z:Int,∀h nx,C.sum fi [X.m,.sl (DB c s a) (2+a.length) 5 .any,Qj 0 (Y.act c),iW,zN] h nx=some (.tuple [.agg (eS (wP c s a)),.agg [I x,I y,I z],.nils,I 0],h,nx)
 ate:∀c s a,1≤c.fm→AD c.fm s→LJ c a→∃x y z:Int,∀h nx,C.sum fi [X.m,.sl (DB c s a) (2+a.length) 5 .any,Qj 7 (Y.act c),iW,zN] h nx=some (.tuple [.agg (eU (pz c s a)),.agg [I x,I y,I z],.nils,I 0],h,nx)
end Ln
