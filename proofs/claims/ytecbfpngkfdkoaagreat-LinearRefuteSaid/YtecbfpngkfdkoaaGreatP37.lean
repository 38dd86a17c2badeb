/- A part of the proof. No condition. -/
import Derived.Test.YtecbfpngkfdkoaaGreatP36
import Derived.Test.YtecbfpngkfdkoaaGreatP8
import Derived.Test.YtecbfpngkfdkoaaGreatP12
set_option linter.unusedSimpArgs false
set_option linter.unusedVariables false
set_option linter.unusedSectionVars false
namespace Ln
open Go.Sx Go
variable{C:cD}{X:Kn}(S:Std C X)
include S
abbrev atN(X:Kn)(i:Nat):AV:=.sl (aj (X.cmd i) (List.range (az i).length)) (az i).length 23 .any
theorem aBE(i t:Nat)(H:T ag):bY (aO 9998) (X.cmd i t) H=(X.cmd i t,H):=dj ((S.ok.P2 i).D3 t)
omit S in
theorem anX{i j:Nat}{name:Nat×Nat}(hj:j<(az i).length)(h:∀ (s:Nat) (hs:s<(az i).length),s<j→(az i)[s].name≠name)(hn:(az i)[j].name≠name):∀ (s:Nat) (hs:s<(az i).length),s<j+1→(az i)[s].name≠name:=by
 intro s hs hsj
 by_cases e:s=j
 ·subst e;exact hn
 ·exact h s hs (by omega)
def IxI(i:Nat)(o:Op)(b:Key)(X:Kn)(h:T ag)(nx:Key)(m:Nat)(tm':T AV)(h':T ag)(nx':Key):Prop:=∃ j:Nat,m=(az i).length-j∧j≤(az i).length∧aa (K 0) tm'=some (atN X i)∧aa (K 1) tm'=some (.fn dZ [] [.ptr b 0])∧aa (K 7) tm'=some (I (az i).length)∧aa (K 8) tm'=some (I j)∧Ext h nx h' nx'∧∀ (s:Nat) (hs:s<(az i).length),s<j→(az i)[s].name≠o.name
theorem atO{i:Nat}(hi:i<3)(o:Op){h:T ag}{nx b:Key}{k:CK}(hb:aa b h=some (.cells (eO o) k))(Iq:b.toNat<nx.toNat):aI C bC [atN X i,.fn dZ [] [.ptr b 0]] h nx (fun out h' nx'=>out=.ret (I (AL i o.name))∧Ext h nx h' nx'):=by
 have hn3:=Rs i
 have rc:C.raw dZ=false:=S.nr (by decide)
 refine S.fT.call ?_
 simp[eb]
 simp[fp]
 simp[fq]
 refine W.dQ (n:=(az i).length) (IxI i o b X h nx) ⟨0,by simp,by omega,by simp,by simp,by simp,by simp,Ext.refl _ _,fun s _ hs=>absurd hs (by omega)⟩ ?_
 rintro m dn h1 bN ⟨j,rfl,hj,g0,g1,g7,g8,e1,iI⟩
 refine W.of ?_
 simp[ft]
 by_cases bz:j<(az i).length
 ·have uA:(j:Int)<(az i).length:=by omega
  have ec:=L1 S bz
  have hr:=L2 S (i:=i)
  have hl:=(S.ok.P2 i).len j
  have t23:23≤(az i).length*23-j*23:=by omega
  have ht:List.take 23 (X.cmd i j)=X.cmd i j:=Pu (by omega)
  simp[dv,g7,g8,uA]
  simp[fu,g8]
  simp[fw,g0,g1,bz,hr,t23,ec,hl,ht,rc,aBE S]
  refine(aFi S hi bz o (by rw[e1.g b Iq];exact hb) (by have:=e1.n;omega)).mono ?_
  rintro out h2 aH ⟨rfl,e2⟩
  by_cases hn:(az i)[j].name=o.name
  ·simp[hn]
   simp[fy]
   exact⟨(anY bz iI hn).1.symm,e1.trans e2⟩
  ·simp[hn]
   simp[fA,g8]
   rw[aq (by omega) (by omega)]
   exact⟨(az i).length-(j+1),by omega,j+1,rfl,by omega,by simp[g0],by simp[g1],by simp[g7],by simp,e1.trans e2,anX bz iI hn⟩
 ·have qL:j=(az i).length:=by omega
  subst qL
  simp[dv,g7,g8]
  simp[fC]
  exact⟨(anZ (fun s hs=>iI s hs hs)).1.symm,e1⟩
def CmI(i:Nat)(name:Nat×Nat)(X:Kn)(b:Key)(h:T ag)(nx:Key)(m:Nat)(tm':T AV)(h':T ag)(nx':Key):Prop:=∃ j:Nat,m=(az i).length-j∧j≤(az i).length∧aa (K 1) tm'=some (.str name.1 name.2)∧aa (K 2) tm'=some (.ptr b 0)∧aa (K 5) tm'=some (I j)∧h'=h∧nx'=nx∧∀ (s:Nat) (hs:s<(az i).length),s<j→(az i)[s].name≠name
theorem akQ{i:Nat}(hi:i<3)(name:Nat×Nat):RY C jx [.agg (X.dec i),.str name.1 name.2] (·=.ret (I (AL i name))):=by
 intro h nx
 have hn3:=Rs i
 have d45:=S.ok.Vz i hi
 have dC:(X.dec i).all AV.aN=true:=vV.2 (S.ok.axg i hi)
 have d36:=S.ok.atv i hi
 have yq:∀ hh,(X.dec i)[36]'hh=atN X i:=fun hh=>by
  have q:=Pe hh
  rw[d36] at q;exact(Option.some.inj q).symm
 refine S.AN.call ?_
 simp[xg]
 simp[yr,dC]
 simp[yu]
 have hb:aa nx (au nx (some (.cells (X.dec i) .fix)) h)=some (.cells (X.dec i) .fix):=by simp
 have he:=E0 h nx (.cells (X.dec i) .fix)
 generalize au nx (some (.cells (X.dec i) .fix)) h=H at hb he ⊢
 refine W.dQ (n:=(az i).length) (CmI i name X nx H nx.succ) ⟨0,by simp,by omega,by simp,by simp,by simp,rfl,rfl,fun s _ hs=>absurd hs (by omega)⟩ ?_
 rintro m dn h1 bN ⟨j,rfl,hj,g1,g2,g5,rfl,rfl,iI⟩
 refine W.of ?_
 simp[yv]
 by_cases bz:j<(az i).length
 ·have uA:(j:Int)<(az i).length:=by omega
  have ec:=L1 S bz
  have hr:=L2 S (i:=i)
  have hl:=(S.ok.P2 i).len j
  have t23:23≤(az i).length*23-j*23:=by omega
  have h0:=S.ok.aES i hi j _ (Pe bz)
  have hnm:=fun h=>anY bz iI h
  have dL:=fun h=>anX bz iI h
  generalize (az i)[j]=c at *
  obtain⟨m1,m2⟩:=name
  rcases hcn:c.name with⟨n1,n2⟩
  rw[hcn] at h0 hnm dL
  have h0':∀ hh,(X.cmd i j)[0]'hh=.str n1 n2:=fun hh=>by
   have q:=Pe hh
   rw[h0] at q;exact(Option.some.inj q).symm
  simp[qh,g2,g5,hb,yq,d45,uA]
  by_cases hn:n1=m1∧n2=m2
  ·obtain⟨rfl,rfl⟩:=hn
   simp[qi,g1,g2,g5,hb,yq,d45,bz,hr,t23,ec,hl,h0']
   simp[yw,g5]
   exact⟨(hnm rfl).1.symm,he⟩
  ·simp[qi,g1,g2,g5,hb,yq,d45,bz,hr,t23,ec,hl,h0',hn]
   simp[yx,g5]
   rw[aq (by omega) (by omega)]
   exact⟨(az i).length-(j+1),by omega,j+1,rfl,by omega,by simp[g1],by simp[g2],by simp,rfl,rfl,dL (by simpa using hn)⟩
 ·have qL:j=(az i).length:=by omega
  subst qL
  simp[qh,g2,g5,hb,yq,d45]
  simp[yz]
  exact⟨(anZ (fun s hs=>iI s hs hs)).1.symm,he⟩
end Ln
/-
 LN: a history that is judged: the program. No condition.
-/
namespace Ln
open Go.Sx Go
def nw(i:Nat)(l:List Ev):Int:=if bk [] l=0 then jR i (cU 0 l) else iM (bk [] l)
def jV(os:List Op):Nat→Nat
 |0=>0
 |j+1=>if 0≤(os.getD j default).e then jV os j ||| 2^j else jV os j
theorem Ti(os:List Op):∀ j,jV os j<2^j
 |0=>by simp[jV]
 |j+1=>by
  have h:=Ti os j
  have h2:2^j<2^(j+1):=Nat.pow_lt_pow_right (by omega) (by omega)
  unfold jV
  split
  ·exact Nat.or_lt_two_pow (by omega) h2
  ·omega
theorem kn{j:Nat}(h:j≤16):2^j≤65536:=Nat.pow_le_pow_right (n:=2) (by omega) h
theorem pV{n:Nat}(h:n≤65536):Q2 .i64 (n:Int)=n:=by
 unfold Q2 full
 show Int.toNat (Int.emod (n:Int) 18446744073709551616)=n
 have:Int.emod (n:Int) 18446744073709551616=(n:Int):=Int.emod_eq_of_lt (by omega) (by omega)
 rw[this];rfl
def jB(X:Kn)(i:Nat)(cO:AV)(s:St)(e:Nat):List AV:=[.sl X.rows 7 45 .any,dO i,cO,I 200,I 50,I 0,I s.k,I s.n,.str 0 0,aC s.kids,I e]
variable{C:cD}{X:Kn}(S:Std C X)
include S
structure BgA(X:Kn)(i:Nat)(os:List Op)(cO:AV)(bm bl bd bj n0:Key)(e:Nat)(tm:T AV)(h:T ag)(nx:Key):Prop where
 g1:aa (K 1) tm=some (dO i)
 g4:aa (K 4) tm=some (.ptr bm 0)
 g7:aa (K 7) tm=some (.ptr bl 0)
 DQ:aa (K 10) tm=some cO
 Gg:aa (K 12) tm=some (.ptr bd 0)
 E9:aa (K 14) tm=some (.ptr bj 0)
 m:aa bm h=some (.cells [.sl X.rows 7 45 .any] .fix)
 l:aa bl h=some (.cells [I 200,I 50] .fix)
 d:aa bd h=some (.cells (X.dec i) .fix)
 j:aa bj h=some (.cells (jB X i cO ⟨0,0,[]⟩ e) .fix)
 lt:bm.toNat<nx.toNat∧bl.toNat<nx.toNat∧bd.toNat<nx.toNat∧bj.toNat<nx.toNat
 ge:n0.toNat≤bj.toNat
 ne:bm≠bj∧bl≠bj∧bd≠bj
def BgL(X:Kn)(i:Nat)(os:List Op)(cO:AV)(bm bl bd bj n0:Key)(h:T ag)(m:Nat)(tm':T AV)(h':T ag)(nx':Key):Prop:=∃ j:Nat,m=os.length-j∧j≤os.length∧aa (K 41) tm'=some cO∧aa (K 42) tm'=some (I os.length)∧aa (K 43) tm'=some (I j)∧BgA X i os cO bm bl bd bj n0 (jV os j) tm' h' nx'∧Ext h n0 h' nx'∧jR i os=jR i (os.drop j)
theorem auT{i:Nat}(hi:i<3){os:List Op}(ho:os.length≤16){cO:AV}(hc:jN 10 eO cO os){bm bl bd bj n0:Key}{h:T ag}{Q:dN}{m:Nat}{tm:T AV}{h1:T ag}{bN:Key}(A:BgL X i os cO bm bl bd bj n0 h m tm h1 bN)
  (oW:∀ tm' h' nx',aa (K 8) tm'=some .nilp→aa (K 9) tm'=some (I (jR i os))→jR i os≠0→Ext h n0 h' nx'→Q .ret tm' h' nx')
  (eK:∀ tm' h' nx',BgA X i os cO bm bl bd bj n0 (jV os os.length) tm' h' nx'→Ext h n0 h' nx'→jR i os=0→Q .norm tm' h' nx') :
  W C (.loop mJ) (al 0 Q) tm h1 bN:=by
 have ri:C.raw bC=false:=S.nr (by decide)
 have d45:=S.ok.Vz i hi
 have d36:=S.ok.atv i hi
 have yq:∀ hh,(X.dec i)[36]'hh=atN X i:=fun hh=>by
  have q:=Pe hh
  rw[d36] at q;exact(Option.some.inj q).symm
 refine W.dQ (BgL X i os cO bm bl bd bj n0 h) A ?_
 rintro m dn h2 aH ⟨j,rfl,hj,g41,g42,g43,B,e2,nq⟩
 obtain⟨g1,g4,g7,DQ,Gg,E9,bm2,bl2,bd2,Ux,lt,ge,ne⟩:=B
 refine W.of ?_
 simp[mJ]
 by_cases bz:j<os.length
 ·have uA:(j:Int)<os.length:=by omega
  have Cr:cO=.sl (aj eO os) os.length 10 .any:=by
   rcases hc with⟨_,rfl⟩|e
   ·simp at bz
   ·exact e
  have aGk:=g41
  rw[Cr] at aGk
  have ec:=ep.at bz
  have hr:=ep.rows os
  have tx:10≤os.length*10-j*10:=by omega
  have s2:=kTSu aH
  have KP:(eO os[j]).all AV.aN=true:=vV.2 (ep.cell _)
  rw[zqt bz] at nq
  have hbg:jR i (os[j] ::os.drop (j+1))=match kD i os[j].name with|none=>6|some c=>if os[j].args.length=c.ar then jR i (os.drop (j+1)) else 1:=rfl
  rw[hbg] at nq
  have hgd:os.getD j default=os[j]:=by rw[List.getD_eq_getElem?_getD,Pe bz];rfl
  have heb:jV os (j+1)=if 0≤os[j].e then jV os j ||| 2^j else jV os j:=by rw[← hgd];rfl
  have elt:=Ti os j
  have p16:=kn (j:=j) (by omega)
  generalize os[j]=o at *
  simp[sX,g42,g43,uA]
  simp[zg,aGk,g43,bz,hr,tx,ec,S8,Kc,KP]
  have e3:=E0 h2 aH (.cells (eO o) .fix)
  have gb3:aa aH (au aH (some (.cells (eO o) .fix)) h2)=some (.cells (eO o) .fix):=by simp
  have bd3:aa bd (au aH (some (.cells (eO o) .fix)) h2)=some (.cells (X.dec i) .fix):=by rw[e3.g bd lt.2.2.1];exact bd2
  generalize hH:au aH (some (.cells (eO o) .fix)) h2=h3 at *
  simp[zh,Gg,bd3,yq,d45,ri]
  refine(atO S hi o gb3 (by omega)).mono ?_
  rintro out h4 DE ⟨rfl,e4⟩
  simp
  have gb4:aa aH h4=some (.cells (eO o) .fix):=by rw[e4.g aH (by omega)];exact gb3
  have e24:=e3.trans e4
  have bm4:aa bm h4=some (.cells [.sl X.rows 7 45 .any] .fix):=by rw[e24.g bm lt.1];exact bm2
  have bl4:aa bl h4=some (.cells [I 200,I 50] .fix):=by rw[e24.g bl lt.2.1];exact bl2
  have bd4:aa bd h4=some (.cells (X.dec i) .fix):=by rw[e24.g bd lt.2.2.1];exact bd2
  have bj4:aa bj h4=some (.cells (jB X i cO ⟨0,0,[]⟩ (jV os j)) .fix):=by rw[e24.g bj lt.2.2.2];exact Ux
  have n24:=e24.n
  have hix:(∃ (t:Nat) (ht:t<(az i).length),AL i o.name=t∧kD i o.name=some (az i)[t])∨(AL i o.name=-1∧kD i o.name=none):=by
   unfold AL kD
   cases hf:(az i).findIdx? (fun c=>c.name==o.name) with
   |none=>
    rw[List.findIdx?_eq_none_iff] at hf
    exact .inr ⟨rfl,List.find?_eq_none.2 (fun c hc=>by simpa using hf c hc)⟩
   |some t=>
    rw[List.findIdx?_eq_some_iff_getElem] at hf
    obtain⟨ht,h1,h2⟩:=hf
    refine .inl ⟨t,ht,rfl,?_⟩
    rw[List.find?_eq_some_iff_getElem]
    exact⟨h1,t,ht,rfl,fun s hs=>by simpa using h2 s hs⟩
  have next:∀ (ay:T AV) (h5:T ag),(∀ k:Key,k=K 1∨k=K 4∨k=K 7∨k=K 10∨k=K 12∨k=K 14∨k=K 41∨k=K 42∨k=K 43→aa k ay=aa k dn)→aa bj h5=some (.cells (jB X i cO ⟨0,0,[]⟩ (jV os (j+1))) .fix)→(∀ k:Key,k≠bj→aa k h5=aa k h4)→jR i os=jR i (os.drop (j+1))→
    mX C (av (fun tm h' nx'=>∃ m,m<os.length-j∧BgL X i os cO bm bl bd bj n0 h m tm h' nx') (al 0 Q)) iG ay h5 DE:=by
   intro ay h5 q qj qk qe
   have q43:=(q (K 43) (by simp)).trans g43
   simp[iG,q43]
   rw[aq (by omega) (by omega)]
   refine⟨os.length-(j+1),by omega,j+1,rfl,by omega,?_,?_,by simp,⟨?_,?_,?_,?_,?_,?_,by rw[qk bm ne.1];exact bm4,by rw[qk bl ne.2.1];exact bl4,by rw[qk bd ne.2.2];exact bd4,qj,by omega,ge,ne⟩,?_,qe⟩
   ·simp;exact(q (K 41) (by simp)).trans g41
   ·simp;exact(q (K 42) (by simp)).trans g42
   ·simp;exact(q (K 1) (by simp)).trans g1
   ·simp;exact(q (K 4) (by simp)).trans g4
   ·simp;exact(q (K 7) (by simp)).trans g7
   ·simp;exact(q (K 10) (by simp)).trans DQ
   ·simp;exact(q (K 12) (by simp)).trans Gg
   ·simp;exact(q (K 14) (by simp)).trans E9
   ·exact⟨by have:=e2.n;omega,fun b hb=>by rw[qk b (fun e=>by subst e;omega),e24.g b (by have:=e2.n;omega)];exact e2.g b hb⟩
  have ayi:Ext h n0 h4 DE:=e2.trans e24
  rcases hix with⟨t,ht,hx,Hr⟩|⟨hx,Hr⟩
  ·have h1:=S.ok.aET i hi t _ (Pe ht)
   have ecr:=L1 S ht
   have hlr:=L2 S (i:=i)
   have hl:=(S.ok.P2 i).len t
   have t23:23≤(az i).length*23-t*23:=by omega
   rw[Hr] at nq
   simp only at nq
   have hx0:¬ (t:Int)<0:=by omega
   generalize (az i)[t]=c at *
   obtain⟨d,hd,hD⟩:=h1
   have DY:∀ hh,(X.cmd i t)[1]'hh=d:=fun hh=>by
    have q:=Pe hh
    rw[hd] at q;exact(Option.some.inj q).symm
   simp[qH,hx,hx0]
   have hA:(aC o.args=.nils∧o.args.length=0)∨∃ l,aC o.args=.sl l o.args.length 4 .any:=by
    cases o.args with
    |nil=>exact .inl ⟨rfl,rfl⟩
    |cons a t=>exact .inr ⟨_,rfl⟩
   have rest:∀ ay:T AV,(∀ k:Key,k=K 1∨k=K 4∨k=K 7∨k=K 10∨k=K 12∨k=K 14∨k=K 15∨k=K 16∨k=K 41∨k=K 42∨k=K 43→aa k ay=aa k (au (K 15) (some (I j)) (au (K 16) (some (.ptr aH 0)) dn)))→o.args.length=c.ar→
     mX C (av (eP C (.cond (.t (K 67)) (.staged qI ⟨[K 68,K 69,K 70,K 71,K 72,K 73,K 74,K 75,K 76],[]⟩) .skip) (al 1 (av (eP C (.ops iG) (av (fun tm h' nx'=>∃ m,m<os.length-j∧BgL X i os cO bm bl bd bj n0 h m tm h' nx') (al 0 Q))) (av (fun tm h' nx'=>∃ m,m<os.length-j∧BgL X i os cO bm bl bd bj n0 h m tm h' nx') (al 0 Q))))) (al 1 (av (eP C (.ops iG) (av (fun tm h' nx'=>∃ m,m<os.length-j∧BgL X i os cO bm bl bd bj n0 h m tm h' nx') (al 0 Q))) (av (fun tm h' nx'=>∃ m,m<os.length-j∧BgL X i os cO bm bl bd bj n0 h m tm h' nx') (al 0 Q))))) lI ay h4 DE:=by
    intro ay q hlen
    rw[if_pos hlen] at nq
    have q15:aa (K 15) ay=some (I j):=by rw[q (K 15) (by simp)];simp
    have q16:aa (K 16) ay=some (.ptr aH 0):=by rw[q (K 16) (by simp)];simp
    have q14:aa (K 14) ay=some (.ptr bj 0):=by rw[q (K 14) (by simp)];simp[E9]
    have q9:∀ k:Key,k=K 1∨k=K 4∨k=K 7∨k=K 10∨k=K 12∨k=K 14∨k=K 41∨k=K 42∨k=K 43→aa k ay=aa k dn:=by
     rintro k (rfl|rfl|rfl|rfl|rfl|rfl|rfl|rfl|rfl)<;>(rw[q _ (by simp)];simp)
    by_cases he:o.e<0
    ·rw[if_neg (by omega)] at heb
     simp[lI,q16,gb4,eO,he]
     refine next _ h4 ?_ (by rw[heb];exact bj4) (fun _ _=>rfl) nq
     rintro k (rfl|rfl|rfl|rfl|rfl|rfl|rfl|rfl|rfl)<;>(simp;exact q9 _ (by simp))
    ·rw[if_pos (by omega)] at heb
     simp[lI,q16,gb4,eO,he]
     have hsh:BB .i64 j=true:=by unfold BB;exact Nat.ble_eq_true_of_le (by omega)
     have Uz:((2:Int)^j)=((2^j:Nat):Int):=by simp
     have hp2:2^j≤65536:=kn (by omega)
     have hw:cu .i64 ((2:Int)^j)=((2^j:Nat):Int):=by rw[Uz];exact aq (by omega) (by omega)
     have Rb:Q2 .i64 ((2^j:Nat):Int)=2^j:=pV hp2
     have Fq:Q2 .i64 (jV os j:Int)=jV os j:=pV (by omega)
     have hor:jV os j ||| 2^j<2^(j+1):=Nat.or_lt_two_pow (by have:2^j<2^(j+1):=Nat.pow_lt_pow_right (by omega) (by omega);omega) (Nat.pow_lt_pow_right (by omega) (by omega))
     have hp3:2^(j+1)≤131072:=Nat.pow_le_pow_right (n:=2) (by omega) (by omega:j+1≤17)
     have hw2:cu .i64 ((jV os j ||| 2^j:Nat):Int)=((jV os j ||| 2^j:Nat):Int):=aq (by omega) (by omega)
     simp[qI,q14,q15,bj4,jB,hsh,-Int.natCast_pow,hw,Rb,Fq,hw2]
     refine next _ _ ?_ ?_ (fun k hk=>bG _ _ _ _ hk) nq
     ·rintro k (rfl|rfl|rfl|rfl|rfl|rfl|rfl|rfl|rfl)<;>(simp;exact q9 _ (by simp))
     ·rw[heb];simp[jB];rw[hw,Rb,hw2]
   rcases hA with⟨ea,ha0⟩|⟨la,ea⟩<;>rcases hD with⟨rfl,hk0⟩|⟨ld,z,rfl⟩
   ·simp[dK,Gg,gb4,bd4,eO,yq,d45,ht,hlr,t23,ecr,hl,DY,ea]
    refine rest _ ?_ (by omega)
    rintro k (rfl|rfl|rfl|rfl|rfl|rfl|rfl|rfl|rfl|rfl|rfl)<;>simp
   ·by_cases Fj:c.ar=0
    ·simp[dK,Gg,gb4,bd4,eO,yq,d45,ht,hlr,t23,ecr,hl,DY,ea,Fj]
     refine rest _ ?_ (by omega)
     rintro k (rfl|rfl|rfl|rfl|rfl|rfl|rfl|rfl|rfl|rfl|rfl)<;>simp
    ·have JE:((0:Int)==(c.ar:Int))=false:=bq (by omega)
     rw[if_neg (by omega)] at nq
     simp[dK,Gg,gb4,bd4,eO,yq,d45,ht,hlr,t23,ecr,hl,DY,ea,JE]
     simp[lH]
     refine oW _ _ _ ?_ ?_ (by rw[nq];decide) ayi
     ·simp
     ·simp[nq]
   ·by_cases Fj:o.args.length=0
    ·simp[dK,Gg,gb4,bd4,eO,yq,d45,ht,hlr,t23,ecr,hl,DY,ea,Fj]
     refine rest _ ?_ (by omega)
     rintro k (rfl|rfl|rfl|rfl|rfl|rfl|rfl|rfl|rfl|rfl|rfl)<;>simp
    ·have JE:((o.args.length:Int)==0)=false:=bq (by omega)
     rw[if_neg (by omega)] at nq
     simp[dK,Gg,gb4,bd4,eO,yq,d45,ht,hlr,t23,ecr,hl,DY,ea,JE]
     simp[lH]
     refine oW _ _ _ ?_ ?_ (by rw[nq];decide) ayi
     ·simp
     ·simp[nq]
   ·by_cases Fj:o.args.length=c.ar
    ·simp[dK,Gg,gb4,bd4,eO,yq,d45,ht,hlr,t23,ecr,hl,DY,ea,Fj]
     refine rest _ ?_ Fj
     rintro k (rfl|rfl|rfl|rfl|rfl|rfl|rfl|rfl|rfl|rfl|rfl)<;>simp
    ·have JE:((o.args.length:Int)==(c.ar:Int))=false:=bq (by omega)
     rw[if_neg Fj] at nq
     simp[dK,Gg,gb4,bd4,eO,yq,d45,ht,hlr,t23,ecr,hl,DY,ea,JE]
     simp[lH]
     refine oW _ _ _ ?_ ?_ (by rw[nq];decide) ayi
     ·simp
     ·simp[nq]
  ·rw[Hr] at nq
   simp only at nq
   simp[qH,hx]
   simp[zi]
   refine oW _ _ _ ?_ ?_ (by rw[nq];decide) ayi
   ·simp
   ·simp[nq]
 ·have qL:j=os.length:=by omega
  subst qL
  rw[List.drop_length] at nq
  simp[sX,g42,g43]
  exact eK _ _ _ ⟨by simp[g1],by simp[g4],by simp[g7],by simp[DQ],by simp[Gg],by simp[E9],bm2,bl2,bd2,Ux,lt,ge,ne⟩ e2 nq
end Ln
/-
 LN: a history that is judged: the program, all of it. No condition.
-/
namespace Ln
open Go.Sx Go
variable{C:cD}{X:Kn}(S:Std C X)
include S
def axZ(mk:AV→List AV)(i:Nat)(l:List Ev)(h:T ag)(nx:Key)(o:Out)(h':T ag)(nx':Key):Prop:=Ext h nx h' nx'∧
 ((nw i l≠0∧o=.ret (.tuple [.nilp,I (nw i l)]))∨
  (nw i l=0∧∃ (b:Key) (cO:AV),o=.ret (.tuple [.ptr b 0,I 0])∧aa b h'=some (.cells (mk cO) .fix)∧jN 10 eO cO (cU 0 l)∧nx.toNat≤b.toNat∧b.toNat<nx'.toNat))
omit S in
theorem OB(i:Nat):∃ k n,cd i=⟨k,n,[]⟩:=by unfold cd;split<;>exact⟨_,_,rfl⟩
theorem auQ{i:Nat}(hi:i<3){ev:AV}{l:List Ev}(hv:jN 8 eE ev l)(hl:Few l){h:T ag}{nx:Key}:aI C kG [X.m,dO i,ev,kj] h nx (axZ (fun cO=>jB X i cO (cd i) (jV (cU 0 l) (cU 0 l).length)) i l h nx):=by
 have s1:=kTSu nx
 have s2:=kTSu nx.succ
 have rO:C.raw l7=false:=S.nr (by decide)
 have rD:C.raw xl=false:=S.nr (by decide)
 have rI:C.raw z7=false:=S.nr (by decide)
 have hz:∀ H,aO 9999 ev H=(ev,H):=fun H=>hv.D3 _ _
 have rW:(cU 0 l).length≤16:=by have:=qW l 0;have:=hl.len;omega
 refine S.CX.call ?_
 simp[zT]
 simp[A7,Kn.m,kj]
 have e2:=(E0 h nx (.cells [.sl X.rows 7 45 .any] .fix)).trans (E0 _ nx.succ (.cells [I 200,I 50] .fix))
 have bm2:aa nx (au nx.succ (some (.cells [I 200,I 50] .fix)) (au nx (some (.cells [.sl X.rows 7 45 .any] .fix)) h))=some (.cells [.sl X.rows 7 45 .any] .fix):=by rw[ax (by omega)];simp
 have bl2:aa nx.succ (au nx.succ (some (.cells [I 200,I 50] .fix)) (au nx (some (.cells [.sl X.rows 7 45 .any] .fix)) h))=some (.cells [I 200,I 50] .fix):=by simp
 generalize au nx.succ (some (.cells [I 200,I 50] .fix)) (au nx (some (.cells [.sl X.rows 7 45 .any] .fix)) h)=h2 at *
 simp[A8,rO,hz]
 refine(avJ S hv hl _ _).mono ?_
 rintro o h3 bF ⟨⟨cO,rfl,hc⟩,e3⟩
 have Ph:=e2.trans e3
 have bm3:aa nx h3=some (.cells [.sl X.rows 7 45 .any] .fix):=by rw[e3.g nx (by omega)];exact bm2
 have bl3:aa nx.succ h3=some (.cells [I 200,I 50] .fix):=by rw[e3.g nx.succ (by omega)];exact bl2
 have n3:=e3.n
 simp
 by_cases Po:bk [] l=0
 ·rw[if_pos Po] at hc
  have hcb:nw i l=jR i (cU 0 l):=by unfold nw;rw[if_pos Po]
  simp[sG,Po,iM]
  have d45:=S.ok.Vz i hi
  have dC:(X.dec i).all AV.aN=true:=vV.2 (S.ok.axg i hi)
  simp[A9,bm3,rD]
  refine aI.known (S.EC i hi _ _) ?_
  have s3:=kTSu bF
  have s4:=kTSu bF.succ
  simp[d45,dC]
  have dt:List.drop 45 (X.dec i)=[]:=List.drop_eq_nil_of_le (by omega)
  have e4:=E0 h3 bF (.cells (X.dec i) .fix)
  have bd4:aa bF (au bF (some (.cells (X.dec i) .fix)) h3)=some (.cells (X.dec i) .fix):=by simp
  have bm4:aa nx (au bF (some (.cells (X.dec i) .fix)) h3)=some (.cells [.sl X.rows 7 45 .any] .fix):=by rw[e4.g nx (by omega)];exact bm3
  have bl4:aa nx.succ (au bF (some (.cells (X.dec i) .fix)) h3)=some (.cells [I 200,I 50] .fix):=by rw[e4.g nx.succ (by omega)];exact bl3
  generalize au bF (some (.cells (X.dec i) .fix)) h3=h4 at *
  simp[Ba]
  have K4:cO.aN=true∧cO.cells=[cO]:=hc.cell
  have hcz:∀ n H,aO n cO H=(cO,H):=fun n H=>hc.D3 n H
  simp[Bb,bm4,bl4,K4.1,K4.2,hcz]
  have e5:=E0 h4 bF.succ (.cells (jB X i cO ⟨0,0,[]⟩ 0) .fix)
  have ejB:jB X i cO ⟨0,0,[]⟩ 0=[.sl X.rows 7 45 .any,dO i,cO,I 200,I 50,I 0,I 0,I 0,.str 0 0,.nils,I 0]:=rfl
  rw[ejB] at e5
  have s5:=kTSu bF.succ
  have bj5:aa bF.succ (au bF.succ (some (.cells [.sl X.rows 7 45 .any,dO i,cO,I 200,I 50,I 0,I 0,I 0,.str 0 0,.nils,I 0] .fix)) h4)=some (.cells (jB X i cO ⟨0,0,[]⟩ 0) .fix):=by rw[gTSm];rfl
  have bm5:aa nx (au bF.succ (some (.cells [.sl X.rows 7 45 .any,dO i,cO,I 200,I 50,I 0,I 0,I 0,.str 0 0,.nils,I 0] .fix)) h4)=some (.cells [.sl X.rows 7 45 .any] .fix):=by rw[e5.g nx (by omega)];exact bm4
  have bl5:aa nx.succ (au bF.succ (some (.cells [.sl X.rows 7 45 .any,dO i,cO,I 200,I 50,I 0,I 0,I 0,.str 0 0,.nils,I 0] .fix)) h4)=some (.cells [I 200,I 50] .fix):=by rw[e5.g nx.succ (by omega)];exact bl4
  have bd5:aa bF (au bF.succ (some (.cells [.sl X.rows 7 45 .any,dO i,cO,I 200,I 50,I 0,I 0,I 0,.str 0 0,.nils,I 0] .fix)) h4)=some (.cells (X.dec i) .fix):=by rw[e5.g bF (by omega)];exact bd4
  have e25:=(Ph.trans e4).trans e5
  generalize au bF.succ (some (.cells [.sl X.rows 7 45 .any,dO i,cO,I 200,I 50,I 0,I 0,I 0,.str 0 0,.nils,I 0] .fix)) h4=h5 at *
  have main:∀ tm5:T AV,aa (K 41) tm5=some cO→aa (K 42) tm5=some (I (cU 0 l).length)→aa (K 43) tm5=some (I 0)→aa (K 1) tm5=some (dO i)→aa (K 4) tm5=some (.ptr nx 0)→aa (K 7) tm5=some (.ptr nx.succ 0)→aa (K 10) tm5=some cO→aa (K 12) tm5=some (.ptr bF 0)→aa (K 14) tm5=some (.ptr bF.succ 0)→
    W C (.loop mJ) (al 0 (av (eP C (.seq (.ops qt) (.seq (.seq (.ops qu) (.cond (.t (K 86)) (.seq (.ops yT) .ret) .skip)) (.seq (.ops qv) (.seq (.ops qw) .ret)))) (bB [.tmp (K 8),.tmp (K 9)] (axZ (fun cO=>jB X i cO (cd i) (jV (cU 0 l) (cU 0 l).length)) i l h nx))) (bB [.tmp (K 8),.tmp (K 9)] (axZ (fun cO=>jB X i cO (cd i) (jV (cU 0 l) (cU 0 l).length)) i l h nx)))) tm5 h5 bF.succ.succ:=by
   intro tm5 q41 q42 q43 q1 q4 q7 Sk q12 q14
   refine auT S hi rW hc (h:=h) (n0:=nx) (bm:=nx) (bl:=nx.succ) (bd:=bF) (bj:=bF.succ) (m:=(cU 0 l).length) ⟨0,by simp,by omega,q41,q42,by simpa using q43,⟨q1,q4,q7,Sk,q12,q14,bm5,bl5,bd5,bj5,by omega,by omega,?_⟩,e25,rfl⟩ ?_ ?_
   ·refine⟨?_,?_,?_⟩<;>(intro e;have:=congrArg Key.toNat e;omega)
   ·intro tm' h' nx' a8 a9 bU e'
    simp[a8,a9]
    exact⟨e',.inl ⟨by rw[hcb];exact bU,by rw[hcb]⟩⟩
   ·rintro tm' h' nx' ⟨a1,a4,a7,a10,a12,a14,bm',bl',bd',bj',lt,ge,ne⟩ e' JE
    simp
    simp[qt,a1,a4,a7,bm',bl',rI]
    refine aI.known (S.aox i hi _ _) ?_
    obtain⟨k,n,x4⟩:=OB i
    have es:eS (cd i)=[I k,I n,.str 0 0,.nils]:=by rw[x4];rfl
    have s6:=kTSu nx'
    simp[es]
    have bj6:aa bF.succ (au nx' (some (.cells [I k,I n,.str 0 0,.nils] .fix)) h')=some (.cells (jB X i cO ⟨0,0,[]⟩ (jV (cU 0 l) (cU 0 l).length)) .fix):=by rw[ax lt.2.2.2];exact bj'
    simp[qu]
    simp[qv,a14,bj6,jB]
    simp[qw,a14]
    refine⟨?_,.inr ⟨by rw[hcb];exact JE,bF.succ,cO,rfl,?_,hc,by omega,by omega⟩⟩
    ·exact⟨by have:=e'.n;omega,fun b hb=>by rw[ax (by omega),ax (by have:=e'.n;omega)];exact e'.g b hb⟩
    ·simp[jB,x4,aC]
  rcases id hc with⟨ec,eo⟩|ec
  ·have hl0:(cU 0 l).length=0:=by rw[eo];rfl
   have aL2:((cU 0 l).length:Int)=0:=by omega
   rw[aL2] at main
   simp[sH,ec]
   refine main _ ?_ ?_ ?_ ?_ ?_ ?_ ?_ ?_ ?_<;>simp[ec]
  ·simp[sH,ec]
   refine main _ ?_ ?_ ?_ ?_ ?_ ?_ ?_ ?_ ?_<;>simp[ec]
 ·have bU:iM (bk [] l)≠0:=by
   unfold iM
   split<;>first|exact absurd ‹_› Po|decide
  have hcb:nw i l=iM (bk [] l):=by unfold nw;rw[if_neg Po]
  simp[sG,bq bU]
  simp[Bc]
  exact⟨Ph,.inl ⟨by rw[hcb];exact bU,by rw[hcb]⟩⟩
end Ln
/-
 LN: a history that is judged: the reference. No condition.
-/
namespace Ln
open Go.Sx Go
def ED(i:Nat)(name:Nat×Nat)(n:Nat):Int:=match kD i name with
 |none=>6
 |some c=>if n=c.ar then 0 else 1
def EE:List AV:=[.str 0 0,.nils,I 0,.str 0 0,I 0,.nils,.nils,.nils,I 0,I 0,.str 0 0,I 0,.nils,.nils,.nils,I 0,I 0,.str 0 0,I 0,.nils,.nils,.nils,I 0]
theorem aFo(i:Nat)(name:Nat×Nat):(∃ (t:Nat) (ht:t<(az i).length),AL i name=t∧kD i name=some (az i)[t])∨(AL i name=-1∧kD i name=none):=by
 unfold AL kD
 cases hf:(az i).findIdx? (fun c=>c.name==name) with
 |none=>
  rw[List.findIdx?_eq_none_iff] at hf
  exact .inr ⟨rfl,List.find?_eq_none.2 (fun c hc=>by simpa using hf c hc)⟩
 |some t=>
  rw[List.findIdx?_eq_some_iff_getElem] at hf
  obtain⟨ht,h1,h2⟩:=hf
  refine .inl ⟨t,ht,rfl,?_⟩
  rw[List.find?_eq_some_iff_getElem]
  exact⟨h1,t,ht,rfl,fun s hs=>by simpa using h2 s hs⟩
variable{C:cD}{X:Kn}(S:Std C X)
include S
theorem aLz{i:Nat}(hi:i<3)(H:T ag):bY (aO 9998) (X.dec i) H=(X.dec i,H):=dj (S.ok.aKZ i hi)
def aug(i:Nat)(name:Nat×Nat)(n:Nat)(o:Out):Prop:=∃ c,o=.ret (.tuple [.agg c,I (ED i name n)])∧c.length=23∧c.all AV.aN=true
theorem apT{i:Nat}(hi:i<3)(name:Nat×Nat)(n:Nat):RY C nW [X.m,dO i,.str name.1 name.2,I n] (aug i name n):=by
 intro h nx
 have s1:=kTSu nx
 have s2:=kTSu nx.succ
 have s3:=kTSu nx.succ.succ
 have rD:C.raw n8=false:=S.nr (by decide)
 have rC:C.raw jx=false:=S.nr (by decide)
 have d45:=S.ok.Vz i hi
 have dC:(X.dec i).all AV.aN=true:=vV.2 (S.ok.axg i hi)
 have dt:List.drop 45 (X.dec i)=[]:=List.drop_eq_nil_of_le (by omega)
 have dk:List.take 45 (X.dec i)=X.dec i:=Pu (by omega)
 have d36:=S.ok.atv i hi
 have yq:∀ hh,(X.dec i)[36]'hh=atN X i:=fun hh=>by
  have q:=Pe hh
  rw[d36] at q;exact(Option.some.inj q).symm
 refine S.HU.call ?_
 simp[FL]
 simp[EF,Kn.m]
 have e2:=(E0 h nx (.cells [.sl X.rows 7 45 .any] .fix)).trans (E0 _ nx.succ (.cells EE .fix))
 have bm2:aa nx (au nx.succ (some (.cells EE .fix)) (au nx (some (.cells [.sl X.rows 7 45 .any] .fix)) h))=some (.cells [.sl X.rows 7 45 .any] .fix):=by rw[ax (by omega)];simp
 have br2:aa nx.succ (au nx.succ (some (.cells EE .fix)) (au nx (some (.cells [.sl X.rows 7 45 .any] .fix)) h))=some (.cells EE .fix):=by simp
 unfold EE at e2 bm2 br2
 generalize hH:au nx.succ _ (au nx (some (.cells [.sl X.rows 7 45 .any] .fix)) h)=h2 at *
 simp[EG,bm2,rD]
 refine aI.known (S.z9 i hi _ _) ?_
 simp[d45,dC,dt]
 have e3:=E0 h2 nx.succ.succ (.cells (X.dec i) .fix)
 have bd3:aa nx.succ.succ (au nx.succ.succ (some (.cells (X.dec i) .fix)) h2)=some (.cells (X.dec i) .fix):=by simp
 have br3:aa nx.succ (au nx.succ.succ (some (.cells (X.dec i) .fix)) h2)=some (.cells EE .fix):=by rw[e3.g nx.succ (by omega)];exact br2
 generalize au nx.succ.succ (some (.cells (X.dec i) .fix)) h2=h3 at *
 simp[EH,bd3,d45,dk,rC,aLz S hi]
 refine(akQ S hi name _ _).mono ?_
 rintro o h4 DE ⟨rfl,e4⟩
 have bd4:aa nx.succ.succ h4=some (.cells (X.dec i) .fix):=by rw[e4.g nx.succ.succ (by omega)];exact bd3
 have br4:aa nx.succ h4=some (.cells EE .fix):=by rw[e4.g nx.succ (by omega)];exact br3
 have e24:=(e2.trans e3).trans e4
 simp
 have fin:∀ (c:List AV),Ext h nx (au nx.succ (some (.cells c .fix)) h4) DE:=fun c=>e24.put (by omega)
 unfold EE at br4
 rcases aFo i name with⟨t,ht,hx,hc⟩|⟨hx,hc⟩
 ·have hx0:¬ (t:Int)<0:=by omega
  have h1:=S.ok.aET i hi t _ (Pe ht)
  have ecr:=L1 S ht
  have hlr:=L2 S (i:=i)
  have hl:=(S.ok.P2 i).len t
  have K4:(X.cmd i t).all AV.aN=true:=vV.2 ((S.ok.P2 i).cell t)
  have aFp:List.take 23 (X.cmd i t)=X.cmd i t:=Pu (by omega)
  have aFq:List.drop 23 (X.cmd i t)=[]:=List.drop_eq_nil_of_le (by omega)
  have t23:23≤(az i).length*23-t*23:=by omega
  have QN:ED i name n=if n=(az i)[t].ar then 0 else 1:=by unfold ED;rw[hc]
  generalize (az i)[t]=c at *
  obtain⟨d,hd,hD⟩:=h1
  have DY:∀ hh,(X.cmd i t)[1]'hh=d:=fun hh=>by
   have q:=Pe hh
   rw[hd] at q;exact(Option.some.inj q).symm
  simp[xo,hx,hx0]
  have DH:n=c.ar→aug i name n (.ret (.tuple [.agg (X.cmd i t),I 0])):=fun e=>⟨_,by rw[QN,if_pos e],hl,K4⟩
  have bad:n≠c.ar→aug i name n (.ret (.tuple [.agg EE,I 1])):=fun e=>⟨_,by rw[QN,if_neg e],rfl,rfl⟩
  unfold EE at bad
  rcases hD with⟨rfl,hk0⟩|⟨ld,z,rfl⟩
  ·by_cases hn:n=0
   ·subst hn
    simp[my,bd4,yq,d45,ht,hlr,t23,ecr,hl,DY]
    simp[xp,bd4,br4,yq,d45,ht,hlr,t23,ecr,hl,aFp,K4,aFq,aBE S]
    exact⟨DH (by omega),fin _⟩
   ·have JE:((0:Int)==(n:Int))=false:=bq (by omega)
    simp[my,bd4,yq,d45,ht,hlr,t23,ecr,hl,DY,JE]
    simp[xq,br4]
    exact⟨bad (by omega),fin _⟩
  ·by_cases hn:c.ar=n
   ·simp[my,bd4,yq,d45,ht,hlr,t23,ecr,hl,DY,hn]
    simp[xp,bd4,br4,yq,d45,ht,hlr,t23,ecr,hl,aFp,K4,aFq,aBE S]
    exact⟨DH (by omega),fin _⟩
   ·have JE:((c.ar:Int)==(n:Int))=false:=bq (by omega)
    simp[my,bd4,yq,d45,ht,hlr,t23,ecr,hl,DY,JE]
    simp[xq,br4]
    exact⟨bad (by omega),fin _⟩
 ·have QN:ED i name n=6:=by unfold ED;rw[hc]
  simp[xo,hx]
  simp[EI,br4]
  exact⟨⟨_,by rw[QN],rfl,rfl⟩,fin _⟩
end Ln
/-
 LN: a history that is judged: the reference, all of it. No condition.
-/
namespace Ln
open Go.Sx Go
def wB(X:Kn)(i:Nat)(cO:AV)(s:St):List AV:=[.sl X.rows 7 45 .any,dO i,I 200,I 50,cO,I s.k,I s.n,.str 0 0,aC s.kids]
theorem arw(i:Nat)(o:Op)(l:List Op):jR i (o ::l)=if ED i o.name o.args.length=0 then jR i l else ED i o.name o.args.length:=by
 show(match kD i o.name with|none=>6|some c=>if o.args.length=c.ar then jR i l else 1)=_
 unfold ED
 cases kD i o.name with
 |none=>rfl
 |some c=>
  simp only
  by_cases h:o.args.length=c.ar
  ·rw[if_pos h,if_pos h,if_pos rfl]
  ·rw[if_neg h,if_neg h,if_neg (by decide)]
variable{C:cD}{X:Kn}(S:Std C X)
include S
def StL(X:Kn)(i:Nat)(os:List Op)(cO:AV)(bm bl n0:Key)(h:T ag)(m:Nat)(tm':T AV)(h':T ag)(nx':Key):Prop:=∃ j:Nat,m=os.length-j∧j≤os.length∧aa (K 1) tm'=some (dO i)∧aa (K 4) tm'=some (.ptr bm 0)∧aa (K 7) tm'=some (.ptr bl 0)∧aa (K 10) tm'=some cO∧aa (K 14) tm'=some (I j)∧
 aa bm h'=some (.cells [.sl X.rows 7 45 .any] .fix)∧aa bl h'=some (.cells [I 200,I 50] .fix)∧bm.toNat<nx'.toNat∧bl.toNat<nx'.toNat∧Ext h n0 h' nx'∧jR i os=jR i (os.drop j)
theorem Ty{i:Nat}(hi:i<3){os:List Op}(ho:os.length≤16){cO:AV}(hc:jN 10 eO cO os){bm bl n0:Key}{h:T ag}{Q:dN}{m:Nat}{tm:T AV}{h1:T ag}{bN:Key}(A:StL X i os cO bm bl n0 h m tm h1 bN)
  (oW:∀ tm' h' nx',aa (K 8) tm'=some .nilp→aa (K 9) tm'=some (I (jR i os))→jR i os≠0→Ext h n0 h' nx'→Q .ret tm' h' nx')
  (eK:∀ tm' h' nx',StL X i os cO bm bl n0 h 0 tm' h' nx'→jR i os=0→Q .norm tm' h' nx') :
  W C (.loop vC) (al 0 Q) tm h1 bN:=by
 have rF:C.raw nW=false:=S.nr (by decide)
 refine W.dQ (StL X i os cO bm bl n0 h) A ?_
 rintro m dn h2 aH ⟨j,rfl,hj,g1,g4,g7,DQ,E9,bm2,bl2,ltm,ltl,e2,nq⟩
 refine W.of ?_
 simp[vC]
 by_cases bz:j<os.length
 ·have uA:(j:Int)<os.length:=by omega
  have Cr:cO=.sl (aj eO os) os.length 10 .any:=by
   rcases hc with⟨_,rfl⟩|e
   ·simp at bz
   ·exact e
  have Lt:=DQ
  rw[Cr] at Lt
  have ec:=ep.at bz
  have hr:=ep.rows os
  have tx:10≤os.length*10-j*10:=by omega
  have s2:=kTSu aH
  rw[zqt bz,arw] at nq
  have hA:(aC os[j].args=.nils∧os[j].args.length=0)∨∃ l,aC os[j].args=.sl l os[j].args.length 4 .any:=by
   cases os[j].args with
   |nil=>exact .inl ⟨rfl,rfl⟩
   |cons a t=>exact .inr ⟨_,rfl⟩
  generalize os[j]=o at *
  simp[ou,Lt,E9,uA]
  have fin:∀ (ay:T AV) (h3:T ag) (bF:Key),(∀ k:Key,k=K 1∨k=K 4∨k=K 7∨k=K 10∨k=K 14→aa k ay=aa k dn)→aa (K 16) ay=some (I (ED i o.name o.args.length))→Ext h2 aH h3 bF→
    mX C (av (eP C (.cond (.t (K 59)) (.seq (.ops sR) .ret) .skip) (al 1 (av (eP C (.ops mK) (av (fun tm h' nx'=>∃ m,m<os.length-j∧StL X i os cO bm bl n0 h m tm h' nx') (al 0 Q))) (av (fun tm h' nx'=>∃ m,m<os.length-j∧StL X i os cO bm bl n0 h m tm h' nx') (al 0 Q))))) (al 1 (av (eP C (.ops mK) (av (fun tm h' nx'=>∃ m,m<os.length-j∧StL X i os cO bm bl n0 h m tm h' nx') (al 0 Q))) (av (fun tm h' nx'=>∃ m,m<os.length-j∧StL X i os cO bm bl n0 h m tm h' nx') (al 0 Q))))) mL ay h3 bF:=by
   intro ay h3 bF q q16 e3
   have n3:=e3.n
   by_cases Af:ED i o.name o.args.length=0
   ·rw[if_pos Af] at nq
    rw[Af] at q16
    have q14:=(q (K 14) (by simp)).trans E9
    simp[mL,q16]
    simp[mK,q14]
    rw[aq (by omega) (by omega)]
    refine⟨os.length-(j+1),by omega,j+1,rfl,by omega,?_,?_,?_,?_,by simp,by rw[e3.g bm ltm];exact bm2,by rw[e3.g bl ltl];exact bl2,by omega,by omega,?_,nq⟩
    ·simp;exact(q (K 1) (by simp)).trans g1
    ·simp;exact(q (K 4) (by simp)).trans g4
    ·simp;exact(q (K 7) (by simp)).trans g7
    ·simp;exact(q (K 10) (by simp)).trans DQ
    ·exact e2.trans e3
   ·rw[if_neg Af] at nq
    simp[mL,q16,bq Af]
    simp[sR,q16]
    refine oW _ _ _ ?_ ?_ (by rw[nq];exact Af) (e2.trans e3)
    ·simp
    ·simp[nq]
  have ext:∀ (c:List AV) (h3:T ag) (bF:Key),Ext h2 aH.succ h3 bF→Ext h2 aH (au aH (some (.cells c .fix)) h3) bF:=fun c h3 bF e3=>⟨by have:=e3.n;omega,fun b hb=>by rw[ax hb];exact e3.g b (by omega)⟩
  rcases hA with⟨ea,hn⟩|⟨la,ea⟩
  ·have ff:=apT S hi o.name 0 h2 aH.succ
   simp[Kn.m] at ff
   rw[hn] at fin
   simp[vD,g1,g4,Lt,E9,bm2,bz,hr,tx,ec,eO,ea,rF]
   refine ff.mono ?_
   rintro out h3 bF ⟨⟨c,rfl,aCe,K4⟩,e3⟩
   have hcd:List.drop 23 c=[]:=List.drop_eq_nil_of_le (by omega)
   simp[aCe,K4]
   refine fin _ _ _ ?_ ?_ (ext c h3 bF e3)
   ·rintro k (rfl|rfl|rfl|rfl|rfl)<;>simp
   ·simp
  ·have ff:=apT S hi o.name o.args.length h2 aH.succ
   simp[Kn.m] at ff
   simp[vD,g1,g4,Lt,E9,bm2,bz,hr,tx,ec,eO,ea,rF]
   refine ff.mono ?_
   rintro out h3 bF ⟨⟨c,rfl,aCe,K4⟩,e3⟩
   have hcd:List.drop 23 c=[]:=List.drop_eq_nil_of_le (by omega)
   simp[aCe,K4]
   refine fin _ _ _ ?_ ?_ (ext c h3 bF e3)
   ·rintro k (rfl|rfl|rfl|rfl|rfl)<;>simp
   ·simp
 ·have qL:j=os.length:=by omega
  subst qL
  rw[List.drop_length] at nq
  have fin:∀ ay:T AV,aa (K 1) ay=aa (K 1) dn→aa (K 4) ay=aa (K 4) dn→aa (K 7) ay=aa (K 7) dn→aa (K 10) ay=aa (K 10) dn→aa (K 14) ay=aa (K 14) dn→Q .norm ay h2 aH:=fun ay a b c d e=>eK _ _ _ ⟨os.length,by omega,by omega,a.trans g1,b.trans g4,c.trans g7,d.trans DQ,e.trans E9,bm2,bl2,ltm,ltl,e2,by rw[nq,List.drop_length]⟩ nq
  rcases id hc with⟨e0,e1⟩|e0
  ·have Lt:=DQ
   rw[e0] at Lt
   have:(os.length:Int)=0:=by rw[e1];rfl
   simp[ou,Lt,E9,this]
   refine fin _ ?_ ?_ ?_ ?_ ?_<;>simp[Lt,E9,this]
  ·have Lt:=DQ
   rw[e0] at Lt
   simp[ou,Lt,E9]
   refine fin _ ?_ ?_ ?_ ?_ ?_<;>simp[Lt,E9]
theorem UD{i:Nat}(hi:i<3){ev:AV}{l:List Ev}(hv:jN 8 eE ev l)(hl:Few l){h:T ag}{nx:Key}:aI C gT [X.m,dO i,ev,kj] h nx (axZ (fun cO=>wB X i cO (cd i)) i l h nx):=by
 have s1:=kTSu nx
 have s2:=kTSu nx.succ
 have rO:C.raw rm=false:=S.nr (by decide)
 have rD:C.raw n8=false:=S.nr (by decide)
 have rI:C.raw z8=false:=S.nr (by decide)
 have hz:∀ H,aO 9999 ev H=(ev,H):=fun H=>hv.D3 _ _
 have rW:(cU 0 l).length≤16:=by have:=qW l 0;have:=hl.len;omega
 refine S.EB.call ?_
 simp[CS]
 simp[De,Kn.m,kj]
 have e2:=(E0 h nx (.cells [.sl X.rows 7 45 .any] .fix)).trans (E0 _ nx.succ (.cells [I 200,I 50] .fix))
 have bm2:aa nx (au nx.succ (some (.cells [I 200,I 50] .fix)) (au nx (some (.cells [.sl X.rows 7 45 .any] .fix)) h))=some (.cells [.sl X.rows 7 45 .any] .fix):=by rw[ax (by omega)];simp
 have bl2:aa nx.succ (au nx.succ (some (.cells [I 200,I 50] .fix)) (au nx (some (.cells [.sl X.rows 7 45 .any] .fix)) h))=some (.cells [I 200,I 50] .fix):=by simp
 generalize au nx.succ (some (.cells [I 200,I 50] .fix)) (au nx (some (.cells [.sl X.rows 7 45 .any] .fix)) h)=h2 at *
 simp[Df,rO,hz]
 refine(awe S hv hl _ _).mono ?_
 rintro o h3 bF ⟨⟨cO,rfl,hc⟩,e3⟩
 have Ph:=e2.trans e3
 have bm3:aa nx h3=some (.cells [.sl X.rows 7 45 .any] .fix):=by rw[e3.g nx (by omega)];exact bm2
 have bl3:aa nx.succ h3=some (.cells [I 200,I 50] .fix):=by rw[e3.g nx.succ (by omega)];exact bl2
 have n3:=e3.n
 simp
 by_cases Po:bk [] l=0
 ·rw[if_pos Po] at hc
  have hcb:nw i l=jR i (cU 0 l):=by unfold nw;rw[if_pos Po]
  simp[vE,Po,iM]
  have d45:=S.ok.Vz i hi
  have dC:(X.dec i).all AV.aN=true:=vV.2 (S.ok.axg i hi)
  simp[Dg,bm3,rD]
  refine aI.known (S.z9 i hi _ _) ?_
  have s3:=kTSu bF
  simp[d45,dC]
  have dt:List.drop 45 (X.dec i)=[]:=List.drop_eq_nil_of_le (by omega)
  have e4:=E0 h3 bF (.cells (X.dec i) .fix)
  have bm4:aa nx (au bF (some (.cells (X.dec i) .fix)) h3)=some (.cells [.sl X.rows 7 45 .any] .fix):=by rw[e4.g nx (by omega)];exact bm3
  have bl4:aa nx.succ (au bF (some (.cells (X.dec i) .fix)) h3)=some (.cells [I 200,I 50] .fix):=by rw[e4.g nx.succ (by omega)];exact bl3
  have e24:=Ph.trans e4
  generalize au bF (some (.cells (X.dec i) .fix)) h3=h4 at *
  have K4:cO.aN=true∧cO.cells=[cO]:=hc.cell
  have hcz:∀ n H,aO n cO H=(cO,H):=fun n H=>hc.D3 n H
  simp[Dh]
  simp[Di]
  refine Ty S hi rW hc (h:=h) (n0:=nx) (bm:=nx) (bl:=nx.succ) (m:=(cU 0 l).length) ⟨0,by simp,by omega,by simp,by simp,by simp,by simp,by simp,bm4,bl4,by omega,by omega,e24,rfl⟩ ?_ ?_
  ·intro tm' h' nx' a8 a9 bU e'
   simp[a8,a9]
   exact⟨e',.inl ⟨by rw[hcb];exact bU,by rw[hcb]⟩⟩
  ·rintro tm' h' nx' ⟨j,_,_,a1,a4,a7,a10,a14,bm',bl',ltm,ltl,e',_⟩ JE
   simp
   simp[Bp,a1,a4,a7,bm',bl',rI]
   refine aI.known (S.aoy i hi _ _) ?_
   obtain⟨k,n,x4⟩:=OB i
   have es:eS (cd i)=[I k,I n,.str 0 0,.nils]:=by rw[x4];rfl
   have s6:=kTSu nx'
   have s7:=kTSu nx'.succ
   simp[es]
   have bm6:aa nx (au nx' (some (.cells [I k,I n,.str 0 0,.nils] .fix)) h')=some (.cells [.sl X.rows 7 45 .any] .fix):=by rw[ax ltm];exact bm'
   have bl6:aa nx.succ (au nx' (some (.cells [I k,I n,.str 0 0,.nils] .fix)) h')=some (.cells [I 200,I 50] .fix):=by rw[ax ltl];exact bl'
   simp[Bq]
   simp[Br,a1,a4,a7,a10,bm6,bl6,K4.1,K4.2,hcz]
   refine⟨?_,.inr ⟨by rw[hcb];exact JE,nx'.succ,cO,rfl,?_,hc,by have:=e'.n;omega,by omega⟩⟩
   ·exact⟨by have:=e'.n;omega,fun b hb=>by rw[ax (by have:=e'.n;omega),ax (by have:=e'.n;omega)];exact e'.g b hb⟩
   ·simp[wB,x4,aC]
 ·have bU:iM (bk [] l)≠0:=by
   unfold iM
   split<;>first|exact absurd ‹_› Po|decide
  have hcb:nw i l=iM (bk [] l):=by unfold nw;rw[if_neg Po]
  simp[vE,bq bU]
  simp[Dj]
  exact⟨Ph,.inl ⟨by rw[hcb];exact bU,by rw[hcb]⟩⟩
end Ln
/-
 LN: a call takes place: the program. No condition.
-/
namespace Ln
open Go.Sx Go
theorem aKM(s:St):∀ y∈eS s,Sg y:=by
 intro y hy
 simp[eS] at hy
 rcases hy with rfl|rfl|rfl|rfl
 ·exact dS _ _
 ·exact dS _ _
 ·exact qK _ _
 ·exact dp _
theorem GG(s:St)(H:T ag):bY (aO 9998) (eS s) H=(eS s,H):=dj (aKM s)
theorem Kb(s:St):(eS s).all AV.aN=true:=by simp[eS,(aZ s.kids).1]
theorem lenS(s:St):(eS s).length=4:=rfl
theorem Ei(s:St):List.take 4 (eS s)=eS s:=rfl
theorem anA(s:St):List.drop 4 (eS s)=[]:=rfl
def aqN(X:Kn)(c:gQ)(o:Op)(s:St)(out:Out):Prop:=∃ u:St,out=.ret (.tuple [.agg (eS u),.bool (X.take c o s).isSome])∧∀ t,X.take c o s=some t→u=t
structure akG(mi:Nat)(os:List Op)(x:Nat)(o:Op)(c:gQ):Prop where
 get:os[x]?=some o
 name:o.name=c.name
 ar:o.args.length=c.ar
 tN:c.tN=mi
variable{C:cD}{X:Kn}(S:Std C X)
include S
theorem atg{mi:Nat}{os:List Op}{cO:AV}(hc:jN 10 eO cO os){x:Nat}{o:Op}{c:gQ}(hx:akG mi os x o c){s s0:St}(hs:dR mi s){e:Nat}{h:T ag}{nx bj:Key}(hb:aa bj h=some (.cells (jB X mi cO s0 e) .fix))(Iq:bj.toNat<nx.toNat) :
  aI C ez [.ptr bj 0,I x,.agg (eS s)] h nx (fun out h' nx'=>aqN X c o s out∧Ext h nx h' nx'):=by
 obtain⟨hxo,hn,Ka,rfl⟩:=hx
 obtain⟨hxl,hox⟩:=List.getElem?_eq_some_iff.1 hxo
 have s1:=kTSu nx
 have s2:=kTSu nx.succ
 have s3:=kTSu nx.succ.succ
 have rC:C.raw Cx=false:=S.nr (by decide)
 have rH:C.raw w9=false:=S.nr (by decide)
 have rN:C.raw zH=false:=S.nr (by decide)
 have Cr:cO=.sl (aj eO os) os.length 10 .any:=by
  rcases hc with⟨_,rfl⟩|e
  ·simp at hxl
  ·exact e
 subst Cr
 have ec:=ep.at hxl
 have hr:=ep.rows os
 have tx:10≤os.length*10-x*10:=by omega
 have KP:(eO os[x]).all AV.aN=true:=vV.2 (ep.cell _)
 rw[hox] at ec KP
 have scC:=S.ath c s o.args hs Ka
 have scH:=S.Vw c s o.args o.res hs Ka
 have scN:=S.anD c s o.args o.res hs Ka
 have Hs:X.take c o s=if X.Mp c s o.args≠0∨X.Mo c s o.args=false then none
  else if 0≤o.e∧(X.pF c s o.args o.res≠0∨X.pE c s o.args o.res=false) then none
  else if X.uy c s o.args o.res≠0 then none else some (X.rh c s o.args o.res):=rfl
 refine S.py.call ?_
 simp[lX]
 simp[nL,Kb,lenS]
 have e2:=(E0 h nx (.cells (eS s) .fix)).trans (E0 _ nx.succ (.cells [I 0,I 0,.str 0 0,.nils] .fix))
 have bs2:aa nx (au nx.succ (some (.cells [I 0,I 0,.str 0 0,.nils] .fix)) (au nx (some (.cells (eS s) .fix)) h))=some (.cells (eS s) .fix):=by rw[ax (by omega)];simp
 have b62:aa nx.succ (au nx.succ (some (.cells [I 0,I 0,.str 0 0,.nils] .fix)) (au nx (some (.cells (eS s) .fix)) h))=some (.cells [I 0,I 0,.str 0 0,.nils] .fix):=by simp
 have Ux:aa bj (au nx.succ (some (.cells [I 0,I 0,.str 0 0,.nils] .fix)) (au nx (some (.cells (eS s) .fix)) h))=some (.cells (jB X c.tN (.sl (aj eO os) os.length 10 .any) s0 e) .fix):=by rw[e2.g bj Iq];exact hb
 generalize au nx.succ (some (.cells [I 0,I 0,.str 0 0,.nils] .fix)) (au nx (some (.cells (eS s) .fix)) h)=h2 at *
 simp[nM,Ux,jB,hxl,hr,tx,ec,Kc,S8,KP]
 have e3:=E0 h2 nx.succ.succ (.cells (eO o) .fix)
 have bo3:aa nx.succ.succ (au nx.succ.succ (some (.cells (eO o) .fix)) h2)=some (.cells (eO o) .fix):=by simp
 have bs3:aa nx (au nx.succ.succ (some (.cells (eO o) .fix)) h2)=some (.cells (eS s) .fix):=by rw[e3.g nx (by omega)];exact bs2
 have b63:aa nx.succ (au nx.succ.succ (some (.cells (eO o) .fix)) h2)=some (.cells [I 0,I 0,.str 0 0,.nils] .fix):=by rw[e3.g nx.succ (by omega)];exact b62
 have Sj:aa bj (au nx.succ.succ (some (.cells (eO o) .fix)) h2)=some (.cells (jB X c.tN (.sl (aj eO os) os.length 10 .any) s0 e) .fix):=by rw[e3.g bj (by omega)];exact Ux
 have Ph:=e2.trans e3
 generalize au nx.succ.succ (some (.cells (eO o) .fix)) h2=h3 at *
 have af:∀ n H,aO n (aC o.args) H=(aC o.args,H):=dp _
 have done:∀ (c6:List AV),Ext h nx (au nx.succ (some (.cells c6 .fix)) h3) nx.succ.succ.succ:=fun c6=>Ph.put (by omega)
 simp[nN,Sj,jB,bo3,bs3,eO,hn,rC,Ei,lenS,GG,af]
 refine aI.known (scC _ _) ?_
 simp
 have tU:X.take c o s=none→aqN X c o s (.ret (.tuple [.agg [I 0,I 0,.str 0 0,.nils],.bool false])):=fun e=>⟨⟨0,0,[]⟩,by rw[e];rfl,by rw[e];simp⟩
 by_cases h1:X.Mp c s o.args=0
 ·cases h2:X.Mo c s o.args with
  |false=>
   have ht:X.take c o s=none:=by rw[Hs,if_pos (.inr h2)]
   simp[fm,h1]
   simp[iX,b63]
   exact⟨tU ht,done _⟩
  |true=>
   have kC:X.take c o s=if 0≤o.e∧(X.pF c s o.args o.res≠0∨X.pE c s o.args o.res=false) then none else if X.uy c s o.args o.res≠0 then none else some (X.rh c s o.args o.res):=by
    rw[Hs,if_neg];rw[h1,h2];simp
   have s4:=kTSu nx.succ.succ.succ
   simp[fm,h1]
   have last:∀ ay:T AV,aa (K 0) ay=some (.ptr bj 0)→aa (K 5) ay=some (.ptr nx 0)→aa (K 6) ay=some (.ptr nx.succ 0)→aa (K 8) ay=some (.ptr nx.succ.succ 0)→(X.take c o s=if X.uy c s o.args o.res≠0 then none else some (X.rh c s o.args o.res))→
     eP C (.seq (.staged iY ⟨[K 83,K 84,K 85,K 86,K 87,K 88,K 89,K 90,K 91,K 92,K 93,K 94,K 95,K 96,K 97,K 98,K 99,K 100,K 101,K 102,K 82,K 103,K 104,K 13,K 10],[]⟩) (.seq (.ops iq) .ret)) (bB [.cell (K 6) true 4,.tmp (K 7)] fun out h' nx'=>aqN X c o s out∧Ext h nx h' nx') ay h3 nx.succ.succ.succ:=by
    intro ay q0 q5 q6 q8 ht
    simp
    simp[iY,q0,q5,q8,Sj,jB,bo3,bs3,eO,hn,rN,Ei,lenS,GG,af]
    refine aI.known (scN _ _) ?_
    simp[Kb,lenS,anA]
    have b64:aa nx.succ (au nx.succ.succ.succ (some (.cells (eS (X.rh c s o.args o.res)) .fix)) h3)=some (.cells [I 0,I 0,.str 0 0,.nils] .fix):=by rw[ax (by omega)];exact b63
    simp[iq,q6,b64,Kb,lenS,Ei,GG]
    refine⟨⟨X.rh c s o.args o.res,?_,?_⟩,?_⟩
    ·rw[ht]
     by_cases he:X.uy c s o.args o.res=0
     ·rw[if_neg (by simpa using he),bt he];rfl
     ·rw[if_pos he,bq he];rfl
    ·intro t hts
     rw[ht] at hts
     split at hts
     ·cases hts
     ·exact Option.some.inj hts
    ·exact⟨by have:=Ph.n;omega,fun b hb=>by rw[ax (by omega),ax (by omega)];exact Ph.g b hb⟩
   simp only[bp,bw] at last
   by_cases he:o.e<0
   ·rw[if_neg (by omega)] at kC
    simp[iZ,bo3,eO,he]
    refine last _ ?_ ?_ ?_ ?_ kC<;>simp
   ·simp[iZ,bo3,eO,he]
    simp[nP,Sj,jB,bo3,bs3,eO,hn,rH,Ei,lenS,GG,af]
    refine aI.known (scH _ _) ?_
    simp
    by_cases QM:X.pF c s o.args o.res=0
    ·cases h4:X.pE c s o.args o.res with
     |false=>
      rw[if_pos ⟨by omega,.inr h4⟩] at kC
      simp[fo,QM]
      simp[ja,b63]
      exact⟨tU kC,done _⟩
     |true=>
      rw[if_neg (by rw[QM,h4];simp)] at kC
      simp[fo,QM]
      refine last _ ?_ ?_ ?_ ?_ kC<;>simp
    ·rw[if_pos ⟨by omega,.inl QM⟩] at kC
     simp[fo,bq QM]
     simp[ja,b63]
     exact⟨tU kC,done _⟩
 ·have ht:X.take c o s=none:=by rw[Hs,if_pos (.inl h1)]
  simp[fm,bq h1]
  simp[iX,b63]
  exact⟨tU ht,done _⟩
end Ln
/-
 LN: a call takes place: the reference. No condition.
-/
namespace Ln
open Go.Sx Go
variable{C:cD}{X:Kn}(S:Std C X)
include S
theorem awt{mi:Nat}{os:List Op}{cO:AV}(hc:jN 10 eO cO os){x:Nat}{o:Op}{c:gQ}(hx:akG mi os x o c){s s0:St}(hs:dR mi s){h:T ag}{nx bj:Key}(hb:aa bj h=some (.cells (wB X mi cO s0) .fix))(Iq:bj.toNat<nx.toNat) :
  aI C ky [.ptr bj 0,I x,.agg (eS s)] h nx (fun out h' nx'=>aqN X c o s out∧Ext h nx h' nx'):=by
 obtain⟨hxo,hn,Ka,rfl⟩:=hx
 obtain⟨hxl,hox⟩:=List.getElem?_eq_some_iff.1 hxo
 have s1:=kTSu nx
 have s2:=kTSu nx.succ
 have s3:=kTSu nx.succ.succ
 have rC:C.raw CO=false:=S.nr (by decide)
 have rH:C.raw xb=false:=S.nr (by decide)
 have rN:C.raw zP=false:=S.nr (by decide)
 have Cr:cO=.sl (aj eO os) os.length 10 .any:=by
  rcases hc with⟨_,rfl⟩|e
  ·simp at hxl
  ·exact e
 subst Cr
 have ec:=ep.at hxl
 have hr:=ep.rows os
 have tx:10≤os.length*10-x*10:=by omega
 have KP:(eO os[x]).all AV.aN=true:=vV.2 (ep.cell _)
 rw[hox] at ec KP
 have scC:=S.atH c s o.args hs Ka
 have scH:=S.VK c s o.args o.res hs Ka
 have scN:=S.anQ c s o.args o.res hs Ka
 have Hs:X.take c o s=if X.Mp c s o.args≠0∨X.Mo c s o.args=false then none
  else if 0≤o.e∧(X.pF c s o.args o.res≠0∨X.pE c s o.args o.res=false) then none
  else if X.uy c s o.args o.res≠0 then none else some (X.rh c s o.args o.res):=rfl
 refine S.CP.call ?_
 simp[zQ]
 simp[AG,Kb,lenS]
 have e2:=(E0 h nx (.cells (eS s) .fix)).trans (E0 _ nx.succ (.cells [I 0,I 0,.str 0 0,.nils] .fix))
 have bs2:aa nx (au nx.succ (some (.cells [I 0,I 0,.str 0 0,.nils] .fix)) (au nx (some (.cells (eS s) .fix)) h))=some (.cells (eS s) .fix):=by rw[ax (by omega)];simp
 have b62:aa nx.succ (au nx.succ (some (.cells [I 0,I 0,.str 0 0,.nils] .fix)) (au nx (some (.cells (eS s) .fix)) h))=some (.cells [I 0,I 0,.str 0 0,.nils] .fix):=by simp
 have Ux:aa bj (au nx.succ (some (.cells [I 0,I 0,.str 0 0,.nils] .fix)) (au nx (some (.cells (eS s) .fix)) h))=some (.cells (wB X c.tN (.sl (aj eO os) os.length 10 .any) s0) .fix):=by rw[e2.g bj Iq];exact hb
 generalize au nx.succ (some (.cells [I 0,I 0,.str 0 0,.nils] .fix)) (au nx (some (.cells (eS s) .fix)) h)=h2 at *
 simp[AH,Ux,wB,hxl,hr,tx,ec,Kc,S8,KP]
 have e3:=E0 h2 nx.succ.succ (.cells (eO o) .fix)
 have bo3:aa nx.succ.succ (au nx.succ.succ (some (.cells (eO o) .fix)) h2)=some (.cells (eO o) .fix):=by simp
 have bs3:aa nx (au nx.succ.succ (some (.cells (eO o) .fix)) h2)=some (.cells (eS s) .fix):=by rw[e3.g nx (by omega)];exact bs2
 have b63:aa nx.succ (au nx.succ.succ (some (.cells (eO o) .fix)) h2)=some (.cells [I 0,I 0,.str 0 0,.nils] .fix):=by rw[e3.g nx.succ (by omega)];exact b62
 have Sj:aa bj (au nx.succ.succ (some (.cells (eO o) .fix)) h2)=some (.cells (wB X c.tN (.sl (aj eO os) os.length 10 .any) s0) .fix):=by rw[e3.g bj (by omega)];exact Ux
 have Ph:=e2.trans e3
 generalize au nx.succ.succ (some (.cells (eO o) .fix)) h2=h3 at *
 have af:∀ n H,aO n (aC o.args) H=(aC o.args,H):=dp _
 have done:∀ (c6:List AV),Ext h nx (au nx.succ (some (.cells c6 .fix)) h3) nx.succ.succ.succ:=fun c6=>Ph.put (by omega)
 simp[AI,Sj,wB,bo3,bs3,eO,hn,rC,Ei,lenS,GG,af]
 refine aI.known (scC _ _) ?_
 simp
 have tU:X.take c o s=none→aqN X c o s (.ret (.tuple [.agg [I 0,I 0,.str 0 0,.nils],.bool false])):=fun e=>⟨⟨0,0,[]⟩,by rw[e];rfl,by rw[e];simp⟩
 by_cases h1:X.Mp c s o.args=0
 ·cases h2:X.Mo c s o.args with
  |false=>
   have ht:X.take c o s=none:=by rw[Hs,if_pos (.inr h2)]
   simp[mF,h1]
   simp[so,b63]
   exact⟨tU ht,done _⟩
  |true=>
   have kC:X.take c o s=if 0≤o.e∧(X.pF c s o.args o.res≠0∨X.pE c s o.args o.res=false) then none else if X.uy c s o.args o.res≠0 then none else some (X.rh c s o.args o.res):=by
    rw[Hs,if_neg];rw[h1,h2];simp
   have s4:=kTSu nx.succ.succ.succ
   simp[mF,h1]
   have last:∀ ay:T AV,aa (K 0) ay=some (.ptr bj 0)→aa (K 5) ay=some (.ptr nx 0)→aa (K 6) ay=some (.ptr nx.succ 0)→aa (K 8) ay=some (.ptr nx.succ.succ 0)→(X.take c o s=if X.uy c s o.args o.res≠0 then none else some (X.rh c s o.args o.res))→
     eP C (.seq (.staged sq ⟨[K 84,K 85,K 86,K 87,K 88,K 89,K 90,K 91,K 92,K 93,K 94,K 95,K 96,K 97,K 98,K 99,K 100,K 101,K 102,K 103,K 83,K 104,K 105,K 13,K 14],[]⟩) (.seq (.ops qc) .ret)) (bB [.cell (K 6) true 4,.tmp (K 7)] fun out h' nx'=>aqN X c o s out∧Ext h nx h' nx') ay h3 nx.succ.succ.succ:=by
    intro ay q0 q5 q6 q8 ht
    simp
    simp[sq,q0,q5,q8,Sj,wB,bo3,bs3,eO,hn,rN,Ei,lenS,GG,af]
    refine aI.known (scN _ _) ?_
    simp[Kb,lenS,anA]
    have b64:aa nx.succ (au nx.succ.succ.succ (some (.cells (eS (X.rh c s o.args o.res)) .fix)) h3)=some (.cells [I 0,I 0,.str 0 0,.nils] .fix):=by rw[ax (by omega)];exact b63
    simp[qc,q6,b64,Kb,lenS,Ei,GG]
    refine⟨⟨X.rh c s o.args o.res,?_,?_⟩,?_⟩
    ·rw[ht]
     by_cases he:X.uy c s o.args o.res=0
     ·rw[if_neg (by simpa using he),bt he];rfl
     ·rw[if_pos he,bq he];rfl
    ·intro t hts
     rw[ht] at hts
     split at hts
     ·cases hts
     ·exact Option.some.inj hts
    ·exact⟨by have:=Ph.n;omega,fun b hb=>by rw[ax (by omega),ax (by omega)];exact Ph.g b hb⟩
   simp only[bp,bw] at last
   by_cases he:o.e<0
   ·rw[if_neg (by omega)] at kC
    simp[sr,bo3,eO,he]
    refine last _ ?_ ?_ ?_ ?_ kC<;>simp
   ·simp[sr,bo3,eO,he]
    simp[AJ,Sj,wB,bo3,bs3,eO,hn,rH,Ei,lenS,GG,af]
    refine aI.known (scH _ _) ?_
    simp
    by_cases QM:X.pF c s o.args o.res=0
    ·cases h4:X.pE c s o.args o.res with
     |false=>
      rw[if_pos ⟨by omega,.inr h4⟩] at kC
      simp[mG,QM]
      simp[su,b63]
      exact⟨tU kC,done _⟩
     |true=>
      rw[if_neg (by rw[QM,h4];simp)] at kC
      simp[mG,QM]
      refine last _ ?_ ?_ ?_ ?_ kC<;>simp
    ·rw[if_pos ⟨by omega,.inl QM⟩] at kC
     simp[mG,bq QM]
     simp[su,b63]
     exact⟨tU kC,done _⟩
 ·have ht:X.take c o s=none:=by rw[Hs,if_pos (.inl h1)]
  simp[mF,bq h1]
  simp[so,b63]
  exact⟨tU ht,done _⟩
end Ln
/-
 LN: Check: the program. No condition.
-/
namespace Ln
open Go.Sx Go
def cm(i:Nat)(o:Op):gQ:=(kD i o.name).getD default
def Kn.run(X:Kn)(i:Nat)(os:List Op):List Int→St→Bool
 | [],_=>true
 |x ::l,s=>match X.take (cm i (at_ os x)) (at_ os x) s with
  |none=>false
  |some t=>X.run i os l t
theorem BU{i:Nat}{l:List Ev}(h:nw i l=0):bk [] l=0∧jR i (cU 0 l)=0:=by
 unfold nw at h
 by_cases hv:bk [] l=0
 ·rw[if_pos hv] at h;exact⟨hv,h⟩
 ·rw[if_neg hv] at h
  exfalso
  unfold iM at h
  split at h
  ·exact hv ‹_›
  ·exact absurd h (by decide)
  ·exact absurd h (by decide)
  ·exact absurd h (by decide)
theorem Sr{i:Nat}(hi:i<3){os:List Op}(hb:jR i os=0){x:Nat}{o:Op}(h:os[x]?=some o):akG i os x o (cm i o):=by
 obtain⟨c,h1,h2⟩:=Tz hb o (List.mem_of_getElem? h)
 have e:cm i o=c:=by unfold cm;rw[h1];rfl
 rw[e]
 exact⟨h,(NP h1).1.symm,h2,aqQ hi h1⟩
theorem R5{i:Nat}(hi:i<3):dR i (cd i):=by
 unfold dR cd wR
 split<;>simp
variable{C:cD}{X:Kn}(S:Std C X)
include S
end Ln
/-
 LN: Check: the program, all of it. No condition.
-/
namespace Ln
open Go.Sx Go
variable{C:cD}{X:Kn}(S:Std C X)
include S
end Ln
/-
 LN: Check: the reference. No condition.
-/
namespace Ln
open Go.Sx Go
variable{C:cD}{X:Kn}(S:Std C X)
include S
end Ln
/-
 LN: configurations, plainly: what can be reached, what leads to an end, and the first way there. No condition.
-/
namespace Ln
section
variable{σ:Type}
abbrev Cf(σ:Type):=Nat×σ
structure Sys(σ:Type) where
 n:Nat
 DG:Nat→Nat→Bool
 take:Nat→σ→Option σ
 acc:Nat→Bool
def Sys.step(S:Sys σ)(c:Cf σ)(i:Nat):Option (Nat×Cf σ):=if S.DG i c.1=true then(S.take i c.2).map fun s=>(i,(c.1+2^i,s)) else none
def Sys.steps(S:Sys σ)(c:Cf σ):List (Nat×Cf σ):=(List.range S.n).filterMap (S.step c)
def Sys.Ok(S:Sys σ):Prop:=∀ i d,S.DG i d=true→d.testBit i=false
inductive Good(S:Sys σ):Cf σ→Prop
 |now {c:Cf σ} (h:S.acc c.1=true):Good S c
 |step {c c':Cf σ} {i:Nat} (h:(i,c')∈S.steps c) (g:Good S c'):Good S c
inductive Path(S:Sys σ):Cf σ→List Nat→Prop
 |now {c:Cf σ} (h:S.acc c.1=true):Path S c []
 |step {c c':Cf σ} {i:Nat} {p:List Nat} {a b:List (Nat×Cf σ)} (h:S.acc c.1=false) (e:S.steps c=a++(i,c') ::b) (no:∀ x∈a,¬ Good S x.2) (g:Path S c' p):Path S c (i ::p)
theorem Path.DH{S:Sys σ}{c:Cf σ}{p:List Nat}(h:Path S c p):Good S c:=by
 induction h with
 |now h=>exact .now h
 | @step c c' i p a b h e no g ih=>exact .step (i:=i) (by rw[e];simp) ih
theorem IC{S:Sys σ}{c c':Cf σ}{i:Nat}(h:(i,c')∈S.steps c):i<S.n∧S.DG i c.1=true∧c'.1=c.1+2^i∧S.take i c.2=some c'.2:=by
 unfold Sys.steps at h
 rw[List.mem_filterMap] at h
 obtain⟨j,hj,e⟩:=h
 unfold Sys.step at e
 split at e
 ·rename_i ho
  cases ht:S.take j c.2 with
  |none=>rw[ht] at e;cases e
  |some s=>
   rw[ht] at e
   simp only[Option.map_some,Option.some.injEq,Prod.mk.injEq] at e
   obtain⟨rfl,rfl⟩:=e
   exact⟨List.mem_range.1 hj,ho,rfl,ht⟩
 ·cases e
theorem akd:∀ (i d:Nat),d.testBit i=false→d ||| 2^i=d+2^i
 |0,d,h=>by
  have h1:(d ||| 2^0) / 2=d / 2:=by rw[Nat.or_div_two];simp
  have h2:(d ||| 2^0)%2=1:=by
   have:(d ||| 2^0)%2^1=d%2^1 ||| 2^0%2^1:=Nat.or_mod_two_pow
   have hd:d%2=0:=by
    rw[Nat.testBit_zero] at h
    simp at h;omega
   rw[show(2:Nat)^1=2 from rfl,hd] at this
   exact this
  have hd:d%2=0:=by
   rw[Nat.testBit_zero] at h
   simp at h;omega
  generalize d ||| 2^0=x at h1 h2 ⊢
  rw[Nat.pow_zero]
  omega
 |i+1,d,h=>by
  have h1:(d ||| 2^(i+1)) / 2=d / 2 ||| 2^i:=by rw[Nat.or_div_two,Nat.pow_succ,Nat.mul_div_cancel _ (by omega)]
  have h2:(d ||| 2^(i+1))%2=d%2:=by
   have:(d ||| 2^(i+1))%2^1=d%2^1 ||| 2^(i+1)%2^1:=Nat.or_mod_two_pow
   have e:2^(i+1)%2=0:=by rw[Nat.pow_succ];omega
   simpa[e] using this
  have:=akd i (d / 2) (by rw[← Nat.testBit_succ];exact h)
  rw[this] at h1
  generalize d ||| 2^(i+1)=x at h1 h2 ⊢
  rw[Nat.pow_succ]
  omega
theorem asA{d n i:Nat}(hd:d<2^n)(hi:i<n)(hb:d.testBit i=false):d+2^i<2^n∧d ||| 2^i=d+2^i:=by
 have e:=akd i d hb
 refine⟨?_,e⟩
 rw[← e]
 exact Nat.or_lt_two_pow hd (Nat.pow_lt_pow_right (by omega) hi)
theorem asB{S:Sys σ}(hS:S.Ok){c c':Cf σ}{i:Nat}(h:(i,c')∈S.steps c)(hc:c.1<2^S.n):c'.1<2^S.n∧2^S.n-c'.1<2^S.n-c.1∧c.1<c'.1:=by
 obtain⟨h1,h2,h3,h4⟩:=IC h
 have:=asA hc h1 (hS _ _ h2)
 have:0<2^i:=Nat.two_pow_pos i
 omega
variable[DecidableEq σ]
def oY(l:List (Cf σ))(c:Cf σ):List (Cf σ):=if c∈l then l else l ++ [c]
def iQ:List (Cf σ)→List (Cf σ)→Option (List (Cf σ))
 |l,[]=>some l
 |l,c ::r=>if (oY l c).length>1024 then none else iQ (oY l c) r
def bfs(S:Sys σ):Nat→Nat→List (Cf σ)→Option (List (Cf σ))
 |0,_,l=>some l
 |f+1,i,l=>match l[i]? with
  |none=>some l
  |some c=>match iQ l ((S.steps c).map (·.2)) with
   |none=>none
   |some l'=>bfs S f (i+1) l'
theorem asC(l:List (Cf σ))(c:Cf σ):∃ r,oY l c=l++r:=by
 unfold oY;split
 ·exact⟨[],by simp⟩
 ·exact⟨[c],rfl⟩
theorem asD(l:List (Cf σ))(c:Cf σ):c∈oY l c:=by unfold oY;split<;>simp_all
theorem ake{l:List (Cf σ)}(h:l.Nodup)(c:Cf σ):(oY l c).Nodup:=by
 unfold oY;split
 ·exact h
 ·rename_i hc
  rw[List.nodup_append]
  refine⟨h,by simp,?_⟩
  intro a ha b hb
  simp at hb
  rintro rfl
  subst hb
  exact hc ha
theorem U4{p:Cf σ→Prop}{l:List (Cf σ)}{c:Cf σ}(h:∀ x∈l,p x)(hc:p c):∀ x∈oY l c,p x:=by
 unfold oY;split
 ·exact h
 ·intro x hx
  rcases List.mem_append.1 hx with hx|hx
  ·exact h x hx
  ·simp at hx;rw[hx];exact hc
theorem Cb:∀ {r l l':List (Cf σ)},iQ l r=some l'→(∃ t,l'=l++t)∧(∀ c∈r,c∈l')∧(l.Nodup→l'.Nodup)∧(l.length≤1024→l'.length≤1024)∧(∀ x∈l',x∈l∨x∈r)
 | [],l,l',h=>by
  unfold iQ at h
  cases h
  exact⟨⟨[],by simp⟩,by simp,id,id,fun x hx=>.inl hx⟩
 |c ::r,l,l',h=>by
  unfold iQ at h
  split at h
  ·cases h
  ·rename_i hl
   obtain⟨⟨t,e⟩,h2,h3,h4,h5⟩:=Cb h
   obtain⟨u,e2⟩:=asC l c
   refine⟨⟨u++t,by rw[e,e2];simp⟩,?_,fun hn=>h3 (ake hn c),fun _=>h4 (by omega),?_⟩
   ·intro x hx
    rcases List.mem_cons.1 hx with rfl|hx
    ·rw[e];exact List.mem_append_left _ (asD _ _)
    ·exact h2 x hx
   ·intro x hx
    rcases h5 x hx with hx|hx
    ·unfold oY at hx
     split at hx
     ·exact .inl hx
     ·rcases List.mem_append.1 hx with hx|hx
      ·exact .inl hx
      ·simp at hx;subst hx;exact .inr (by simp)
    ·exact .inr (by simp[hx])
def pop:Nat→Nat→Nat
 |0,_=>0
 |n+1,d=>pop n d+(if d.testBit n then 1 else 0)
theorem asE(d i:Nat)(hb:d.testBit i=false):∀ n:Nat,pop n (d ||| 2^i)=pop n d+(if i<n then 1 else 0)
 |0=>by simp[pop]
 |n+1=>by
  unfold pop
  rw[asE d i hb n,Nat.testBit_or,Nat.testBit_two_pow]
  by_cases h:i=n
  ·subst h;rw[hb];simp
  ·by_cases h2:i<n
   ·simp[h,h2,show i<n+1 by omega];omega
   ·simp[h,h2,show ¬ i<n+1 by omega]
structure Kept(S:Sys σ)(i:Nat)(l:List (Cf σ)):Prop where
 nodup:l.Nodup
 len:l.length≤1024
 lt:∀ c∈l,c.1<2^S.n
 mono:l.Pairwise fun a b=>pop S.n a.1≤pop S.n b.1
 aHZ:∀ c,l[i]?=some c→∀ x∈l,pop S.n x.1≤pop S.n c.1+1
 done:∀ (j:Nat) (c:Cf σ),j<i→l[j]?=some c→∀ x∈S.steps c,x.2∈l
theorem U5{S:Sys σ}(hS:S.Ok){c c':Cf σ}{i:Nat}(h:(i,c')∈S.steps c)(hc:c.1<2^S.n):pop S.n c'.1=pop S.n c.1+1:=by
 obtain⟨h1,h2,h3,h4⟩:=IC h
 have hb:=hS _ _ h2
 rw[h3,← (asA hc h1 hb).2,asE _ _ hb,if_pos h1]
theorem aqq{S:Sys σ}{l:List (Cf σ)}{c:Cf σ}{k:Nat}(hk:pop S.n c.1=k+1)(hle:∀ x∈l,pop S.n x.1≤k+1)(hm:l.Pairwise fun a b=>pop S.n a.1≤pop S.n b.1) :
  (oY l c).Pairwise (fun a b=>pop S.n a.1≤pop S.n b.1)∧∀ x∈oY l c,pop S.n x.1≤k+1:=by
 refine⟨?_,U4 hle (by omega)⟩
 unfold oY;split
 ·exact hm
 ·rw[List.pairwise_append]
  refine⟨hm,by simp,?_⟩
  intro a ha b hb
  simp at hb
  subst hb
  have:=hle a ha
  omega
theorem JI{S:Sys σ}{k:Nat}:∀ {r l l':List (Cf σ)},iQ l r=some l'→(∀ c∈r,pop S.n c.1=k+1)→(∀ x∈l,pop S.n x.1≤k+1)→(l.Pairwise fun a b=>pop S.n a.1≤pop S.n b.1)→
  (l'.Pairwise fun a b=>pop S.n a.1≤pop S.n b.1)∧∀ x∈l',pop S.n x.1≤k+1
 | [],l,l',h,_,h2,h3=>by unfold iQ at h;cases h;exact⟨h3,h2⟩
 |c ::r,l,l',h,h1,h2,h3=>by
  unfold iQ at h
  split at h
  ·cases h
  ·obtain⟨a,b⟩:=aqq (S:=S) (h1 c (by simp)) h2 h3
   exact JI h (fun c hc=>h1 c (by simp[hc])) b a
theorem Kept.next{S:Sys σ}(hS:S.Ok){i:Nat}{l l':List (Cf σ)}(h:Kept S i l){c:Cf σ}(hc:l[i]?=some c)(ha:iQ l ((S.steps c).map (·.2))=some l'):Kept S (i+1) l':=by
 have KJ:c∈l:=List.mem_of_getElem? hc
 have aDX:=h.lt c KJ
 obtain⟨⟨t,e⟩,h2,h3,h4,h5⟩:=Cb ha
 obtain⟨m1,m2⟩:=JI (S:=S) (k:=pop S.n c.1) ha (by
  intro x hx
  rw[List.mem_map] at hx
  obtain⟨⟨j,y⟩,hy,rfl⟩:=hx
  exact U5 hS hy aDX) (h.aHZ c hc) h.mono
 refine⟨h3 h.nodup,h4 h.len,?_,m1,?_,?_⟩
 ·intro x hx
  rcases h5 x hx with hx|hx
  ·exact h.lt x hx
  ·rw[List.mem_map] at hx
   obtain⟨⟨j,y⟩,hy,rfl⟩:=hx
   exact(asB hS hy aDX).1
 ·intro c2 hc2 x hx
  have hle:=m2 x hx
  have:pop S.n c.1≤pop S.n c2.1:=by
   have hp:=List.pairwise_iff_getElem.1 m1
   obtain⟨q1,q2⟩:=List.getElem?_eq_some_iff.1 hc2
   have hi:i<l'.length:=by omega
   have hci:l'[i]=c:=by
    have Pj:i<l.length:=(List.getElem?_eq_some_iff.1 hc).1
    have:l'[i]?=some c:=by rw[e,List.getElem?_append_left Pj];exact hc
    exact(List.getElem?_eq_some_iff.1 this).2
   have:=hp i (i+1) hi q1 (by omega)
   rw[hci,q2] at this
   exact this
  omega
 ·intro j c2 hj hc2 x hx
  by_cases uA:j=i
  ·subst uA
   have:c2=c:=by
    have Pj:j<l.length:=(List.getElem?_eq_some_iff.1 hc).1
    rw[e,List.getElem?_append_left Pj,hc] at hc2
    exact(Option.some.inj hc2).symm
   subst this
   exact h2 _ (List.mem_map.2 ⟨x,hx,rfl⟩)
  ·have bz:j<l.length:=by
    have:=(List.getElem?_eq_some_iff.1 hc).1
    omega
   rw[e,List.getElem?_append_left bz] at hc2
   have:=h.done j c2 (by omega) hc2 x hx
   rw[e];exact List.mem_append_left _ this
theorem Kept.up{S:Sys σ}(hS:S.Ok){i:Nat}{l:List (Cf σ)}(h:Kept S i l){j k:Nat}{c c':Cf σ}(hc:l[j]?=some c)(hk:l[k]?=some c'){q:Nat}(hs:(q,c')∈S.steps c):j<k:=by
 rcases Nat.lt_or_ge j k with hjk|hjk
 ·exact hjk
 ·exfalso
  have hp:=U5 hS hs (h.lt c (List.mem_of_getElem? hc))
  obtain⟨a1,a2⟩:=List.getElem?_eq_some_iff.1 hc
  obtain⟨b1,b2⟩:=List.getElem?_eq_some_iff.1 hk
  rcases Nat.lt_or_ge k j with bO|QJ
  ·have:=List.pairwise_iff_getElem.1 h.mono k j b1 a1 bO
   rw[a2,b2] at this
   omega
  ·have:j=k:=by omega
   subst this
   rw[hc] at hk
   cases hk
   omega
end
end Ln
/-
 LN: the search, backward and depth first, plainly. No condition.
-/
namespace Ln
section
variable{σ:Type}[DecidableEq σ]
structure Whole(S:Sys σ)(l:List (Cf σ))(c0:Cf σ):Prop where
 kept:Kept S l.length l
 first:l[0]?=some c0
theorem Whole.closed{S:Sys σ}{l:List (Cf σ)}{c0:Cf σ}(h:Whole S l c0){c:Cf σ}(hc:c∈l):∀ x∈S.steps c,x.2∈l:=by
 obtain⟨j,hj,e⟩:=List.getElem_of_mem hc
 exact h.kept.done j c hj (by rw[List.getElem?_eq_getElem hj,e])
theorem Kept.start{S:Sys σ}{s:σ}(xR:1≤1024):Kept S 0 [(0,s)]:=by
 refine⟨by simp,by simp,?_,by simp,?_,?_⟩
 ·intro c hc;simp at hc;subst hc;exact Nat.two_pow_pos _
 ·intro c hc x hx
  simp at hc hx
  subst hc;subst hx
  omega
 ·intro j c hj;omega
theorem asy{S:Sys σ}{f i:Nat}{l:List (Cf σ)}{c:Cf σ}(h:l[i]?=some c):bfs S (f+1) i l=match iQ l ((S.steps c).map (·.2)) with|none=>none|some l'=>bfs S f (i+1) l':=by
 show(match l[i]? with|none=>some l|some c=>_)=_
 simp only[h]<;>rfl
theorem av4{S:Sys σ}{f i:Nat}{l:List (Cf σ)}(h:l.length≤i):bfs S f i l=some l:=by
 cases f with
 |zero=>rfl
 |succ f=>
  show(match l[i]? with|none=>some l|some c=>_)=_
  rw[List.getElem?_eq_none h]
theorem Path.more{S:Sys σ}{c c':Cf σ}{i:Nat}{p:List Nat}{a b:List (Nat×Cf σ)}(h:S.acc c.1=false)(e:S.steps c=a++(i,c') ::b)(no:∀ x∈a,¬ Good S x.2)(g:Path S c' p):Path S c (i ::p):=.step h e no g
def Sys.ib(S:Sys σ)(c:Cf σ)(k:Nat):List (Nat×Cf σ):=(List.range k).filterMap (S.step c)
theorem tT(S:Sys σ)(c:Cf σ)(k:Nat):S.ib c (k+1)=S.ib c k++(S.step c k).toList:=by
 unfold Sys.ib
 rw[List.range_succ,List.filterMap_append]
 cases h:S.step c k<;>simp[h]
theorem Rh(S:Sys σ)(c:Cf σ):S.ib c S.n=S.steps c:=rfl
theorem ajC(S:Sys σ)(c:Cf σ){k m:Nat}(h:k≤m):∃ t,S.ib c m=S.ib c k++t:=by
 induction m with
 |zero=>exact⟨[],by obtain rfl:k=0:=Nat.le_zero.1 h;simp⟩
 |succ m ih=>
  rcases Nat.lt_or_ge k (m+1) with h1|h1
  ·obtain⟨t,e⟩:=ih (by omega)
   exact⟨t++(S.step c m).toList,by rw[tT,e,List.append_assoc]⟩
  ·have:k=m+1:=by omega
   subst this
   exact⟨[],by simp⟩
theorem O9(S:Sys σ)(c:Cf σ){k:Nat}(h:k<S.n){x:Nat×Cf σ}(e:S.step c k=some x):∃ b,S.steps c=S.ib c k++x ::b:=by
 obtain⟨t,e2⟩:=ajC S c (k:=k+1) (m:=S.n) (by omega)
 refine⟨t,?_⟩
 rw[← Rh,e2,tT,e]
 simp
end
end Ln
/-
 LN: sets of calls: the reference. No condition.
-/
namespace Ln
open Go.Sx Go
def wZ(os:List Op)(k d:Nat):Bool:=!d.testBit k&&(List.range os.length).all fun q=>q==k || !(before (os.getD q default) (os.getD k default)&&decide (0≤(os.getD q default).e) && !d.testBit q) && !(d.testBit q&&before (os.getD k default) (os.getD q default))
def HF(os:List Op)(d:Nat):Bool:=(List.range os.length).all fun q=>!decide (0≤(os.getD q default).e)||d.testBit q
def bH(X:Kn)(i:Nat)(os:List Op):Sys St:=⟨os.length,wZ os,fun k s=>X.take (cm i (os.getD k default)) (os.getD k default) s,HF os⟩
theorem anf(X:Kn)(i:Nat)(os:List Op):(bH X i os).Ok:=by
 intro k d h
 have h:wZ os k d=true:=h
 unfold wZ at h
 rw[jj] at h
 simpa using h.1
theorem nC{os:List Op}{k:Nat}(h:k<os.length):os.getD k default=os[k]:=by rw[List.getD_eq_getElem?_getD,Pe h];rfl
variable{C:cD}{X:Kn}(S:Std C X)
include S
theorem aks{k:Nat}(hk:k≤16){h:T ag}{nx:Key}:aI C gG [I k] h nx (fun o h' nx'=>o=.ret (I ((2^k:Nat):Int))∧h'=h∧nx'=nx):=by
 refine S.Kl.call ?_
 simp[Jj]
 simp[H9]
 simp[Ia]
 simp[Ib]
 refine W.dQ (n:=k) (fun m tm' h' nx'=>∃ j:Nat,m=k-j∧j≤k∧aa (K 0) tm'=some (I k)∧aa (K 4) tm'=some (I j)∧aa (K 3) tm'=some (I ((2^j:Nat):Int))∧h'=h∧nx'=nx) ⟨0,by simp,by omega,by simp,by simp,by simp,rfl,rfl⟩ ?_
 rintro m dn h1 bN ⟨j,rfl,hj,g0,g4,g3,rfl,rfl⟩
 refine W.of ?_
 simp[Ic]
 have hp:2^j≤65536:=kn (by omega)
 by_cases hjk:j<k
 ·have uA:(j:Int)<k:=by omega
  have hw:cu .i64 (2*((2^j:Nat):Int))=((2^(j+1):Nat):Int):=by
   rw[Nat.pow_succ]
   generalize 2^j=p at hp ⊢
   rw[aq (by omega) (by omega)];omega
  simp[Ac,g0,g4,uA]
  simp[Ie,g3,-Int.natCast_pow]
  simp[Ig,g4]
  rw[aq (n:=(j:Int)+1) (by omega) (by omega)]
  refine⟨k-(j+1),by omega,j+1,rfl,by omega,g0,by omega,?_⟩
  have e:=hw
  simpa using e
 ·have aMo:j=k:=by omega
  subst aMo
  simp[Ac,g0,g4]
  simp[Ih,g3]
theorem ap7{d k:Nat}(hd:d<65536)(hk:k≤16){h:T ag}{nx:Key}:aI C je [I d,I k] h nx (fun o h' nx'=>o=.ret (.bool (d.testBit k))∧h'=h∧nx'=nx):=by
 have rb:C.raw gG=false:=S.nr (by decide)
 refine S.N5.call ?_
 simp[N1]
 simp[KB]
 simp[KC,rb]
 refine(aks S hk).mono ?_
 rintro o h1 bN ⟨rfl,rfl,rfl⟩
 have hp:0<2^k:=Nat.two_pow_pos k
 have hq:d / 2^k≤d:=Nat.div_le_self _ _
 have hb:d.testBit k=decide (d / 2^k%2=1):=Nat.testBit_eq_decide_div_mod_eq
 rw[hb]
 generalize 2^k=p at *
 have h0:((p:Int)==0)=false:=bq (by omega)
 have hdv:Int.tdiv (d:Int) (p:Int)=((d / p:Nat):Int):=rfl
 have hw:cu .i64 ((d / p:Nat):Int)=((d / p:Nat):Int):=by generalize d / p=q at *;exact aq (by omega) (by omega)
 have hm:Int.tmod ((d / p:Nat):Int) 2=((d / p%2:Nat):Int):=rfl
 have hd2:(((d / p%2:Nat):Int)==1)=decide (d / p%2=1):=by
  generalize d / p%2=q
  rw[Bool.eq_iff_iff];simp;omega
 simp[-Int.natCast_ediv,-Int.natCast_emod,h0,hdv,hw,hm,hd2]
end Ln
/-
 LN: what may be next, and what is accepted: the reference. No condition.
-/
namespace Ln
open Go.Sx Go
theorem TN{n:Nat}{p:Nat→Bool}{q:Nat}(hq:q<n)(h:p q=false):(List.range n).all p=false:=by
 rw[List.all_eq_false];exact⟨q,List.mem_range.2 hq,by simp[h]⟩
theorem Of{n:Nat}{p:Nat→Bool}(h:∀ q,q<n→p q=true):(List.range n).all p=true:=vV.2 fun q hq=>h q (List.mem_range.1 hq)
theorem TO{j:Nat}{p:Nat→Prop}(h:∀ q,q<j→p q)(hj:p j):∀ q,q<j+1→p q:=fun q hq=>by
 by_cases e:q=j
 ·subst e;exact hj
 ·exact h q (by omega)
variable{C:cD}{X:Kn}(S:Std C X)
def TL(os:List Op)(k d q:Nat):Bool:=q==k || !(before (os.getD q default) (os.getD k default)&&decide (0≤(os.getD q default).e) && !d.testBit q) && !(d.testBit q&&before (os.getD k default) (os.getD q default))
def ax7(X:Kn)(os:List Op)(cells:List AV)(k d:Nat)(bj:Key)(h:T ag)(nx:Key)(m:Nat)(tm':T AV)(h':T ag)(nx':Key):Prop:=∃ j:Nat,m=os.length-j∧j≤os.length∧aa (K 0) tm'=some (.ptr bj 0)∧aa (K 1) tm'=some (I k)∧aa (K 2) tm'=some (I d)∧aa (K 7) tm'=some (I j)∧aa bj h'=some (.cells cells .fix)∧Ext h nx h' nx'∧∀ q,q<j→TL os k d q=true
include S
theorem as3{i:Nat}{os:List Op}(ho:os.length≤16){cO:AV}(hc:jN 10 eO cO os){s0:St}{k d:Nat}(hk:k<os.length)(hd:d<65536){h:T ag}{nx bj:Key}(hb:aa bj h=some (.cells (wB X i cO s0) .fix))(Iq:bj.toNat<nx.toNat) :
  aI C kx [.ptr bj 0,I k,I d] h nx (fun o h' nx'=>o=.ret (.bool (wZ os k d))∧Ext h nx h' nx'):=by
 have rI:C.raw je=false:=S.nr (by decide)
 have rB:C.raw ir=false:=S.nr (by decide)
 have Cr:cO=.sl (aj eO os) os.length 10 .any:=by
  rcases hc with⟨_,rfl⟩|e
  ·simp at hk
  ·exact e
 subst Cr
 have hr:=ep.rows os
 have eck:=ep.at hk
 have tk:10≤os.length*10-k*10:=by omega
 refine S.C1.call ?_
 simp[z4]
 simp[Bs]
 simp[Bt,rI]
 refine(ap7 S hd (by omega)).mono ?_
 rintro o h1 bN ⟨rfl,rfl,rfl⟩
 cases Tj:d.testBit k with
 |true=>
  have:wZ os k d=false:=by unfold wZ;rw[Tj];rfl
  simp
  simp[Bu]
  exact⟨this,Ext.refl _ _⟩
 |false=>
  have oV:wZ os k d=(List.range os.length).all (TL os k d):=by unfold wZ;rw[Tj];rfl
  simp
  simp[Bv]
  refine W.dQ (n:=os.length) (ax7 X os (wB X i (.sl (aj eO os) os.length 10 .any) s0) k d bj h1 bN) ⟨0,by simp,by omega,by simp,by simp,by simp,by simp,hb,Ext.refl _ _,fun q hq=>absurd hq (by omega)⟩ ?_
  rintro m dn h2 aH ⟨j,rfl,hj,g0,g1,g2,g7,Ux,e2,hq⟩
  refine W.of ?_
  simp[Bw]
  by_cases bz:j<os.length
  ·have uA:(j:Int)<os.length:=by omega
   have ecj:=ep.at bz
   have tj:10≤os.length*10-j*10:=by omega
   have DZ:TL os k d j=(j==k || !(before os[j] os[k]&&decide (0≤os[j].e) && !d.testBit j) && !(d.testBit j&&before os[k] os[j])):=by unfold TL;rw[nC bz,nC hk]
   simp[sS,g0,g7,Ux,wB,uA]
   have next:∀ (ay:T AV) (h3:T ag) (bF:Key),aa (K 0) ay=some (.ptr bj 0)→aa (K 1) ay=some (I k)→aa (K 2) ay=some (I d)→aa (K 7) ay=some (I j)→aa bj h3=some (.cells (wB X i (.sl (aj eO os) os.length 10 .any) s0) .fix)→Ext h1 bN h3 bF→TL os k d j=true→
     mX C (av (fun tm h' nx'=>∃ m,m<os.length-j∧ax7 X os (wB X i (.sl (aj eO os) os.length 10 .any) s0) k d bj h1 bN m tm h' nx') (al 0 (av (eP C (.seq (.ops iD) .ret) (bB [.tmp (K 6)] fun o h' nx'=>o=.ret (.bool (wZ os k d))∧Ext h1 bN h' nx')) (bB [.tmp (K 6)] fun o h' nx'=>o=.ret (.bool (wZ os k d))∧Ext h1 bN h' nx')))) lA ay h3 bF:=by
    intro ay h3 bF q0 q1 q2 q7 b3 e3 mD
    simp[lA,q7]
    rw[aq (by omega) (by omega)]
    exact⟨os.length-(j+1),by omega,j+1,rfl,by omega,by simp[q0],by simp[q1],by simp[q2],by simp,b3,e3,TO hq mD⟩
   by_cases hjk:j=k
   ·subst hjk
    simp[sT,g1,g7]
    refine next _ _ _ ?_ ?_ ?_ ?_ Ux e2 (by rw[DZ];simp)<;>simp[g0,g1,g2,g7]
   ·have aMe:((j:Int)==k)=false:=bq (by omega)
    have aMf:(j==k)=false:=by simpa using hjk
    rw[aMf,Bool.false_or] at DZ
    simp[sT,g1,g7,aMe]
    have fail:TL os k d j=false→∀ h3 bF,Ext h1 bN h3 bF→(wZ os k d=false∧Ext h1 bN h3 bF):=fun hf h3 bF e3=>⟨by rw[oV,TN bz hf],e3⟩
    -- behind the first atJ
    have H0:∀ (ay:T AV) (h3:T ag) (bF:Key),aa (K 0) ay=some (.ptr bj 0)→aa (K 1) ay=some (I k)→aa (K 2) ay=some (I d)→aa (K 7) ay=some (I j)→aa bj h3=some (.cells (wB X i (.sl (aj eO os) os.length 10 .any) s0) .fix)→Ext h1 bN h3 bF→(before os[j] os[k]&&decide (0≤os[j].e) && !d.testBit j)=false→
      eP C (.seq (.staged sU ⟨[K 55,K 56,K 57,K 58,K 59,K 60,K 61,K 62,K 63,K 64,K 65,K 66,K 67,K 68,K 69,K 70,K 71,K 72,K 73,K 74],[]⟩) (.cond (.t (K 74)) (.seq (.ops sV) .ret) .skip)) (al 1 (av (eP C (.ops lA) (av (fun tm h' nx'=>∃ m,m<os.length-j∧ax7 X os (wB X i (.sl (aj eO os) os.length 10 .any) s0) k d bj h1 bN m tm h' nx') (al 0 (av (eP C (.seq (.ops iD) .ret) (bB [.tmp (K 6)] fun o h' nx'=>o=.ret (.bool (wZ os k d))∧Ext h1 bN h' nx')) (bB [.tmp (K 6)] fun o h' nx'=>o=.ret (.bool (wZ os k d))∧Ext h1 bN h' nx'))))) (av (fun tm h' nx'=>∃ m,m<os.length-j∧ax7 X os (wB X i (.sl (aj eO os) os.length 10 .any) s0) k d bj h1 bN m tm h' nx') (al 0 (av (eP C (.seq (.ops iD) .ret) (bB [.tmp (K 6)] fun o h' nx'=>o=.ret (.bool (wZ os k d))∧Ext h1 bN h' nx')) (bB [.tmp (K 6)] fun o h' nx'=>o=.ret (.bool (wZ os k d))∧Ext h1 bN h' nx')))))) ay h3 bF:=by
     intro ay h3 bF q0 q1 q2 q7 b3 e3 hA
     rw[hA] at DZ
     simp
     simp[sU,q2,q7,rI]
     refine(ap7 S hd (by omega)).mono ?_
     rintro o h4 DE ⟨rfl,rfl,rfl⟩
     cases hbj:d.testBit j with
     |false=>
      rw[hbj] at DZ
      simp
      refine next _ _ _ ?_ ?_ ?_ ?_ b3 e3 (by rw[DZ];rfl)<;>simp[q0,q1,q2,q7]
     |true=>
      rw[hbj] at DZ
      simp[q0,q1,q7,b3,wB,hk,bz,hr,tk,tj,eck,ecj,rB,anB,Kc,S8]
      refine(OD S os[k] os[j] _ _).mono ?_
      rintro o h5 Ut ⟨rfl,e5⟩
      have b5:aa bj h5=some (.cells (wB X i (.sl (aj eO os) os.length 10 .any) s0) .fix):=by rw[e5.g bj (by have:=e3.n;omega)];exact b3
      cases uq:before os[k] os[j] with
      |true=>
       rw[uq] at DZ
       simp
       simp[sV]
       exact fail (by rw[DZ];rfl) _ _ (e3.trans e5)
      |false=>
       rw[uq] at DZ
       simp
       refine next _ _ _ ?_ ?_ ?_ ?_ b5 (e3.trans e5) (by rw[DZ];rfl)<;>simp[q0,q1,q2,q7]
    simp only[bp,bw] at H0
    simp[Bx,g0,g1,g7,Ux,wB,hk,bz,hr,tk,tj,eck,ecj,rB,anB,Kc,S8]
    refine(OD S os[j] os[k] _ _).mono ?_
    rintro o h3 bF ⟨rfl,e3⟩
    have b3:aa bj h3=some (.cells (wB X i (.sl (aj eO os) os.length 10 .any) s0) .fix):=by rw[e3.g bj (by have:=e2.n;omega)];exact Ux
    have e13:=e2.trans e3
    cases uq:before os[j] os[k] with
    |false=>
     rw[uq] at H0
     simp
     refine H0 _ _ _ ?_ ?_ ?_ ?_ b3 e13 rfl<;>simp[g0,g1,g2,g7]
    |true=>
     rw[uq] at H0 DZ
     have b3':aa bj h3=some (.cells [.sl X.rows 7 45 .any,dO i,I 200,I 50,.sl (aj eO os) os.length 10 .any,I s0.k,I s0.n,.str 0 0,aC s0.kids] .fix):=b3
     have aFO:List.take 10 (List.drop (j*10) (aj eO os))=[I os[j].client,I os[j].b,I os[j].e,I os[j].lost,.str os[j].name.1 os[j].name.2,aC os[j].args,I os[j].res.k,I os[j].res.n,.str 0 0,.nils]:=ecj
     by_cases he:os[j].e<0
     ·have hed:decide (0≤os[j].e)=false:=by simp;omega
      rw[hed] at H0
      simp[g0,g7,b3',bz,hr,tj,aFO,he]
      refine H0 _ _ _ ?_ ?_ ?_ ?_ b3 e13 rfl<;>simp[g0,g1,g2,g7]
     ·have hed:decide (0≤os[j].e)=true:=by simp;omega
      rw[hed] at H0 DZ
      simp[g0,g2,g7,b3',bz,hr,tj,aFO,he,rI]
      refine(ap7 S hd (by omega)).mono ?_
      rintro o h4 DE ⟨rfl,rfl,rfl⟩
      cases hbj:d.testBit j with
      |true=>
       rw[hbj] at H0
       simp
       refine H0 _ _ _ ?_ ?_ ?_ ?_ b3 e13 rfl<;>simp[g0,g1,g2,g7]
      |false=>
       rw[hbj] at DZ
       simp
       simp[By]
       exact fail (by rw[DZ];rfl) _ _ e13
  ·have qL:j=os.length:=by omega
   subst qL
   simp[sS,g0,g7,Ux,wB]
   simp[iD]
   exact⟨by rw[oV];exact Of hq,e2⟩
end Ln
/-
 LN: rows that grow, with the block that they own. No condition.
-/
namespace Go.Sx
open Go
def Gr(z:Nat)(c:AV)(l:List AV)(len:Nat)(h:T ag)(nx:Key)(ob:Option Key):Prop:=
 (c=.nils∧l=[]∧len=0∧ob=none)∨(∃ (b:Key) (k:CK),ob=some b∧c=.slice b 0 len z∧aa b h=some (.cells l k)∧b.toNat<nx.toNat∧l.length=len*z∧(k=.part∨k=.fix))∨
 (∃ t:Key,ob=some t∧c=.sl l len z (.tok t)∧aa t h=some .tok∧t.toNat<nx.toNat)
structure tO(h:T ag)(nx:Key)(ob:Option Key)(h':T ag)(nx':Key)(tc:Option Key):Prop where
 n:nx.toNat≤nx'.toNat
 g:∀ b:Key,b.toNat<nx.toNat→ob≠some b→aa b h'=aa b h
 o:tc=ob∨∃ b:Key,tc=some b∧nx.toNat≤b.toNat
theorem tO.refl(h:T ag)(nx:Key)(ob:Option Key):tO h nx ob h nx ob:=⟨fh _,fun _ _ _=>rfl,.inl rfl⟩
theorem tO.pr{h h':T ag}{nx nx':Key}(e:Ext h nx h' nx')(ob:Option Key):tO h nx ob h' nx' ob:=⟨e.n,fun b hb _=>e.g b hb,.inl rfl⟩
theorem tO.ne{h h':T ag}{nx nx' b:Key}{ob tc:Option Key}(a:tO h nx ob h' nx' tc)(hb:b.toNat<nx.toNat)(hn:ob≠some b):tc≠some b:=by
 rcases a.o with e|⟨x,e,hx⟩
 ·rw[e];exact hn
 ·rw[e];intro q;cases q;omega
theorem tO.trans{h h' h2:T ag}{nx nx' n2:Key}{ob tc o2:Option Key}(a:tO h nx ob h' nx' tc)(b:tO h' nx' tc h2 n2 o2):tO h nx ob h2 n2 o2:=by
 have h1:=a.n
 refine⟨Nat.le_trans a.n b.n,fun x hx hn=>?_,?_⟩
 ·rw[b.g x (by omega) (a.ne hx hn)];exact a.g x hx hn
 ·rcases b.o with e|⟨y,e,hy⟩
  ·rw[e];exact a.o
  ·exact .inr ⟨y,e,by omega⟩
section
variable{z:Nat}{c:AV}{l new:List AV}{len m:Nat}{h h':T ag}{nx nx':Key}{ob:Option Key}
theorem Gr.nil(z:Nat)(h:T ag)(nx:Key):Gr z .nils [] 0 h nx none:=.inl ⟨rfl,rfl,rfl,rfl⟩
theorem Gr.lt(g:Gr z c l len h nx ob):∀ b,ob=some b→b.toNat<nx.toNat:=by
 intro b hb
 rcases g with⟨_,_,_,e⟩|⟨b',k,e,_,_,h4,_⟩|⟨t,e,_,_,h4⟩
 ·rw[hb] at e;cases e
 ·rw[hb] at e;cases e;exact h4
 ·rw[hb] at e;cases e;exact h4
theorem Gr.ew(g:Gr z c l len h nx ob)(hn:nx.toNat≤nx'.toNat)(hk:∀ b,ob=some b→aa b h'=aa b h):Gr z c l len h' nx' ob:=by
 rcases g with g|⟨b,k,e,h1,h2,h3,h4⟩|⟨t,e,h1,h2,h3⟩
 ·exact .inl g
 ·exact .inr (.inl ⟨b,k,e,h1,by rw[hk b e];exact h2,by omega,h4⟩)
 ·exact .inr (.inr ⟨t,e,h1,by rw[hk t e];exact h2,by omega⟩)
theorem Gr.ext(g:Gr z c l len h nx ob)(e:Ext h nx h' nx'):Gr z c l len h' nx' ob:=g.ew e.n fun b hb=>e.g b (g.lt b hb)
theorem Gr.add(g:Gr z c l len h nx ob)(hw:Cd z=false)(hz:0<z)(hm:0<m)(hs:∀ x∈l,Sg x)(hn:new.length=m*z)(hl:len+m≤1048576)(hc:new.all AV.aN=true) :
  ∃ c' h' nx' tc,appendTo z c new m h nx=.val c' h' nx'∧Gr z c' (l++new) (len+m) h' nx' tc∧tO h nx ob h' nx' tc:=by
 have s1:=kTSu nx
 have LW:m≠0:=by omega
 rcases g with⟨rfl,rfl,rfl,rfl⟩|⟨b,k,rfl,rfl,h2,h3,h4,hk⟩|⟨t,rfl,rfl,h2,h3⟩
 ·have HH:m≤1048576:=by omega
  exact⟨.slice nx 0 m z,au nx (some (.cells new .part)) h,nx.succ,some nx,by simp[LW,HH],.inr (.inl ⟨nx,.part,rfl,by simp,by simp,by omega,by simpa using hn,.inl rfl⟩),by omega,fun b hb _=>ax hb,.inr ⟨nx,rfl,fh _⟩⟩
 ·rcases hk with rfl|rfl
  ·refine⟨.sl (l++new) (len+m) z (.tok nx),au nx (some .tok) (au b none h),nx.succ,some nx,?_,.inr (.inr ⟨nx,rfl,by simp,by simp,by omega⟩),by omega,fun x hx hk=>?_,.inr ⟨nx,rfl,fh _⟩⟩
   ·simp[hl,hc,h2,h4,LW,hw]
   ·rw[ax hx,bG]
    rintro rfl
    exact hk rfl
  ·have Vg:¬ (len+m)*z≤len*z:=by
    rw[Nat.add_mul]
    have:=Nat.mul_pos hm hz
    omega
   have LX:bY (aO 9999) l h=(l,h):=dj hs
   have htl:List.take (len*z) l=l:=Pu (by omega)
   refine⟨.slice nx 0 (len+m) z,au nx (some (.cells (l++new) .part)) h,nx.succ,some nx,?_,.inr (.inl ⟨nx,.part,rfl,rfl,by simp,by omega,by rw[zqf,h4,hn,Nat.add_mul],.inl rfl⟩),by omega,fun b hb _=>ax hb,.inr ⟨nx,rfl,fh _⟩⟩
   simp[hl,hc,h2,h4,Vg,htl,LX]
 ·refine⟨.sl (l++new) (len+m) z (.tok nx),au nx (some .tok) (au t none h),nx.succ,some nx,?_,.inr (.inr ⟨nx,rfl,by simp,by simp,by omega⟩),by omega,fun x hx hk=>?_,.inr ⟨nx,rfl,fh _⟩⟩
  ·simp[hl,hc,h2,LW]
  ·rw[ax hx,bG]
   rintro rfl
   exact hk rfl
theorem Gr.Fm{α:Type}{enc:α→List AV}(F:Flat z enc){us:List α}(g:Gr z c (aj enc us) us.length h nx ob)(hw:Cd z=false)(hz:0<z)(hl:us.length+1≤1048576)(x:α) :
  ∃ c' h' nx' tc,appendTo z c (enc x) 1 h nx=.val c' h' nx'∧Gr z c' (aj enc (us ++ [x])) (us ++ [x]).length h' nx' tc∧tO h nx ob h' nx' tc:=by
 obtain⟨c',h',nx',tc,a,b,r⟩:=g.add (new:=enc x) (m:=1) hw hz (by omega) (F.Gp us) (by rw[F.len,Nat.one_mul]) hl (vV.2 (F.cell x))
 exact⟨c',h',nx',tc,a,by rw[kU,pK,zqf];exact b,r⟩
end
def Rd(z:Nat)(c:AV)(l:List AV)(len:Nat)(h:T ag)(nx:Key):Prop:=(c=.nils∧l=[]∧len=0)∨(∃ f,c=.sl l len z f)∨∃ (b:Key) (k:CK),c=.slice b 0 len z∧aa b h=some (.cells l k)∧b.toNat<nx.toNat∧l.length=len*z
theorem Gr.rd{z:Nat}{c:AV}{l:List AV}{len:Nat}{h:T ag}{nx:Key}{ob:Option Key}(g:Gr z c l len h nx ob):Rd z c l len h nx:=by
 rcases g with⟨h1,h2,h3,_⟩|⟨b,k,_,h1,h2,h3,h4,_⟩|⟨t,_,h1,_⟩
 ·exact .inl ⟨h1,h2,h3⟩
 ·exact .inr (.inr ⟨b,_,h1,h2,h3,h4⟩)
 ·exact .inr (.inl ⟨_,h1⟩)
theorem Rd.ext{z:Nat}{c:AV}{l:List AV}{len:Nat}{h h':T ag}{nx nx':Key}(g:Rd z c l len h nx)(e:Ext h nx h' nx'):Rd z c l len h' nx':=by
 rcases g with g|g|⟨b,k,h1,h2,h3,h4⟩
 ·exact .inl g
 ·exact .inr (.inl g)
 ·exact .inr (.inr ⟨b,k,h1,by rw[e.g b h3];exact h2,by have:=e.n;omega,h4⟩)
def Ll(z i:Nat):AV→AV
 |.sl l _ _ _=>.cref (List.take z (List.drop (i*z) l))
 |.slice b off _ _=>.ptr b (off+i*z)
 |_=>.nils
theorem Rd.ix{z:Nat}{c:AV}{α:Type}{enc:α→List AV}(F:Flat z enc){us:List α}{h:T ag}{nx:Key}(g:Rd z c (aj enc us) us.length h nx){i:Nat}(hi:i<us.length){C:cD}{Q:dN}{L:List J}{tm:T AV}{n2 k1 k2 d1 d2:Key}(h1:aa k1 tm=some c)(h2:aa k2 tm=some (I i)) :
  mX C Q (⟨some d1,.indexL z (.t k1) (.t k2),none⟩ ::⟨some d2,.load true z (.t d1),none⟩ ::L) tm h n2=mX C Q L (au d2 (some (.agg (enc us[i]))) (au d1 (some (Ll z i c)) tm)) h n2:=by
 have hr:=F.rows us
 have he:=F.at hi
 have hl:=F.len us[i]
 have tx:z≤us.length*z-i*z:=by
  rw[← Nat.sub_mul]
  exact Nat.le_mul_of_pos_left z (by omega)
 have tk:List.take z (enc us[i])=enc us[i]:=Pu (by omega)
 rcases g with⟨_,_,e⟩|⟨f,rfl⟩|⟨b,k,rfl,hb,_,_⟩
 ·omega
 ·simp[h1,h2,hi,hr,tx,he,hl,tk,Ll]
 ·simp[h1,h2,hi,hr,tx,he,hl,tk,Ll,hb]
theorem Rd.ln{z:Nat}{c:AV}{l:List AV}{len:Nat}{h:T ag}{nx:Key}(g:Rd z c l len h nx){C:cD}{Q:dN}{L:List J}{tm:T AV}{h2:T ag}{n2 k1 d1:Key}(h1:aa k1 tm=some c) :
  mX C Q (⟨some d1,.lenL (.t k1),none⟩ ::L) tm h2 n2=mX C Q L (au d1 (some (I len)) tm) h2 n2:=by
 rcases g with⟨rfl,_,rfl⟩|⟨f,rfl⟩|⟨b,k,rfl,_⟩
 ·simp[h1]
 ·simp[h1]
 ·simp[h1]
end Go.Sx
/-
 LN: configurations: the reference. No condition.
-/
namespace Ln
open Go.Sx Go
def eC(c:Cf St):List AV:=[I c.1,I c.2.k,I c.2.n,.str 0 0,aC c.2.kids]
theorem ig:Flat 5 eC where
 len _:=rfl
 D3 x y hy:=by
  simp[eC] at hy
  rcases hy with rfl|rfl|rfl|rfl|rfl
  ·exact dS _ _
  ·exact dS _ _
  ·exact dS _ _
  ·exact qK _ _
  ·exact dp _
 cell x y hy:=by
  simp[eC] at hy
  rcases hy with rfl|rfl|rfl|rfl|rfl<;>first|rfl|exact(aZ _).1
 lits x:=by simp[eC,AV.gf,AV.lits,xL,I]
theorem GD(z:Cf St)(H:T ag):bY (aO 9998) (eC z) H=(eC z,H):=dj (ig.D3 _)
theorem zD(z:Cf St):List.take 5 (eC z)=eC z:=rfl
theorem uI(z:Cf St):(eC z).length=5:=rfl
theorem Nw(z:Cf St):(eC z).all AV.aN=true:=vV.2 (ig.cell z)
variable{C:cD}{X:Kn}(S:Std C X)
def AcI(X:Kn)(os:List Op)(cells:List AV)(d:Nat)(bj:Key)(h:T ag)(nx:Key)(m:Nat)(tm':T AV)(h':T ag)(nx':Key):Prop:=∃ j:Nat,m=os.length-j∧j≤os.length∧aa (K 0) tm'=some (.ptr bj 0)∧aa (K 1) tm'=some (I d)∧aa (K 5) tm'=some (I j)∧h'=h∧nx'=nx∧∀ q,q<j→(!decide (0≤(os.getD q default).e)||d.testBit q)=true
include S
theorem amK{i:Nat}{os:List Op}(ho:os.length≤16){cO:AV}(hc:jN 10 eO cO os){s0:St}{d:Nat}(hd:d<65536){h:T ag}{nx bj:Key}(hb:aa bj h=some (.cells (wB X i cO s0) .fix)) :
  aI C gK [.ptr bj 0,I d] h nx (fun o h' nx'=>o=.ret (.bool (HF os d))∧h'=h∧nx'=nx):=by
 have rI:C.raw je=false:=S.nr (by decide)
 refine S.wC.call ?_
 simp[sy]
 simp[vH]
 simp[vJ]
 refine W.dQ (n:=os.length) (AcI X os (wB X i cO s0) d bj h nx) ⟨0,by simp,by omega,by simp,by simp,by simp,rfl,rfl,fun q hq=>absurd hq (by omega)⟩ ?_
 rintro m dn h2 aH ⟨j,rfl,hj,g0,g1,g5,rfl,rfl,hq⟩
 refine W.of ?_
 simp[vL]
 by_cases bz:j<os.length
 ·have uA:(j:Int)<os.length:=by omega
  have Cr:cO=.sl (aj eO os) os.length 10 .any:=by
   rcases hc with⟨_,rfl⟩|e
   ·simp at bz
   ·exact e
  subst Cr
  have hr:=ep.rows os
  have ecj:=ep.at bz
  have tj:10≤os.length*10-j*10:=by omega
  simp[jh,g0,g5,hb,wB,uA]
  have DZ:(!decide (0≤(os.getD j default).e)||d.testBit j)=(!decide (0≤os[j].e)||d.testBit j):=by rw[nC bz]
  have next:∀ (ay:T AV),aa (K 0) ay=some (.ptr bj 0)→aa (K 1) ay=some (I d)→aa (K 5) ay=some (I j)→(!decide (0≤os[j].e)||d.testBit j)=true→
    mX C (av (fun tm h' nx'=>∃ m,m<os.length-j∧AcI X os (wB X i (.sl (aj eO os) os.length 10 .any) s0) d bj h2 aH m tm h' nx') (al 0 (av (eP C (.seq (.ops ji) .ret) (bB [.tmp (K 4)] fun o h' nx'=>o=.ret (.bool (HF os d))∧h'=h2∧nx'=aH)) (bB [.tmp (K 4)] fun o h' nx'=>o=.ret (.bool (HF os d))∧h'=h2∧nx'=aH)))) mR ay h2 aH:=by
   intro ay q0 q1 q5 mD
   simp[mR,q5]
   rw[aq (by omega) (by omega)]
   exact⟨os.length-(j+1),by omega,j+1,rfl,by omega,by simp[q0],by simp[q1],by simp,rfl,rfl,TO hq (by rw[DZ];exact mD)⟩
  by_cases he:os[j].e<0
  ·simp[mQ,g0,g5,hb,wB,bz,hr,tj,ecj,eO,he]
   refine next _ ?_ ?_ ?_ (by simp;omega)<;>simp[g0,g1,g5]
  ·have hed:decide (0≤os[j].e)=true:=by simp;omega
   rw[hed] at next DZ
   simp[mQ,g0,g1,g5,hb,wB,bz,hr,tj,ecj,eO,he,rI]
   refine(ap7 S hd (by omega)).mono ?_
   rintro o h4 DE ⟨rfl,rfl,rfl⟩
   cases hbj:d.testBit j with
   |true=>
    rw[hbj] at next
    simp
    refine next _ ?_ ?_ ?_ rfl<;>simp[g0,g1,g5]
   |false=>
    rw[hbj] at DZ
    simp
    simp[vK]
    unfold HF
    exact TN bz (by rw[hbj];exact DZ)
 ·have qL:j=os.length:=by omega
  subst qL
  have fin:HF os d=true:=by unfold HF;exact Of hq
  rcases id hc with⟨e0,e1⟩|e0
  ·have:(os.length:Int)=0:=by rw[e1];rfl
   simp[jh,g0,g5,hb,wB,e0,this]
   simp[ji]
   exact fin
  ·simp[jh,g0,g5,hb,wB,e0]
   simp[ji]
   exact fin
theorem nA{a b:Cf St}(ha:a.2.kids.length≤3)(hb:b.2.kids.length≤3):RY C nJ [.agg (eC a),.agg (eC b)] (·=.ret (.bool (decide (a=b)))):=by
 intro h nx
 have s1:=kTSu nx
 have s2:=kTSu nx.succ
 have rE:C.raw xn=false:=S.nr (by decide)
 have ac1:=aZ a.2.kids
 have ac2:=aZ b.2.kids
 have af1:∀ n H,aO n (aC a.2.kids) H=(aC a.2.kids,H):=dp _
 have af2:∀ n H,aO n (aC b.2.kids) H=(aC b.2.kids,H):=dp _
 refine S.HW.call ?_
 simp[FP]
 simp[EZ,eC,ac1.1,ac2.1]
 have e1:=(E0 h nx (.cells (eC a) .fix)).trans (E0 _ nx.succ (.cells (eC b) .fix))
 simp[eC] at e1
 obtain⟨a1,a2⟩:=a
 obtain⟨b1,b2⟩:=b
 by_cases Us:a1=b1
 ·subst Us
  simp[xw,rE,af1,af2]
  refine aI.known (S.aoz a2 b2 ha hb _ _) ?_
  simp
  exact e1
 ·have aCs:((a1:Int)==b1)=false:=bq (by omega)
  simp[xw,aCs,Us]
  exact e1
theorem ant{a b:Cf St}(ha:a.2.kids.length≤3)(hb:b.2.kids.length≤3):RY C iU [.agg (eC a),.agg (eC b)] (fun o=>∃ v,o=.ret (.bool v)∧(v=true↔(a.1<b.1∨a.1=b.1∧wV a.2 b.2<0))):=by
 intro h nx
 have s1:=kTSu nx
 have s2:=kTSu nx.succ
 have rE:C.raw sA=false:=S.nr (by decide)
 have ac1:=aZ a.2.kids
 have ac2:=aZ b.2.kids
 have af1:∀ n H,aO n (aC a.2.kids) H=(aC a.2.kids,H):=dp _
 have af2:∀ n H,aO n (aC b.2.kids) H=(aC b.2.kids,H):=dp _
 refine S.HX.call ?_
 simp[FR]
 simp[E1,eC,ac1.1,ac2.1]
 have e1:=(E0 h nx (.cells (eC a) .fix)).trans (E0 _ nx.succ (.cells (eC b) .fix))
 simp[eC] at e1
 obtain⟨a1,a2⟩:=a
 obtain⟨b1,b2⟩:=b
 by_cases bO:a1<b1
 ·have aCt:(a1:Int)<b1:=by omega
  simp[qT,aCt]
  exact⟨by simp[bO],e1⟩
 ·have aCt:¬ (a1:Int)<b1:=by omega
  by_cases Us:a1=b1
  ·subst Us
   simp[qT,rE,af1,af2]
   refine aI.known (S.AS a2 b2 ha hb _ _) ?_
   simp
   exact⟨by omega,e1⟩
  ·have aCs:((a1:Int)==b1)=false:=bq (by omega)
   simp[qT,aCt,aCs,Us]
   exact⟨by omega,e1⟩
end Ln
/-
 LN: orders of configurations; what is known to be bad. No condition.
-/
namespace Ln
def Ma(a b:Cf St):Prop:=a.1<b.1∨a.1=b.1∧wV a.2 b.2<0
theorem avM(a:Cf St):¬ Ma a a:=by
 rintro(h|⟨_,h⟩)
 ·omega
 ·rw[Dw.2 rfl] at h;omega
theorem aCl{a b c:Cf St}(h:Ma a b)(k:Ma b c):Ma a c:=by
 rcases h with h|⟨h1,h2⟩<;>rcases k with k|⟨k1,k2⟩
 ·exact .inl (by omega)
 ·exact .inl (by omega)
 ·exact .inl (by omega)
 ·exact .inr ⟨by omega,Fk h2 k2⟩
theorem aya{a b:Cf St}(h:¬ Ma a b)(bU:a≠b):Ma b a:=by
 by_cases h1:b.1<a.1
 ·exact .inl h1
 ·have h4:¬ a.1<b.1:=fun q=>h (.inl q)
  have e:a.1=b.1:=by omega
  refine .inr ⟨e.symm,?_⟩
  have h2:¬ wV a.2 b.2<0:=fun q=>h (.inr ⟨e,q⟩)
  have h3:wV a.2 b.2≠0:=fun q=>bU (Prod.ext e (Dw.1 q))
  refine(QZ _ _).2 ?_
  unfold wV at h2 h3
  omega
theorem azZ{out:List (Cf St)}{x:Cf St}{k:Nat}(hk:k≤out.length)(h:out.Pairwise Ma)(hx:x∉out)(hb:∀ j (hj:j<out.length),k≤j→Ma x out[j])(ha:k=0∨∃ hj:k-1<out.length,¬ Ma x out[k-1]):(out.take k++x ::out.drop k).Pairwise Ma:=by
 have hg:=List.pairwise_iff_getElem.1 h
 have ta:∀ y∈out.take k,Ma y x:=by
  intro y hy
  obtain⟨i,hi,rfl⟩:=List.getElem_of_mem hy
  have hi2:i<k∧i<out.length:=by rw[List.length_take] at hi;omega
  rw[List.getElem_take]
  rcases ha with rfl|⟨hj,hn⟩
  ·omega
  ·have h1:Ma out[k-1] x:=aya hn (by rintro rfl;exact hx (List.getElem_mem hj))
   by_cases e:i=k-1
   ·subst e;exact h1
   ·exact aCl (hg i (k-1) hi2.2 hj (by omega)) h1
 have hhi:∀ y∈out.drop k,Ma x y:=by
  intro y hy
  obtain⟨i,hi,rfl⟩:=List.getElem_of_mem hy
  have hi2:k+i<out.length:=by rw[List.length_drop] at hi;omega
  rw[List.getElem_drop]
  exact hb (k+i) hi2 (by omega)
 have h0:=h
 rw[← List.take_append_drop k out,List.pairwise_append] at h0
 obtain⟨h1,h2,h3⟩:=h0
 rw[List.pairwise_append,List.pairwise_cons]
 refine⟨h1,⟨hhi,h2⟩,?_⟩
 intro a ha2 b Ch
 rcases List.mem_cons.1 Ch with rfl|Ch
 ·exact ta a ha2
 ·exact h3 a ha2 b Ch
theorem awm{out:List (Cf St)}{x:Cf St}(k:Nat)(y:Cf St):y∈out.take k++x ::out.drop k↔y=x∨y∈out:=by
 conv=>rhs;rw[← List.take_append_drop k out]
 simp only[List.mem_append,List.mem_cons]
 constructor
 ·rintro(h|h|h)
  ·exact .inr (.inl h)
  ·exact .inl h
  ·exact .inr (.inr h)
 ·rintro(h|h|h)
  ·exact .inr (.inl h)
  ·exact .inl h
  ·exact .inr (.inr h)
theorem Is{α:Type}[DecidableEq α]:∀ {l m:List α},l.Nodup→(∀ x∈l,x∈m)→l.length≤m.length
 | [],m,_,_=>Nat.zero_le _
 |a ::l,m,h,hs=>by
  rw[List.nodup_cons] at h
  have ha:a∈m:=hs a (by simp)
  have h1:=Is (l:=l) (m:=m.erase a) h.2 fun x hx=>(List.mem_erase_of_ne (by rintro rfl;exact h.1 hx)).2 (hs x (by simp[hx]))
  have h2:=List.length_erase_of_mem ha
  have h3:0<m.length:=List.length_pos_of_mem ha
  simp only[List.length_cons]
  omega
section
variable{σ:Type}[DecidableEq σ]
structure ON(S:Sys σ)(L bad:List (Cf σ)):Prop where
 nodup:bad.Nodup
 sub:∀ x∈bad,x∈L
 no:∀ x∈bad,¬ Good S x
theorem ON.nil(S:Sys σ)(L:List (Cf σ)):ON S L []:=⟨by simp,by simp,by simp⟩
theorem ON.len{S:Sys σ}{L bad:List (Cf σ)}(h:ON S L bad):bad.length≤L.length:=Is h.nodup h.sub
theorem ON.add{S:Sys σ}{L bad:List (Cf σ)}{c:Cf σ}(h:ON S L bad)(hc:c∈L)(hn:c∉bad)(hg:¬ Good S c):ON S L (bad ++ [c]):=by
 refine⟨?_,?_,?_⟩
 ·rw[List.nodup_append]
  refine⟨h.nodup,by simp,?_⟩
  intro a ha b hb
  simp at hb
  rintro rfl
  subst hb
  exact hn ha
 ·intro x hx
  rcases List.mem_append.1 hx with hx|hx
  ·exact h.sub x hx
  ·simp at hx;subst hx;exact hc
 ·intro x hx
  rcases List.mem_append.1 hx with hx|hx
  ·exact h.no x hx
  ·simp at hx;subst hx;exact hg
end
end Ln
