/- A part of the proof. No condition. -/
import Derived.Test.YtecbfpngkfdkoaaGreatP39
import Derived.Test.YtecbfpngkfdkoaaGreatP35
import Derived.Test.YtecbfpngkfdkoaaGreatP37
import Derived.Test.YtecbfpngkfdkoaaGreatP6
import Derived.Lib.LaidTab
set_option linter.unusedSimpArgs false
set_option linter.unusedVariables false
set_option linter.unusedSectionVars false
namespace Ln
open Go.Sx Go
def ayA(c:aX)(a:List U)(s:St):WC:=⟨c,a,fq c s a,s⟩
def av4(Y:zF)(c:aX)(a:List U)(s:St)(rs0:List U)(ss0:List WC)(z:Rc)(rs:List U)(ss:List WC):Nat→Prop
 |0=>z.cl=cD c a∧z.op=Y.op c∧z.cmd=Y.cmd c∧z.args=aC a∧z.s=s∧z.sh=s∧rs=rs0∧ss=ss0
 |1=>z.cmd=Y.cmd c∧z.args=aC a∧z.s=s∧z.sh=fG c s a∧z.res=fq c s a∧rs=rs0 ++ [fq c s a]∧ss=ss0 ++ [ayA c a s]
 |_=>z.s=fG c s a∧z.sh=fG c s a∧rs=rs0 ++ [fq c s a]∧ss=ss0 ++ [ayA c a s]
theorem aC4{z:Nat}{c:AV}{l:List AV}{m:Nat}{h:T ai}{nx:Key}{ob:Option Key}(g:Gr z c l m h nx ob):FY c m:=by
 rcases g with⟨h1,_,h2,_⟩|⟨b,k,_,h1,_⟩|⟨t,_,h1,_⟩
 ·exact .inl ⟨h1,h2⟩
 ·exact .inr (.inr ⟨_,_,_,h1⟩)
 ·exact .inr (.inl ⟨_,_,_,h1⟩)
theorem als(f:Nat)(l c:List AV):FJ (.fn f l c):=fun n h=>asd n h f l c
def VS(X:Kn)(Y:zF)(i:Nat)(b:Key)(h0:T ai)(n0:Key)(c:aX)(a:List U)(s:St)(rs0:List U)(ss0:List WC)(cK:AV)(kept:List (aX×List U))(oK:Option Key)(cP:AV)(pl:List Int)(oP:Option Key)(k:Nat)(h:T ai)(nx:Key):Prop:=
 ∃z rs ss oR oS,XP X Y i b h0 n0 z rs ss oR oS cK kept oK cP pl oP h nx∧av4 Y c a s rs0 ss0 z rs ss k
variable{C:bH}{X:Kn}{Y:zF}(S:Std C X)(Q:Seq C X Y)(J:UY C)
include S Q J
section
variable{i:Nat}(hi:i<3){b:Key}{h0:T ai}{n0:Key}{c:aX}{a:List U}{s:St}{rs0:List U}{ss0:List WC}{cK:AV}{kept:List (aX×List U)}{oK:Option Key}{cP:AV}{pl:List Int}{oP:Option Key}(ha:CQ c a)(hs:zG c.fZ s)(qX:iP c s=true)
include hi ha hs qX
theorem OY(lr:rs0.length≤1000)(ls:ss0.length≤1000)(h:T ai)(nx:Key)(V:VS X Y i b h0 n0 c a s rs0 ss0 cK kept oK cP pl oP 0 h nx) :
  aB C aN [.ptr b 0] h nx (fun o h' nx'=>o=.ret (.bool true)∧VS X Y i b h0 n0 c a s rs0 ss0 cK kept oK cP pl oP 1 h' nx'):=by
 obtain⟨z,rs,ss,oR,oS,V,h1,h2,h3,h4,h5,h6,rfl,rfl⟩:=V;refine(aeB S Q J hi ha V.R h1 h2 h4 (by rw[h5,h6]) (by rw[h5];exact hs) (by rw[h5];exact qX) lr ls).mono ?_;rintro o h' nx' ⟨rfl,cR,cS,Kb,RF,R,F⟩;rw[h5]at R;exact⟨rfl,_,_,_,Kb,RF,V.run R F,h3,h4,rfl,rfl,rfl,rfl,rfl⟩
theorem ajO(h:T ai)(nx:Key)(V:VS X Y i b h0 n0 c a s rs0 ss0 cK kept oK cP pl oP 1 h nx) :
  aB C bV [.ptr b 0] h nx (fun o h' nx'=>o=.ret (.bool true)∧VS X Y i b h0 n0 c a s rs0 ss0 cK kept oK cP pl oP 1 h' nx'):=by
 obtain⟨z,rs,ss,oR,oS,V,h3,h4,h5,h6,h7,h8,h9⟩:=V;refine(ald S Q J hi ha V.R.ok h3 h4 (by rw[h5];exact hs) (by rw[h5];exact qX) (by rw[h5];exact h7) V.R.wa V.R.bn).mono ?_;rintro o h' nx' ⟨rfl,e⟩;exact⟨rfl,z,rs,ss,oR,oS,V.ext e,h3,h4,h5,h6,h7,h8,h9⟩
theorem OZ(h:T ai)(nx:Key)(V:VS X Y i b h0 n0 c a s rs0 ss0 cK kept oK cP pl oP 1 h nx) :
  aB C aM [.ptr b 0] h nx (fun o h' nx'=>o=.ret (.bool true)∧VS X Y i b h0 n0 c a s rs0 ss0 cK kept oK cP pl oP 2 h' nx'):=by
 obtain⟨z,rs,ss,oR,oS,V,h3,h4,h5,h6,h7,h8,h9⟩:=V;refine(adS S Q J hi ha V.R.ok h3 h4 (by rw[h5];exact hs) (by rw[h5];exact qX) (by rw[h5];exact h7) V.R.wa V.R.bn).mono ?_;rintro o h' nx' ⟨rfl,hb,F⟩;rw[h5]at hb;have ok:({z with s:=fG c s a}:Rc).Ok:=⟨V.R.ok.cl,V.R.ok.cmd,V.R.ok.op⟩;exact⟨rfl,_,rs,ss,oR,oS,V.run (V.R.frm F hb ok rfl rfl) (Fr3.ofB F _ _),rfl,h6,h8,h9⟩
theorem aeH(lr:rs0.length≤1000)(ls:ss0.length≤1000){h:T ai}{nx:Key}(V:VS X Y i b h0 n0 c a s rs0 ss0 cK kept oK cP pl oP 0 h nx) :
  aB C gE [.sl (yn b [aN,aM]) 2 1 .any] h nx (fun o h' nx'=>o=.ret (.bool true)∧VS X Y i b h0 n0 c a s rs0 ss0 cK kept oK cP pl oP 2 h' nx'):=by
 refine ahR J (fs:=[aN,aM]) (by decide) (VS X Y i b h0 n0 c a s rs0 ss0 cK kept oK cP pl oP) V ?_;intro k hk hh nn VV;rcases HS k 1 with h1|h1
 ·obtain rfl:k=0:=by omega
  exact OY S Q J hi ha hs qX lr ls hh nn VV
 ·obtain rfl:k=1:=by simp at hk;omega
  exact OZ S Q J hi ha hs qX hh nn VV
theorem alu(lr:rs0.length≤1000)(ls:ss0.length≤1000){h:T ai}{nx:Key}(V:VS X Y i b h0 n0 c a s rs0 ss0 cK kept oK cP pl oP 0 h nx) :
  aB C gE [.sl (yn b [aN,bV,aM]) 3 1 .any] h nx (fun o h' nx'=>o=.ret (.bool true)∧VS X Y i b h0 n0 c a s rs0 ss0 cK kept oK cP pl oP 2 h' nx'):=by
 refine(ahR J (fs:=[aN,bV,aM]) (by decide) (fun k=>VS X Y i b h0 n0 c a s rs0 ss0 cK kept oK cP pl oP (if k<2 then k else k-1)) V ?_).mono fun o h' nx' H=>H;intro k hk hh nn VV;rcases HS k 1 with h1|h1
 ·obtain rfl:k=0:=by omega
  exact OY S Q J hi ha hs qX lr ls hh nn VV
 ·rcases HS k 2 with h2|h2
  ·obtain rfl:k=1:=by omega
   exact ajO S Q J hi ha hs qX hh nn VV
  ·obtain rfl:k=2:=by simp at hk;omega
   exact OZ S Q J hi ha hs qX hh nn VV
end
omit S J in
theorem ag6{c:aX}{a:List U}{z:Rc}(hz:z.Ok):(Rk Y c a z).Ok:=by
 refine⟨rfl,(Q.cmd c).len,?_⟩;show(if iP c z.s=true then Y.op c else z.op).length=3;split
 ·exact(an9 Q c).len
 ·exact hz.op
def VaL(X:Kn)(Y:zF)(i:Nat)(cs:List (aX×List U))(b:Key)(h0:T ai)(n0:Key)(m:Nat)(tm:T AV)(h:T ai)(nx:Key):Prop:=
 ∃(j:Nat) (z:Rc) (rs:List U) (ss:List WC) (oR oS:Option Key) (cK:AV) (oK:Option Key) (cP:AV) (pl:List Int) (oP:Option Key),m=cs.length-j∧j≤cs.length∧ag (K 14) tm=some (.ptr b 0)∧ag (K 16) tm=some cK∧ag (K 17) tm=some cP∧ag (K 34) tm=some (.sl (ak sH cs) cs.length 3 .any)∧ag (K 35) tm=some (I cs.length)∧ag (K 36) tm=some (I j)∧
  XP X Y i b h0 n0 z rs ss oR oS cK ((kU (cs.take j) (aJ i)).map mR) oK cP pl oP h nx∧z.s=Kq (cs.take j) (aJ i)∧z.sh=z.s∧rs.length≤j∧ss.length≤j∧pl.length≤j
omit S Q J in
theorem YP{i:Nat}:∀{l:List (aX×List U)} {s:St},zG i s→(∀x∈l,x.1.fZ=i∧CQ x.1 x.2)→zG i (Kq l s)
 | [],_,hs,_=>hs
 |x ::l,s,hs,h=>by
  unfold Kq;have ht:=fun y hy=>h y (List.mem_cons_of_mem x hy);obtain⟨h1,h2⟩:=h x (by simp);split
  ·exact YP (by subst h1;exact zG.next hs h2 ‹_›) ht
  ·exact YP hs ht
theorem aeI{i:Nat}(hi:i<3){cs:List (aX×List U)}(C0:∀x∈cs,x.1.fZ=i∧CQ x.1 x.2)(hlen:cs.length≤100){b:Key}{h0:T ai}{n0:Key}{P:cJ}{m:Nat}{tm:T AV}{h:T ai}{nx:Key}(hV:VaL X Y i cs b h0 n0 m tm h nx)
  (hQ:∀(aA:T AV) (h':T ai) (nx':Key),VaL X Y i cs b h0 n0 0 aA h' nx'→P .norm aA h' nx'):W C (.loop si) (aP 0 P) tm h nx:=by
 have rN:C.raw iC=true:=S.rw (by decide);have rP:=S.r dy;have rD:=S.r gE;refine W.iM (VaL X Y i cs b h0 n0) hV ?_;rintro m gh h1 bW ⟨j,z,rs,ss,oR,oS,cK,oK,cP,pl,oP,rfl,hj,g14,g16,g17,g34,PD,ZZ,V,zs,zh,lr,ls,lp⟩;refine W.of ?_;simp[si];simp[yZ,PD,ZZ];refine⟨fun dn=>?_,fun ZQ=>?_⟩
 ·have fu:j<cs.length:=by omega
  have s1:=kTSu bW;have hr:=uI.rows cs;have ec:=uI.at fu;have h3:3≤cs.length*3-j*3:=by omega
  obtain⟨hm,ha⟩:=C0 cs[j] (UG _);have OQ:cs.take (j+1)=cs.take j ++ [cs[j]]:=zqu fu;generalize cs[j]=x at *;obtain⟨c,a⟩:=x;simp only at hm ha;have ec':List.take 3 (List.drop (j*3) (ak sH cs))=cD c a:=ec;have hc:=mS c a;have XQ:=hc.len;have ht3:List.take 3 (cD c a)=cD c a:=rfl;have hd3:List.drop 3 (cD c a)=[]:=rfl;have zc:=fun H=>hc.QB 9998 H;simp[Hb,g34,ZZ,fu,hr,h3,ec',ht3,XQ,hc.all,hd3];have E1:=E0 h1 bW (.cells (cD c a) .fix);have V1:=V.ext E1;have c1:ag bW (au bW (Qz (cD c a)) h1)=Qz (cD c a):=by simp
  generalize au bW (Qz (cD c a)) h1=h2 at *;simp[Hc,c1,XQ,ht3,g17,rN];refine(aoa S J ha cP h2 bW.succ).mono ?_;rintro o Py fT ⟨rfl,E3⟩;have V3:=V1.ext E3;have s3:=kTSu fT;simp[XQ,hc.all,hd3];have E4:=E0 Py fT (.cells (cD c a) .fix);have V4:=V3.ext E4;have c4:ag fT (au fT (Qz (cD c a)) Py)=Qz (cD c a):=by simp
  generalize au fT (Qz (cD c a)) Py=h4 at *;have hOk:zG c.fZ z.s:=by rw[zs,hm];exact YP (zG.init i) fun y hy=>C0 y (List.mem_of_mem_take hy)
  simp[El,g14,c4,XQ,ht3,rP,zc];refine(Rj S Q J hi hm ha V4.R.ok hOk V4.R.gR.alq V4.R.wa V4.R.bn).mono ?_;rintro o h5 zI ⟨rfl,b5,F5⟩;have R5:=V4.R.frm F5 b5 (ag6 Q V4.R.ok) rfl rfl;have V5:=V4.run R5 (Fr3.ofB F5 _ _);have ez:Kq (cs.take (j+1)) (aJ i)=if iP c z.s=true then fG c z.s a else z.s:=by rw[OQ,Tw,←zs];show(if iP c z.s=true then Kq [] (fG c z.s a)else Kq [] z.s)=_;rfl
  have er:(kU (cs.take (j+1)) (aJ i)).map mR=(kU (cs.take j) (aJ i)).map mR++(if iP c z.s=true then [(c,a)]else []):=by rw[OQ,Tx,←zs,List.map_append];congr 1;show(if iP c z.s=true then⟨c,a,fq c z.s a⟩ ::kU [] (fG c z.s a)else kU [] z.s).map mR=_;split<;>rfl
  cases qX:iP c z.s with
  |false=>
   rw[qX]at ez er;simp at ez er;have hz5:(Rk Y c a z).s=z.s:=rfl;have hz6:(Rk Y c a z).sh=z.sh:=rfl;have V5':=V5.ext (E0 h5 zI (.cells [I (-1)] .fix));obtain⟨cP',h6,By,oP',hap,gP6,F6⟩:=V5'.gP.Q9 IU rfl (by decide) (by omega) (-1);have V6:=V5'.aCA gP6 F6;have e1:eI (-1)=[I (-1)]:=rfl;rw[e1]at hap;simp;simp[-appendTo,Em,g17,hap];simp[wJ,ZZ];rw[aS (by omega) (by omega)];refine⟨cs.length-(j+1),by omega,j+1,Rk Y c a z,rs,ss,oR,oS,cK,oK,cP',pl ++ [-1],oP',rfl,by omega,by simp[g14],by simp[g16],by simp,by simp[g34],by simp[PD],by simp,?_,?_,?_,by omega,by omega,by simp;omega⟩
   ·rw[er];exact V6
   ·rw[ez];exact hz5
   ·rw[hz5,hz6,zh]
  |true=>
   rw[qX]at ez er;simp at ez er;have lK:=fun {Q L tm h2 n2 k1 d1}=>(aC4 V5.gK).ln (C:=C) (Q:=Q) (L:=L) (tm:=tm) (h2:=h2) (n2:=n2) (k1:=k1) (d1:=d1);have V5':=V5.ext (E0 h5 zI (.cells [I (((kU (cs.take j) (aJ i)).map mR).length:Nat)] .fix));obtain⟨cP',h6,By,oP',hap,gP6,F6⟩:=V5'.gP.Q9 IU rfl (by decide) (by omega) (((kU (cs.take j) (aJ i)).map mR).length:Nat);have V6:=V5'.aCA gP6 F6;have e1:∀n:Int,eI n=[I n]:=fun _=>rfl;rw[e1]at hap;have lk:(kU (cs.take j) (aJ i)).length≤j:=by have:=Mi (cs.take j) (aJ i);simp at this;omega
   have hml:((kU (cs.take j) (aJ i)).map mR).length=(kU (cs.take j) (aJ i)).length:=List.length_map ..;rw[hml]at hap;have c5:ag fT h5=Qz (cD c a):=by rw[F5.g fT (by omega) (fun e=>by have:=V3.R.bn;cases e;omega)];exact c4
   have n5:=F5.n;have c5':ag fT (au zI (Qz [I ((kU (cs.take j) (aJ i)).length:Nat)]) h5)=Qz (cD c a):=by rw[aw (by omega)];exact c5
   have c6:ag fT h6=Qz (cD c a):=by rw[F6.g fT (by have:=kTSu zI;omega) (fun e=>by have:=V3.gP.lt _ e;omega),hml];exact c5'
   have V6':=V6.ext (E0 h6 By (.cells (cD c a) .fix));obtain⟨cK',h7,nx7,oK',hak,gK7,F7⟩:=V6'.gK.Q9 uI rfl (by decide) (by rw[hml];omega) (c,a);have V7:=V6'.aKU gK7 F7;have e2:sH (c,a)=cD c a:=rfl;rw[e2]at hak;simp;simp only[En,kj,lY,lZ,kl,l7,km,l8,l9,kn,ko,ma,mb,mc,me];simp[-appendTo,↓lK,g16,g17,hap];have zcl:=fun H=>hc.QB 9999 H;simp[-appendTo,Eo,g16,c6,XQ,ht3,hd3,zcl,hc.all,hak];have M9:=mg (n:=9998) (b:=nx7) (len:=2) (sz:=1) (l:=yn b [aN,aM]) (H:=au nx7 (Qz (yn b [aN,aM])) h7) (by simp) rfl (by intro x hx;simp[yn]at hx;rcases hx with rfl|rfl<;>exact als _ _ _);simp[yn]at M9;simp[Ep,g14,rD,M9];have V8:=V7.ext ((E0 h7 nx7 (.cells (yn b [aN,aM]) .fix)).put (k:=nx7) (B:=some (.cells (yn b [aN,aM]) .ro)) (gi _));have st0:av4 Y c a z.s rs ss (Rk Y c a z) rs ss 0:=⟨rfl,by show(if iP c z.s=true then Y.op c else z.op)=_;rw[qX];simp,rfl,rfl,rfl,zh,rfl,rfl⟩;refine(aeH S Q J hi (rs0:=rs) (ss0:=ss) (cK:=cK') (kept:=(kU (cs.take j) (aJ i)).map mR ++ [(c,a)]) (oK:=oK') (cP:=cP') (pl:=pl ++ [((kU (cs.take j) (aJ i)).length:Int)]) (oP:=oP') (b:=b) (h0:=h0) (n0:=n0) ha hOk qX (by omega) (by omega) ⟨_,_,_,_,_,by simpa[yn,hml]using V8,st0⟩).mono ?_;rintro o h9 nx9 ⟨rfl,z9,rs9,ss9,oR9,oS9,V9,q1,q2,rfl,rfl⟩;simp;simp[wJ,ZZ];rw[aS (by omega) (by omega)];refine⟨cs.length-(j+1),by omega,j+1,z9,rs ++ [fq c z.s a],ss ++ [ayA c a z.s],oR9,oS9,cK',oK',cP',pl ++ [((kU (cs.take j) (aJ i)).length:Int)],oP',rfl,by omega,by simp[g14],by simp,by simp,by simp[g34],by simp[PD],by simp,?_,?_,?_,by simp;omega,by simp;omega,?_⟩
   ·rw[er];exact V9
   ·rw[q1,ez]
   ·rw[q2,q1]
   ·simp;omega
 ·have:j=cs.length:=by omega
  subst this;exact hQ _ _ _ ⟨cs.length,z,rs,ss,oR,oS,cK,oK,cP,pl,oP,by omega,by omega,by simp[g14],by simp[g16],by simp[g17],by simp[g34],by simp[PD],by simp[ZZ],V,zs,zh,lr,ls,lp⟩
end Ln
namespace Ln
open Go.Sx Go
theorem X5{z:Nat}{α:Type}{enc:α→List AV}(F:Flat z enc){c:AV}{us:List α}{h:T ai}{nx:Key}{ob:Option Key}(g:Gr z c (ak enc us) us.length h nx ob)(n:Nat):∃c' H,aO (n+1) c h=(c',H)∧qf z enc c' us∧∀b:Key,ob≠some b→ag b H=ag b h:=by
 rcases g with⟨rfl,e1,e2,_⟩|⟨b,k,rfl,rfl,hb,_,hl,hk⟩|⟨t,rfl,rfl,_⟩
 ·exact⟨_,_,rfl,.inl ⟨rfl,zqr e2⟩,fun _ _=>rfl⟩
 ·rcases hk with rfl|rfl
  ·exact⟨_,_,pD hb hl (F.FB us),.inr rfl,fun x hx=>aD _ _ _ _ (fun e=>hx (by rw[e]))⟩
  ·exact⟨_,_,mg hb hl (F.FB us),.inr rfl,fun x hx=>aD _ _ _ _ (fun e=>hx (by rw[e]))⟩
 ·exact⟨_,_,rfl,.inr rfl,fun _ _=>rfl⟩
variable{C:bH}{X:Kn}{Y:zF}(S:Std C X)(Q:Seq C X Y)(J:UY C)
include S Q J
theorem aoY{i:Nat}(hi:i<3){cs:List (aX×List U)}(C0:∀x∈cs,x.1.fZ=i∧CQ x.1 x.2)(hlen:cs.length≤100){cC:AV}(hC:qf 3 sH cC cs)(h:T ai)(nx:Key) :
  aB C pK [X.m,fD i,U2 i,cC,dp,zN] h nx (fun o h' nx'=>(∃cR,qf 3 sH cR ((kU cs (aJ i)).map mR)∧o=.ret (.tuple [cR,I 0]))∧Ext h nx h' nx'):=by
 have s1:=kTSu nx;have s2:=kTSu nx.succ;have s3:=kTSu nx.succ.succ;have rB:=S.r jA;refine J.Je.call ?_;simp[GF];simp[Hx,Kn.m,dp,zN];have e3:=((E0 h nx (.cells [.sl X.rows 7 45 .any] .fix)).trans (E0 _ nx.succ (.cells [I 200,I 50] .fix))).trans (E0 _ nx.succ.succ (.cells [I 0,I 0] .fix));have m3:ag nx (au nx.succ.succ (Qz [I 0,I 0]) (au nx.succ (Qz [I 200,I 50]) (au nx (Qz [.sl X.rows 7 45 .any]) h)))=Qz [.sl X.rows 7 45 .any]:=by rw[aw (by omega),aw (by omega)];simp
 have l3:ag nx.succ (au nx.succ.succ (Qz [I 0,I 0]) (au nx.succ (Qz [I 200,I 50]) (au nx (Qz [.sl X.rows 7 45 .any]) h)))=Qz [I 200,I 50]:=by rw[aw (by omega)];simp
 have z3:ag nx.succ.succ (au nx.succ.succ (Qz [I 0,I 0]) (au nx.succ (Qz [I 200,I 50]) (au nx (Qz [.sl X.rows 7 45 .any]) h)))=Qz [I 0,I 0]:=by simp
 generalize au nx.succ.succ (Qz [I 0,I 0]) (au nx.succ (Qz [I 200,I 50]) (au nx (Qz [.sl X.rows 7 45 .any]) h))=h3 at *;simp[Hy,m3,l3,z3,rB];have bg:=Xh S Q J hi h3 nx.succ.succ.succ;simp[Kn.m,dp,zN]at bg;refine bg.mono ?_;rintro o h4 mC ⟨b,rfl,R,lb,e4⟩;have n4:=e4.n;simp;simp[Hz];simp[HA];simp[HB];have fin:∀tm cK oK z rs ss oR oS cP pl oP h' nx',ag (K 16) tm=some cK→XP X Y i b h4 nx.succ.succ.succ z rs ss oR oS cK ((kU cs (aJ i)).map mR) oK cP pl oP h' nx'→qg C (bO (mE C .ret (gC [.tmp (K 12),.tmp (K 13)] fun o h' nx'=>(∃cR,qf 3 sH cR ((kU cs (aJ i)).map mR)∧o=.ret (.tuple [cR,I 0]))∧Ext h nx h' nx')) (gC [.tmp (K 12),.tmp (K 13)] fun o h' nx'=>(∃cR,qf 3 sH cR ((kU cs (aJ i)).map mR)∧o=.ret (.tuple [cR,I 0]))∧Ext h nx h' nx')) wN tm h' nx':=by intro tm cK oK z rs ss oR oS cP pl oP h' nx' g16 V;obtain⟨c',H,hf,hI,hk⟩:=X5 uI V.gK 9998;have hf:aO 9999 cK h'=(c',H):=hf;have ve:=V.e;have vn:=ve.n;simp[wN,g16,hf];exact⟨hI,by omega,fun x hx=>by rw[hk x (fun e=>by have:=V.lo x (.inr (.inr (.inr (.inl e))));omega),ve.g x (by omega),e4.g x (by omega)];exact e3.g x hx⟩
 have lo0:∀x:Key,x=b∨(none:Option Key)=some x∨(none:Option Key)=some x∨(none:Option Key)=some x∨(none:Option Key)=some x→nx.succ.succ.succ.toNat≤x.toNat:=by
  rintro x (rfl|e|e|e|e)
  ·omega
  all_goals cases e
 have V0:XP X Y i b h4 nx.succ.succ.succ (KQ (aJ i) (aJ i)) [] [] none none .nils [] none .nils [] none h4 mC:=⟨R,Gr.nil _ _ _,Gr.nil _ _ _,by simp,by simp,lo0,⟨n4,fun _ _=>rfl⟩⟩;rcases hC with⟨rfl,rfl⟩|rfl
 ·simp[zd];refine W.ju (W.of ?_);simp[si];simp[yZ];exact fin _ .nils none _ _ _ _ _ _ _ _ _ _ (by simp) V0
 ·simp[zd];refine aeI S Q J hi C0 hlen (b:=b) (h0:=h4) (n0:=nx.succ.succ.succ) (m:=cs.length) ⟨0,_,[],[],none,none,.nils,none,.nils,[],none,by simp,by omega,by simp,by simp,by simp,by simp,by simp,by simp,by simpa[kU]using V0,by simp[Kq,KQ],rfl,by simp,by simp,by simp⟩ ?_;rintro tm5 h5 zI ⟨j,z,rs,ss,oR,oS,cK,oK,cP,pl,oP,hm,hj,g14,g16,g17,g34,PD,ZZ,V,_⟩;have hjj:j=cs.length:=by omega
  subst hjj;rw[List.take_length]at V;exact fin _ cK oK z rs ss oR oS cP pl oP h5 zI g16 V
end Ln
namespace Ln
open Go.Sx Go
def Wz(l:List Sq)(s:St)(k:Nat):WC:=⟨(l.getD k default).c,(l.getD k default).a,(l.getD k default).r,Q8 l s k⟩
def tO(l:List Sq)(s:St)(j:Nat):List WC:=(List.range j).map (Wz l s)
theorem yh(l:List Sq)(s:St)(j:Nat):(tO l s j).length=j:=by simp[tO]
theorem aiX(l:List Sq)(s:St)(j:Nat):tO l s (j+1)=tO l s j ++ [Wz l s j]:=by simp[tO,List.range_succ]
variable{C:bH}{X:Kn}{Y:zF}(S:Std C X)(Q:Seq C X Y)(J:UY C)
def RuL(X:Kn)(Y:zF)(i:Nat)(l:List Sq)(b:Key)(h0:T ai)(n0 p13:Key)(m:Nat)(tm:T AV)(h:T ai)(nx:Key):Prop:=
 ∃(j:Nat) (z:Rc) (rs:List U) (oR oS:Option Key),m=l.length-j∧j≤l.length∧ag (K 13) tm=some (.ptr p13 0)∧ag (K 15) tm=some (.ptr b 0)∧ag (K 33) tm=some (.sl (ak sH (l.map mR)) l.length 3 .any)∧ag (K 34) tm=some (I l.length)∧ag (K 35) tm=some (I j)∧
  XP X Y i b h0 n0 z rs (tO l (aJ i) j) oR oS .nils [] none .nils [] none h nx∧z.s=Q8 l (aJ i) j∧z.sh=z.s∧rs.length≤j
include S Q J
theorem alo{i:Nat}(hi:i<3){l:List Sq}(G:UH i l (aJ i))(hlen:l.length≤100){b:Key}{h0:T ai}{n0 p13:Key}{P:cJ}{m:Nat}{tm:T AV}{h:T ai}{nx:Key}(hV:RuL X Y i l b h0 n0 p13 m tm h nx)
  (hQ:∀(aA:T AV) (h':T ai) (nx':Key),RuL X Y i l b h0 n0 p13 0 aA h' nx'→P .norm aA h' nx'):W C (.loop xN) (aP 0 P) tm h nx:=by
 have rP:=S.r dy;have rD:=S.r gE;refine W.iM (RuL X Y i l b h0 n0 p13) hV ?_;rintro m gh h1 bW ⟨j,z,rs,oR,oS,rfl,hj,g13,g15,g33,g34,PD,V,zs,zh,lr⟩;refine W.of ?_;simp[xN];simp[C1,g34,PD];refine⟨fun dn=>?_,fun ZQ=>?_⟩
 ·have fu:j<l.length:=by omega
  have s1:=kTSu bW;have hjm:j<(l.map mR).length:=by simpa using fu
  have hr:=uI.rows (l.map mR);have ec:=uI.at hjm;have h3:3≤(l.map mR).length*3-j*3:=by omega
  obtain⟨ym,qX,JV,hnx⟩:=G.at fu;obtain⟨hm,ha⟩:=G.okA fu;have DH:Wz l (aJ i) j=⟨l[j].c,l[j].a,l[j].r,Q8 l (aJ i) j⟩:=by unfold Wz;rw[List.getD_eq_getElem?_getD,zC fu];rfl
  rw[List.getElem_map]at ec;generalize l[j]=q at *;obtain⟨c,a,r⟩:=q;simp only at hm ha qX JV hnx DH;have ec':List.take 3 (List.drop (j*3) (ak sH (l.map mR)))=cD c a:=ec;have hc:=mS c a;have XQ:=hc.len;have ht3:List.take 3 (cD c a)=cD c a:=rfl;have hd3:List.drop 3 (cD c a)=[]:=rfl;have zc:=fun H=>hc.QB 9998 H;have hlm:(l.map mR).length=l.length:=List.length_map ..;rw[hlm]at hr h3;simp[Lc,g33,PD,fu,hr,h3,ec',ht3,XQ,hc.all,hd3];have E1:=E0 h1 bW (.cells (cD c a) .fix);have V1:=V.ext E1;have c1:ag bW (au bW (Qz (cD c a)) h1)=Qz (cD c a):=by simp
  generalize au bW (Qz (cD c a)) h1=h2 at *;have d1:=(Q.dec i hi).len;have d2:=(Q.sys i hi).len;have hz:=V1.R.ok;have Ri:=kv (z:=z) d1 d2 hz;have w1:List.take 107 (rB X Y i z)++I j ::List.drop 108 (rB X Y i z)=_:=av3 (z:=z) d1 d2 hz j;have b1:=V1.R.wa;simp[Ld,g15,b1,Ri,w1];have okz:({z with pos:=(j:Int)}:Rc).Ok:=⟨hz.cl,hz.cmd,hz.op⟩;have F2:CZ h2 bW.succ (some b) (au b (Qz (rB X Y i {z with pos:=(j:Int)})) h2) bW.succ (some b):=(CZ.refl h2 bW.succ (some b)).C2 _;have V2:=V1.run (V1.R.frm F2 (by simp) okz rfl rfl) (Fr3.ofB F2 _ _);have hnb:bW≠b:=fun e=>by have:=V.R.bn;rw[←e]at this;omega
  have c2:ag bW (au b (Qz (rB X Y i {z with pos:=(j:Int)})) h2)=Qz (cD c a):=by rw[aD _ _ _ _ hnb];exact c1
  have hs2:({z with pos:=(j:Int)}:Rc).s=Q8 l (aJ i) j:=zs;have hh2:({z with pos:=(j:Int)}:Rc).sh=({z with pos:=(j:Int)}:Rc).s:=zh;generalize ({z with pos:=(j:Int)}:Rc)=z2 at *;generalize au b (Qz (rB X Y i z2)) h2=Py at *;simp[Le,g15,c2,XQ,ht3,rP,zc];have hOk:zG c.fZ z2.s:=by rw[hs2,hm];exact ym
  refine(Rj S Q J hi hm ha V2.R.ok hOk V2.R.gR.alq V2.R.wa V2.R.bn).mono ?_;rintro o h5 zI ⟨rfl,b5,F5⟩;have R5:=V2.R.frm F5 b5 (ag6 Q V2.R.ok) rfl rfl;have V5:=V2.run R5 (Fr3.ofB F5 _ _);have alr:iP c z2.s=true:=by rw[hs2];exact qX
  have n5:=F5.n;have s5:=kTSu zI;simp[alr];simp[Lf];have M9:=mg (n:=9998) (b:=zI) (len:=3) (sz:=1) (l:=yn b [aN,bV,aM]) (H:=au zI (Qz (yn b [aN,bV,aM])) h5) (by simp) rfl (by intro x hx;simp[yn]at hx;rcases hx with rfl|rfl|rfl<;>exact als _ _ _);simp[yn]at M9;simp[IX,g15,rD,M9];have V6:=V5.ext ((E0 h5 zI (.cells (yn b [aN,bV,aM]) .fix)).put (k:=zI) (B:=some (.cells (yn b [aN,bV,aM]) .ro)) (gi _));have st0:av4 Y c a z2.s rs (tO l (aJ i) j) (Rk Y c a z2) rs (tO l (aJ i) j) 0:=⟨rfl,by show(if iP c z2.s=true then Y.op c else z2.op)=_;rw[alr];simp,rfl,rfl,rfl,hh2,rfl,rfl⟩;refine(alu S Q J hi (rs0:=rs) (ss0:=tO l (aJ i) j) (cK:=.nils) (kept:=[]) (oK:=none) (cP:=.nils) (pl:=[]) (oP:=none) (b:=b) (h0:=h0) (n0:=n0) ha hOk alr (by omega) (by rw[yh];omega) ⟨_,_,_,_,_,by simpa[yn]using V6,st0⟩).mono ?_;rintro o h9 nx9 ⟨rfl,z9,rs9,ss9,oR9,oS9,V9,q1,q2,rfl,rfl⟩;simp;simp[IY,PD];rw[aS (by omega) (by omega)];refine⟨l.length-(j+1),by omega,j+1,z9,rs ++ [fq c z2.s a],oR9,oS9,rfl,by omega,by simp[g13],by simp[g15],by simp[g33],by simp[g34],by simp,?_,?_,?_,by simp;omega⟩
  ·rw[aiX,DH,JV,←hs2];exact V9
  ·rw[q1,hnx,hs2]
  ·rw[q2,q1]
 ·have:j=l.length:=by omega
  subst this;exact hQ _ _ _ ⟨l.length,z,rs,oR,oS,by omega,by omega,by simp[g13],by simp[g15],by simp[g33],by simp[g34],by simp[PD],V,zs,zh,lr⟩
end Ln
namespace Ln
open Go.Sx Go
variable{C:bH}{X:Kn}{Y:zF}(S:Std C X)(Q:Seq C X Y)(J:UY C)
include S Q J
theorem axM{i:Nat}(hi:i<3){l:List Sq}(G:UH i l (aJ i))(hlen:l.length≤100){cC:AV}(hC:qf 3 sH cC (l.map mR))(h:T ai)(nx:Key) :
  aB C vl [X.m,fD i,U2 i,cC,dp,zN] h nx (fun o h' nx'=>(∃cS,qf 12 Wy cS (tO l (aJ i) l.length)∧o=.ret (.tuple [cS,.agg [I (-1),I 0],I 0]))∧Ext h nx h' nx'):=by
 have s1:=kTSu nx;have s2:=kTSu nx.succ;have s3:=kTSu nx.succ.succ;have s4:=kTSu nx.succ.succ.succ;have rB:=S.r jA;refine J.OT.call ?_;simp[NF];simp[Mc,Kn.m,dp,zN];have e3:=(((E0 h nx (.cells [.sl X.rows 7 45 .any] .fix)).trans (E0 _ nx.succ (.cells [I 200,I 50] .fix))).trans (E0 _ nx.succ.succ (.cells [I 0,I 0] .fix))).trans (E0 _ nx.succ.succ.succ (.cells [I 0,I 0] .fix));have m3:ag nx (au nx.succ.succ.succ (Qz [I 0,I 0]) (au nx.succ.succ (Qz [I 0,I 0]) (au nx.succ (Qz [I 200,I 50]) (au nx (Qz [.sl X.rows 7 45 .any]) h))))=Qz [.sl X.rows 7 45 .any]:=by rw[aw (by omega),aw (by omega),aw (by omega)];simp
 have l3:ag nx.succ (au nx.succ.succ.succ (Qz [I 0,I 0]) (au nx.succ.succ (Qz [I 0,I 0]) (au nx.succ (Qz [I 200,I 50]) (au nx (Qz [.sl X.rows 7 45 .any]) h))))=Qz [I 200,I 50]:=by rw[aw (by omega),aw (by omega)];simp
 have z3:ag nx.succ.succ (au nx.succ.succ.succ (Qz [I 0,I 0]) (au nx.succ.succ (Qz [I 0,I 0]) (au nx.succ (Qz [I 200,I 50]) (au nx (Qz [.sl X.rows 7 45 .any]) h))))=Qz [I 0,I 0]:=by rw[aw (by omega)];simp
 have v3:ag nx.succ.succ.succ (au nx.succ.succ.succ (Qz [I 0,I 0]) (au nx.succ.succ (Qz [I 0,I 0]) (au nx.succ (Qz [I 200,I 50]) (au nx (Qz [.sl X.rows 7 45 .any]) h))))=Qz [I 0,I 0]:=by simp
 generalize au nx.succ.succ.succ (Qz [I 0,I 0]) (au nx.succ.succ (Qz [I 0,I 0]) (au nx.succ (Qz [I 200,I 50]) (au nx (Qz [.sl X.rows 7 45 .any]) h)))=h3 at *;simp[Md,m3,l3,z3,rB];have bg:=Xh S Q J hi h3 nx.succ.succ.succ.succ;simp[Kn.m,dp,zN]at bg;refine bg.mono ?_;rintro o h4 mC ⟨b,rfl,R,lb,e4⟩;have n4:=e4.n;simp;simp[Me];have d1:=(Q.dec i hi).len;have d2:=(Q.sys i hi).len;have lo0:∀x:Key,x=b∨(none:Option Key)=some x∨(none:Option Key)=some x∨(none:Option Key)=some x∨(none:Option Key)=some x→nx.succ.succ.succ.succ.toNat≤x.toNat:=by
  rintro x (rfl|e|e|e|e)
  ·omega
  all_goals cases e
 have V0:XP X Y i b h4 nx.succ.succ.succ.succ (KQ (aJ i) (aJ i)) [] [] none none .nils [] none .nils [] none h4 mC:=⟨R,Gr.nil _ _ _,Gr.nil _ _ _,by simp,by simp,lo0,⟨n4,fun _ _=>rfl⟩⟩;have v4:=(e4.g nx.succ.succ.succ (by omega)).trans v3;have fin:∀tm z rs oR oS h' nx',ag (K 13) tm=some (.ptr nx.succ.succ.succ 0)→ag (K 15) tm=some (.ptr b 0)→XP X Y i b h4 nx.succ.succ.succ.succ z rs (tO l (aJ i) l.length) oR oS .nils [] none .nils [] none h' nx'→
   mE C (.seq (.staged Bo ⟨[K 61,K 62,K 63,K 64,K 65,K 66,K 67,K 68,K 12,K 14],[]⟩) .ret) (gC [.tmp (K 12),.cell (K 13) true 2,.tmp (K 14)] fun o h' nx'=>(∃cS,qf 12 Wy cS (tO l (aJ i) l.length)∧o=.ret (.tuple [cS,.agg [I (-1),I 0],I 0]))∧Ext h nx h' nx') tm h' nx':=by
  intro tm z rs oR oS h' nx' g13 g15 V;have ve:=V.e;have vn:=ve.n;have hz:=V.R.ok;have hl:=kv (z:=z) d1 d2 hz;have q1:=aue (z:=z) d1 d2 hz;have q1':=lat q1;have q2:=aww (z:=z) d1 d2 hz;have v5:ag nx.succ.succ.succ h'=Qz [I 0,I 0]:=by rw[ve.g _ (by omega)];exact v4
  have hb:=V.R.wa;have hgS:=V.R.gS;have aTN:=V.lo;rw[←yh l (aJ i) l.length]at hgS;simp only[yh]at hgS;have gS2:Gr 12 z.cS (ak Wy (tO l (aJ i) l.length)) (tO l (aJ i) l.length).length (au nx.succ.succ.succ (Qz [I (-1),I 0]) h') nx' oS:=V.R.gS.keep (gi _) fun x hx=>aD _ _ _ _ (fun e=>by have:=V.lo x (.inr (.inr (.inl hx)));rw[e]at this;omega);obtain⟨c',H,hf,hI,hk⟩:=X5 JZ gS2 9998;have hf:aO 9999 z.cS (au nx.succ.succ.succ (Qz [I (-1),I 0]) h')=(c',H):=hf;have aTR:ag nx.succ.succ.succ (au nx.succ.succ.succ (Qz [I (-1),I 0]) h')=Qz [I (-1),I 0]:=by simp
  simp[Bo,g13,g15,hb,hl,q1,q1',q2,v5,hf];refine⟨hI,by omega,fun x hx=>?_⟩;rw[hk x (fun e=>by have:=V.lo x (.inr (.inr (.inl e)));omega),aw (by omega),ve.g x (by omega),e4.g x (by omega)];exact e3.g x hx
 have hml:(l.map mR).length=l.length:=List.length_map ..;rcases hC with⟨rfl,aJO⟩|rfl
 ·have hl0:l=[]:=by simpa using aJO
  subst hl0;simp[Dk];refine W.ju (W.of ?_);simp[xN];simp[C1];have key:=fun tm g13 g15=>fin tm _ _ _ _ _ _ g13 g15 V0;simp at key;refine key _ ?_ ?_<;>simp
 ·rw[hml];simp[Dk];refine alo S Q J hi G hlen (b:=b) (h0:=h4) (n0:=nx.succ.succ.succ.succ) (p13:=nx.succ.succ.succ) (m:=l.length) ⟨0,_,[],none,none,by simp,by omega,by simp,by simp,by simp,by simp,by simp,V0,by simp[KQ,abf],rfl,by simp⟩ ?_;rintro tm5 h5 zI ⟨j,z,rs,oR,oS,hm,hj,g13,g15,g33,g34,PD,V,_⟩;have hjj:j=l.length:=by omega
  subst hjj;exact fin _ z rs oR oS h5 zI g13 g15 V
end Ln
namespace Ln
open Go.Sx Go
def Be(n:Int):Prop:=-9223372036854775808≤n∧n<9223372036854775808
def VA(n:Int)(m:Nat):Nat:=(if n<0 then -(n+1)else n).toNat%m
theorem FX{m:Nat}(h:0<m)(n:Int):VA n m<m:=Nat.mod_lt _ h
def Bf(n:Int):Nat:=VA n 3
variable{C:bH}{X:Kn}(S:Std C X)
include S
theorem Ig{n:Int}(hn:Be n){m:Nat}(hm:0<m)(NR:m≤1000000){h:T ai}{nx:Key}:aB C dj [I n,I m] h nx (fun o h' nx'=>o=.ret (I (VA n m))∧h'=h∧nx'=nx):=by
 obtain⟨h1,h2⟩:=hn;have Nq:((m:Int)==0)=false:=bq (by omega);refine S.GY.call ?_;simp[Dp];simp[Ef];have fin:∀(cE:T AV) (k:Nat),(k:Int)<9223372036854775808→VA n m=k%m→ag (K 0) cE=some (I k)→ag (K 1) cE=some (I m)→mE C (.seq (.ops wH) .ret) (gC [.tmp (K 4)] fun o h' nx'=>o=.ret (I (VA n m))∧h'=h∧nx'=nx) cE h nx:=by intro cE k hk e q0 q1;have dn:k%m<m:=Nat.mod_lt _ hm;have ht:Int.tmod (k:Int) (m:Int)=((k%m:Nat):Int):=rfl;have hw:bG .i64 ((k%m:Nat):Int)=((k%m:Nat):Int):=aS (by omega) (by omega);rw[e];simp;simp[-Int.natCast_emod,wH,q0,q1,Nq,ht,hw];exact Int.natCast_emod k m
 simp only[ji,lX]at fin;by_cases dn:n<0
 ·obtain⟨k,hk⟩:=Int.eq_ofNat_of_zero_le (a:=-(n+1)) (by omega);have e:VA n m=k%m:=by unfold VA;rw[if_pos dn,hk];rfl
  have w1:bG .i64 (n+1)=n+1:=aS (by omega) (by omega);have w2:bG .i64 (-(n+1))=k:=by rw[aS (by omega) (by omega),hk]
  simp[wI,dn];simp[Eg,w1,w2];refine fin _ k (by omega) e ?_ ?_<;>simp
 ·obtain⟨k,hk⟩:=Int.eq_ofNat_of_zero_le (a:=n) (by omega);have e:VA n m=k%m:=by unfold VA;rw[if_neg dn,hk];rfl
  simp[wI,dn];refine fin _ k (by omega) e ?_ ?_
  ·simp[hk]
  ·simp
theorem ajL{h:T ai}{nx:Key}:aB C nj [] h nx (fun o h' nx'=>o=.ret (.sl [fD 0,fD 1,fD 2] 3 1 .any)∧Ext h nx h' nx'):=by have s1:=kTSu nx;refine S.GZ.call ?_;simp[Dq];simp[Eh];have fz:=fun(H:T ai) (hg:ag nx H=some (ai.cells [fD 0,fD 1,fD 2] CK.fix))=>mg (n:=9998) (len:=3) (sz:=1) hg rfl (by intro x hx;simp at hx;rcases hx with rfl|rfl|rfl<;>exact gF _ _);simp[Nj]at fz;simp[Ei,fz,Nj];exact E0 _ _ _
theorem Lm{n:Int}(hn:Be n){h:T ai}{nx:Key}:aB C dT [I n] h nx (fun o h' nx'=>o=.ret (fD (Bf n))∧Ext h nx h' nx'):=by
 have rM:=S.r nj;have rA:=S.r dj;refine S.Mg.call ?_;simp[Ko];simp[Jr];simp[Js,rM];refine(ajL S).mono ?_;rintro o h1 bW ⟨rfl,e1⟩;simp[rA];refine(Ig S hn (m:=3) (by omega) (by omega)).mono ?_;rintro o h2 aZ ⟨rfl,rfl,rfl⟩;have dn:=FX (m:=3) (by omega) n;have hi:Bf n=VA n 3:=rfl;rw[hi];generalize VA n 3=k at *;have hk:k=0∨k=1∨k=2:=by omega
 rcases hk with rfl|rfl|rfl<;>simp<;>exact e1
theorem H5{h:T ai}{nx:Key}:aB C dL [] h nx (fun o h' nx'=>o=.ret dp∧Ext h nx h' nx'):=by refine S.G9.call ?_;simp[Dr];simp[Ej];simp[Ek,dp];exact E0 _ _ _
end Ln
namespace Ln
open Go.Sx Go
theorem _root_.Go.Sx.qf.full{z:Nat}{α:Type}{enc:α→List AV}{c:AV}{l:List α}(h:qf z enc c l){i:Nat}(hi:i<l.length):c=.sl (ak enc l) l.length z .any:=by
 rcases h with⟨_,e⟩|e
 ·rw[e]at hi;simp at hi
 ·exact e
def aBn(len:Nat)(ca cb:AV)(h0:T ai)(n0:Key)(j:Nat)(aA:T AV)(h':T ai)(nx':Key):Prop:=∃i:Nat,j=len-i∧i≤len∧ag (K 0) aA=some ca∧ag (K 1) aA=some cb∧ag (K 5) aA=some (I i)∧Ext h0 n0 h' nx'
variable{C:bH}{X:Kn}(S:Std C X)
include S
theorem aab{l:List Int}(hl:l.length≤10000){ca cb:AV}(ha:qf 1 eI ca l)(hb:qf 1 eI cb l){h:T ai}{nx:Key} :
  aB C jQ [ca,cb] h nx (fun o h' nx'=>o=.ret (.bool true)∧Ext h nx h' nx'):=by
 refine S.BM.call ?_;have Ra:=ha.rd h nx;have Rb:=hb.rd h nx;simp[yr];simp[zZ];simp[↓Ra.ln,↓Rb.ln,z6];simp[z8];refine W.iM (n:=l.length) (aBn l.length ca cb h nx) ⟨0,by simp,by omega,by simp,by simp,by simp,Ext.refl _ _⟩ ?_;rintro m gh h1 bW ⟨i,rfl,hi,g0,g1,g5,e1⟩;refine W.of ?_;simp[Aa];have Ra1:=ha.rd h1 bW;by_cases XT:i<l.length
 ·have hii:(i:Int)<l.length:=by omega
  have g0':=g0;have g1':=g1;rw[ha.full XT]at g0';rw[hb.full XT]at g1';have hrl:=vf l;have hx:=HX XT;have tx:1≤l.length-i:=by omega
  simp[↓Ra1.ln,ra,g0,g5,hii];simp[Ab,g0',g1',g5,XT,hrl,hx,tx];simp[Ac,g5];rw[aS (by omega) (by omega)];exact⟨l.length-(i+1),by omega,i+1,rfl,by omega,by simp[g0],by simp[g1],by simp,e1⟩
 ·have Nb:i=l.length:=by omega
  subst Nb;simp[↓Ra1.ln,ra,g0,g5];simp[Ad];exact e1
end Ln
namespace Ln
open Go.Sx Go
theorem anY{k:Int}(h:Be k):Be (Int.tdiv k 3)∧bG .i64 (Int.tdiv k 3)=Int.tdiv k 3:=by
 obtain⟨h1,h2⟩:=h;have:Be (Int.tdiv k 3):=by
  unfold Be;rcases Int.lt_or_le k 0 with hk|hk
  ·have e:Int.tdiv k 3=-((-k) / 3):=by have:=Int.neg_tdiv k 3;rw[Int.tdiv_eq_ediv_of_nonneg (by omega)]at this;omega
   rw[e];omega
  ·rw[Int.tdiv_eq_ediv_of_nonneg hk];omega
 exact⟨this,aS this.1 this.2⟩
def NS:Nat→Nat→aX
 |0,1=>.get|0,_=>.put
 |1,0=>.inc|1,1=>.readC|1,_=>.add
 |_,1=>.readR|_,_=>.write
def YO(c:aX)(k:Int):List U:=if c.ar=1 then [⟨0,VA (Int.tdiv k 3) 3⟩]else []
def se(i:Nat)(k:Int):aX×List U:=(NS i (VA k 3),YO (NS i (VA k 3)) k)
theorem anZ{i r:Nat}(hi:i<3)(hr:r<3):(NS i r).fZ=i:=by
 have:i=0∨i=1∨i=2:=by omega
 have:r=0∨r=1∨r=2:=by omega
 rcases ‹i=0∨_› with rfl|rfl|rfl<;>rcases ‹r=0∨_› with rfl|rfl|rfl<;>rfl
theorem asm(c:aX)(k:Int):CQ c (YO c k):=by
 unfold YO;split
 ·exact⟨by simp[*],by simp⟩
 ·exact⟨by have:=PK c;simp;omega,by simp⟩
theorem an0{i:Nat}(hi:i<3)(k:Int):(se i k).1.fZ=i∧CQ (se i k).1 (se i k).2:=⟨anZ hi (FX (by omega) k),asm _ _⟩
theorem an1{c:aX}{y m1 m2:Nat}(hc:c.name=(m1,m2)){h0 H:T ai}{n0 n2:Key}(hn:n0.toNat≤n2.toNat)(g1:ag n2 H=Qz [I 0,I y,.str 0 0,.nils])(g2:ag n2.succ H=Qz [I (-1)])(e:Ext h0 n0 H n2.succ.succ) :
  [AV.str m1 m2,(aO 9998 (.slice n2 0 1 4) H).1,(aO 9998 (.slice n2.succ 0 1 1) (aO 9998 (.slice n2 0 1 4) H).2).1]=sH (c,[⟨0,(y:Int)⟩])∧Ext h0 n0 (aO 9998 (.slice n2.succ 0 1 1) (aO 9998 (.slice n2 0 1 4) H).2).2 n2.succ.succ:=by
 have s1:=kTSu n2;have nn:n2.succ≠n2:=fun q=>by have:=congrArg Key.toNat q;omega
 have z1:=mg (n:=9997) (len:=1) (sz:=4) g1 rfl (FZ ⟨0,y⟩);have z2:=mg (n:=9997) (len:=1) (sz:=1) (H:=au n2 (some (.cells [I 0,I y,.str 0 0,.nils] .ro)) H) (by rw[aD _ _ _ _ nn];exact g2) rfl (by intro x hx;simp at hx;subst hx;exact cX _ _);rw[z1];simp only;rw[z2];refine⟨?_,(e.put hn).put (by omega)⟩;show _=[AV.str c.name.1 c.name.2,_,_];rw[hc];rfl
variable{C:bH}{X:Kn}{Y:zF}(S:Std C X)(Q:Seq C X Y)(J:UY C)
include S J
theorem Xk{n:Int}(hn:Be n){h:T ai}{nx:Key}:aB C jU [I n] h nx (fun o h' nx'=>o=.ret (U2 (Bf n))∧Ext h nx h' nx'):=by
 have rA:=S.r dj;have s1:=kTSu nx;refine J.GD.call ?_;simp[Dd];simp[Ed];simp[Ee,rA];refine(Ig S hn (m:=3) (by omega) (by omega)).mono ?_;rintro o h2 aZ ⟨rfl,rfl,rfl⟩;have dn:=FX (m:=3) (by omega) n;have hi:Bf n=VA n 3:=rfl;rw[hi];generalize VA n 3=k at *;have hk:k=0∨k=1∨k=2:=by omega
 rcases hk with rfl|rfl|rfl<;>simp[ard]<;>exact E0 _ _ _
theorem ajK{k:Int}(hk:Be k)(c:aX){tm:T AV}{h0 h:T ai}{n0 nx p4 p6:Key}(g1:ag (K 1) tm=some (I k))(g4:ag (K 4) tm=some (.ptr p4 0))(g6:ag (K 6) tm=some (.ptr p6 0))(b4:ag p4 h=Qz [.str 0 0,.nils,.nils])(b6:ag p6 h=Qz [.str c.name.1 c.name.2,.nils,.nils])(l4:n0.toNat≤p4.toNat)(l46:p4.toNat<p6.toNat)(l6:p6.toNat<nx.toNat)(e:Ext h0 n0 h nx) :
  mE C (.seq (.seq (.ops pN) (.cond (.t (K 32)) (.seq (.ops uP) (.ops uR)) .skip)) (.seq (.ops nh) .ret)) (gC [.cell (K 4) true 3] fun o h' nx'=>o=.ret (.agg (sH (c,YO c k)))∧Ext h0 n0 h' nx') tm h nx:=by
 have rA:=S.r dj;have s1:=kTSu nx;have s2:=kTSu nx.succ;have en:=e.n;obtain⟨hk3,hw3⟩:=anY hk;have h46:p4≠p6:=by rintro rfl;omega
 have no:c.ar=0→(decide (c.name=(3,7632240))=false):=by cases c<;>decide
 by_cases ha:c.ar=1
 ·have har:YO c k=[⟨0,VA (Int.tdiv k 3) 3⟩]:=by unfold YO;rw[if_pos ha]
  rw[har];have q:c=.put∨c=.add∨c=.write:=by cases c<;>simp_all [aX.ar]
  rcases q with rfl|rfl|rfl
  all_goals
   simp[aX.name]at b6;simp[pN,g6,b6];simp[uP,g1,hw3,rA];refine(Ig S hk3 (m:=3) (by omega) (by omega)).mono ?_;rintro o h2 aZ ⟨rfl,rfl,rfl⟩;generalize VA (Int.tdiv k 3) 3=y at *;have p6n:p6≠aZ:=by rintro rfl;omega
   have p4n:p4≠aZ:=by rintro rfl;omega
   have p6m:p6≠aZ.succ:=by rintro rfl;omega
   have p4m:p4≠aZ.succ:=by rintro rfl;omega
   have nn:aZ≠aZ.succ:=fun q=>by have:=congrArg Key.toNat q;omega
   simp[g6,aD _ _ _ _ p6n,b6];simp[uR,g6,aD _ _ _ _ p6n,aD _ _ _ _ p6m,b6];simp[nh,g4,g6,aD _ _ _ _ p4n,aD _ _ _ _ p4m,aD _ _ _ _ h46,b4];refine an1 ?_ (by omega) ?_ ?_ ?_
   ·rfl
   ·rw[aD _ _ _ _ (Ne.symm p4n),aD _ _ _ _ (Ne.symm p6n),aD _ _ _ _ nn,aD _ _ _ _ (Ne.symm p6n),gTSm]
   ·rw[aD _ _ _ _ (Ne.symm p4m),aD _ _ _ _ (Ne.symm p6m),gTSm]
   ·exact(((((e.trans (E0 _ aZ _)).put (by omega)).up (by omega)).put (by omega)).put (by omega)).put (by omega)
 ·have har:YO c k=[]:=by unfold YO;rw[if_neg ha]
  rw[har];have q:c=.get∨c=.inc∨c=.readC∨c=.readR:=by cases c<;>simp_all [aX.ar]
  rcases q with rfl|rfl|rfl|rfl
  all_goals
   simp[aX.name]at b6;simp[pN,g6,b6];simp[nh,g4,g6,b4,b6];exact⟨rfl,e.put (by omega)⟩
theorem asn{i:Nat}(hi:i<3){k:Int}(hk:Be k){h:T ai}{nx:Key}:aB C rQ [fD i,I k] h nx (fun o h' nx'=>o=.ret (.agg (sH (se i k)))∧Ext h nx h' nx'):=by
 have rA:=S.r dj;have s1:=kTSu nx;have s2:=kTSu nx.succ;have s3:=kTSu nx.succ.succ;have s4:=kTSu nx.succ.succ.succ;have tail:∀(tm:T AV) (h2:T ai) (aZ br:Key),ag (K 1) tm=some (I k)→ag (K 4) tm=some (.ptr nx 0)→ag (K 5) tm=some (.slice br 0 3 1)→ag br h2=Qz [.str (NS i 0).name.1 (NS i 0).name.2,.str (NS i 1).name.1 (NS i 1).name.2,.str (NS i 2).name.1 (NS i 2).name.2]→ag nx h2=Qz [.str 0 0,.nils,.nils]→nx.toNat<aZ.toNat→br.toNat<aZ.toNat→Ext h nx h2 aZ→
   qg C (bO (mE C (.seq (.seq (.ops pN) (.cond (.t (K 32)) (.seq (.ops uP) (.ops uR)) .skip)) (.seq (.ops nh) .ret)) (gC [.cell (K 4) true 3] fun o h' nx'=>o=.ret (.agg (sH (se i k)))∧Ext h nx h' nx')) (gC [.cell (K 4) true 3] fun o h' nx'=>o=.ret (.agg (sH (se i k)))∧Ext h nx h' nx')) Bq tm h2 aZ:=by
  intro tm h2 aZ br g1 g4 g5 hbr b4 l4 lbr e2;have t1:=kTSu aZ;simp only[Bq,kj,lY,lZ,kl,l7,km,l8,l9,kn,ko,ma,mb,mc,me];simp[g1,g5,rA];refine(Ig S hk (m:=3) (by omega) (by omega)).mono ?_;rintro o h3 fT ⟨rfl,rfl,rfl⟩;have dn:=FX (m:=3) (by omega) k;have hcK:se i k=(NS i (VA k 3),YO (NS i (VA k 3)) k):=rfl;rw[hcK];generalize VA k 3=r at *;have hr:r=0∨r=1∨r=2:=by omega
  rcases hr with rfl|rfl|rfl
  all_goals
   simp[g5,hbr];refine ajK S J hk _ (p4:=nx) (p6:=fT) ?_ ?_ ?_ ?_ ?_ (gi _) l4 (by omega) (e2.trans (E0 _ fT _))
   ·simp[g1]
   ·simp[g4]
   ·simp
   ·rw[aw l4];exact b4
   ·simp
 have e1:=(E0 h nx (.cells [AV.str 0 0,AV.nils,AV.nils] .fix)).trans (E0 _ nx.succ (.cells [AV.str 3 7632240,AV.str 3 7628135,AV.str 3 7632240] .fix));have b1:ag nx (au nx.succ (Qz [AV.str 3 7632240,AV.str 3 7628135,AV.str 3 7632240]) (au nx (Qz [AV.str 0 0,AV.nils,AV.nils]) h))=Qz [AV.str 0 0,AV.nils,AV.nils]:=by rw[aw (by omega)];simp
 have c1:ag nx.succ (au nx.succ (Qz [AV.str 3 7632240,AV.str 3 7628135,AV.str 3 7632240]) (au nx (Qz [AV.str 0 0,AV.nils,AV.nils]) h))=Qz [AV.str 3 7632240,AV.str 3 7628135,AV.str 3 7632240]:=by simp
 refine J.LZ.call ?_;simp[Kd];simp[Jn];simp[Jo];generalize au nx.succ (Qz [AV.str 3 7632240,AV.str 3 7628135,AV.str 3 7632240]) (au nx (Qz [AV.str 0 0,AV.nils,AV.nils]) h)=h1 at *;have hi3:i=0∨i=1∨i=2:=by omega
 rcases hi3 with rfl|rfl|rfl
 ·simp[uT,Nj];simp[uU,Nj];refine tail _ _ _ nx.succ ?_ ?_ ?_ c1 b1 (by omega) (by omega) e1<;>simp
 ·simp[uT,Nj];simp[Jp];simp[uU,Nj];refine tail _ _ _ nx.succ.succ ?_ ?_ ?_ ?_ ?_ (by omega) (by omega) (e1.trans (E0 _ _ _))
  ·simp
  ·simp
  ·simp
  ·simp[NS,aX.name]
  ·rw[aw (by omega)];exact b1
 ·simp[uT,Nj];simp[uU,Nj];simp[Jq];refine tail _ _ _ nx.succ.succ ?_ ?_ ?_ ?_ ?_ (by omega) (by omega) (e1.trans (E0 _ _ _))
  ·simp
  ·simp
  ·simp
  ·simp[NS,aX.name]
  ·rw[aw (by omega)];exact b1
end Ln
namespace Ln
open Go.Sx Go
variable{C:bH}{X:Kn}{Y:zF}(S:Std C X)(Q:Seq C X Y)(J:UY C)
include S J
def LsA(X:Kn)(n:Int)(ks:List Int)(c0:AV)(pm:Key)(hB:T ai)(nB:Key)(m:Nat)(tm:T AV)(h:T ai)(nx:Key):Prop:=
 ∃(j:Nat) (cC:AV) (oC:Option Key),m=(ks.take 8).length-j∧j≤(ks.take 8).length∧ag (K 0) tm=some c0∧ag (K 1) tm=some (I n)∧ag (K 5) tm=some (.ptr pm 0)∧ag (K 6) tm=some cC∧ag (K 7) tm=some (I j)∧
  Gr 3 cC (ak sH ((ks.take j).map (se (Bf n)))) ((ks.take j).map (se (Bf n))).length h nx oC∧ag pm h=Qz [.sl X.rows 7 45 .any]∧nB.toNat≤pm.toNat∧pm.toNat<nx.toNat∧(∀x,oC=some x→pm.toNat<x.toNat)∧Ext hB nB h nx
theorem awl{n:Int}(hn:Be n){ks:List Int}(UJ:∀x∈ks,Be x){c0:AV}(U4:qf 1 eI c0 ks){pm:Key}{hB:T ai}{nB:Key}{P:cJ}{m:Nat}{tm:T AV}{h:T ai}{nx:Key}(hV:LsA X n ks c0 pm hB nB m tm h nx)
  (hQ:∀(aA:T AV) (h':T ai) (nx':Key),LsA X n ks c0 pm hB nB 0 aA h' nx'→P .norm aA h' nx'):W C (.loop iZ) (aP 0 P) tm h nx:=by
 have rn:=S.r dT;have rc:=S.r rQ;refine W.iM (LsA X n ks c0 pm hB nB) hV ?_;rintro m gh h1 bW ⟨j,cC,oC,rfl,hj,g0,g1,g5,g6,g7,G,hm,ZX,hpm,vk,E⟩;refine W.of ?_;have R0:=U4.rd h1 bW;have hl8:(ks.take 8).length=min 8 ks.length:=zqy ..;simp only[iZ,ji,lX,tP,qA,La];simp only[oH,kj,lY,lZ,kl,l7,km,l8,l9,kn,ko,ma,mb,mc,me];by_cases fu:j<(ks.take 8).length
 ·have ZT:j<ks.length:=by omega
  have hj8:(j:Int)<8:=by omega
  have aNt:(j:Int)<ks.length:=by omega
  have C0:=U4.full ZT;have g0':=g0;rw[C0]at g0';have hrl:=vf ks;have hx:=HX ZT;have tx:1≤ks.length-j:=by omega
  have bI:∀k:Int,AV.beq (I k) (I k)=true:=fun k=>beq_refl _ rfl;simp[↓R0.ln,g0,g7,aNt,hj8];simp only[oU,kj,lY,lZ,kl,l7,km,l8,l9,kn,ko,ma,mb,mc,me];simp[-appendTo,g0',g1,g6,g7,ZT,hrl,hx,tx,rn];refine(Lm S hn).mono ?_;rintro o h2 aZ ⟨rfl,e2⟩;simp[-appendTo,hrl,hx,tx,bI,rc];have hi3:Bf n<3:=FX (by omega) n;refine(asn S J hi3 (UJ _ (UG ZT))).mono ?_;rintro o h3 fT ⟨rfl,e3⟩;have s3:=kTSu fT;have E3:=e2.trans e3;have fc:∀x,(sH x).length=3:=fun _=>rfl;have fa:∀x,(sH x).all AV.aQ=true:=fun x=>xM.2 (uI.cell x);have ft:∀x,List.take 3 (sH x)=sH x:=fun _=>rfl;have fd:∀x,List.drop 3 (sH x)=[]:=fun _=>rfl;have G3:=(G.ext E3).ext (E0 h3 fT (.cells (sH (se (Bf n) ks[j])) .fix));have hlj:((ks.take j).map (se (Bf n))).length=j:=by simp;omega
  obtain⟨cC',h4,mC,LX,ha,G4,F4⟩:=G3.Q9 uI rfl (by decide) (by omega) (se (Bf n) ks[j]);have hz:∀x H,aY (aO 9999) (sH x) H=(sH x,H):=fun x H=>bw (uI.zD x);simp[-appendTo,fc,fa,ft,fd,hz,ha];simp[oV,g7];rw[aS (by omega) (by omega)];have ht:(ks.take (j+1)).map (se (Bf n))=(ks.take j).map (se (Bf n)) ++ [se (Bf n) ks[j]]:=by rw[zqu ZT,List.map_append];rfl
  have E4:=E3.trans (E0 h3 fT (.cells (sH (se (Bf n) ks[j])) .fix));have n4:=F4.n;have n3:=E4.n;have nE:=E.n;have pmn:oC≠some pm:=fun e=>by have:=vk pm e;omega
  refine⟨min 8 ks.length-(j+1),by omega,j+1,cC',LX,by rw[hl8],by omega,by simp[g0],by simp[g1],by simp[g5],by simp,by simp,?_,?_,ZX,by omega,fun x hx=>?_,⟨by omega,fun x hx=>?_⟩⟩
  ·rw[ht];exact G4
  ·rw[F4.g pm (by omega) pmn,E4.g pm hpm];exact hm
  ·rcases F4.o with e|⟨y,e,hy⟩
   ·exact vk x (e ▸ hx)
   ·rw[e]at hx;cases hx;omega
  ·rw[F4.g x (by omega) (fun e=>by have:=vk x e;omega),E4.g x (by omega)];exact E.g x hx
 ·have PC:j=(ks.take 8).length:=by omega
  have fin:∀tm,(∀q:Nat,q∈[0,1,5,6,7]→ag (K q) tm=ag (K q) gh)→P .norm tm h1 bW:=fun tm hq=>
   hQ _ _ _ ⟨j,cC,oC,by omega,hj,by rw[hq 0 (by simp)];exact g0,by rw[hq 1 (by simp)];exact g1,by rw[hq 5 (by simp)];exact g5,by rw[hq 6 (by simp)];exact g6,by rw[hq 7 (by simp)];exact g7,G,hm,ZX,hpm,vk,E⟩
  by_cases ZT:(j:Int)<ks.length
  ·have hj8:¬(j:Int)<8:=by omega
   simp[↓R0.ln,g0,g7,ZT,hj8];refine fin _ fun q hq=>?_;simp at hq;rcases hq with rfl|rfl|rfl|rfl|rfl<;>simp
  ·simp[↓R0.ln,g0,g7,ZT];refine fin _ fun q hq=>?_;simp at hq;rcases hq with rfl|rfl|rfl|rfl|rfl<;>simp
end Ln
namespace Ln
open Go.Sx Go
theorem alg(l:List Sq){j:Nat}(hj:j<l.length):dE 0 (l.take (j+1))=dE 0 (l.take j) ++ [HR j l[j],Io j l[j]]:=by rw[zqu hj,Q7,Nat.zero_add,zqy,Nat.min_eq_left (by omega)];rfl
variable{C:bH}{X:Kn}{Y:zF}(S:Std C X)(Q:Seq C X Y)(J:UY C)
def LsB(l:List Sq)(s0:St)(cS:AV)(pm:Key)(h0:T ai)(n0:Key)(keep:List (Nat×AV))(m:Nat)(tm:T AV)(h:T ai)(nx:Key):Prop:=
 ∃(j:Nat) (cL cO:AV) (oL oO:Option Key),m=l.length-j∧j≤l.length∧(∀x∈keep,ag (K x.1) tm=some x.2)∧ag (K 10) tm=some cS∧ag (K 13) tm=some cL∧ag (K 14) tm=some cO∧ag (K 15) tm=some (I j)∧
  MP 8 cL (ak eE (dE 0 (l.take j))) (dE 0 (l.take j)).length h nx oL∧Gr 1 cO (ak eI (A9 (List.range j))) (A9 (List.range j)).length h nx oO∧(∀x,oL=some x→n0.toNat≤x.toNat∧oO≠some x)∧(∀x,oO=some x→n0.toNat≤x.toNat)∧Ext h0 n0 h nx
include S
theorem avW{l:List Sq}(hlen:l.length≤8){s0:St}{cS:AV}(hS:qf 12 Wy cS (tO l s0 l.length)){pm:Key}{h0:T ai}{n0:Key}{keep:List (Nat×AV)}(hk:∀x∈keep,x.1∈[0,1,4,5,6,7,8,9,11,12]){P:cJ}{m:Nat}{tm:T AV}{h:T ai}{nx:Key}(hV:LsB l s0 cS pm h0 n0 keep m tm h nx)
  (hQ:∀(aA:T AV) (h':T ai) (nx':Key),LsB l s0 cS pm h0 n0 keep 0 aA h' nx'→P .norm aA h' nx'):W C (.loop fE) (aP 2 P) tm h nx:=by
 refine W.iM (LsB l s0 cS pm h0 n0 keep) hV ?_;rintro m gh h1 bW ⟨j,cL,cO,oL,oO,rfl,hj,gk,g10,g13,g14,g15,GL,GO,aiT,aiU,E⟩;refine W.of ?_;have R0:=hS.rd h1 bW;have sl:=yh l s0 l.length;simp only[fE,ji,lX,tP,qA,La];simp only[mN,kj,lY,lZ,kl,l7,km,l8,l9,kn,ko,ma,mb,mc,me];by_cases fu:j<l.length
 ·have ZT:(j:Int)<l.length:=by omega
  have hjs:j<(tO l s0 l.length).length:=by omega
  have C0:=hS.full hjs;rw[sl]at C0 R0;have aBa:=g10;rw[C0]at aBa;have hr:=JZ.rows (tO l s0 l.length);rw[sl]at hr;have ec:=JZ.at hjs;have eat:(tO l s0 l.length)[j]=⟨l[j].c,l[j].a,l[j].r,Q8 l s0 j⟩:=by simp only[tO,List.getElem_map,List.getElem_range];unfold Wz;rw[List.getD_eq_getElem?_getD,zC fu];rfl
  rw[eat]at ec;have aBb:=alg l fu;generalize l[j]=q at *;obtain⟨c,a,r⟩:=q;have ex:Wy ⟨c,a,r,Q8 l s0 j⟩=[.str c.name.1 c.name.2,aC a,gj a,aC a,I r.k,I r.n,.str 0 0,.nils,I (Q8 l s0 j).k,I (Q8 l s0 j).n,.str 0 0,aC (Q8 l s0 j).kids]:=rfl;simp only at ec;rw[ex]at ec;have h12:12≤l.length*12-j*12:=by omega
  have hm4:Int.tmod (j:Int) 4=((j%4:Nat):Int):=rfl;have hw4:bG .i64 ((j%4:Nat):Int)=((j%4:Nat):Int):=aS (by omega) (by omega);have s1:=kTSu bW;have ca:=cG a;have zaa:∀n H,aO n (aC a) H=(aC a,H):=dY a;have E1:=E0 h1 bW (.cells (eE (HR j ⟨c,a,r⟩)++eE (Io j ⟨c,a,r⟩)) .fix);have GL1:=GL.keep (h':=au bW (Qz (eE (HR j ⟨c,a,r⟩)++eE (Io j ⟨c,a,r⟩))) h1) E1.n fun x hx=>E1.g x (GL.lt x hx);have zS:(eE (HR j ⟨c,a,r⟩)++eE (Io j ⟨c,a,r⟩)).all AV.aQ=true:=by have a0:aC []=.nils:=rfl;simp[eE,HR,Io,ca.1,a0]
  have hhl:(dE 0 (l.take j)).length=2*j:=by rw[yi,zqy,Nat.min_eq_left hj]
  obtain⟨h2,ha,GL2,F2⟩:=GL1.add (m:=2) (new:=eE (HR j ⟨c,a,r⟩)++eE (Io j ⟨c,a,r⟩)) rfl (by decide) rfl (by omega) zS;have aGo:eE (HR j ⟨c,a,r⟩)++eE (Io j ⟨c,a,r⟩)=[I 0,I ((j%4:Nat):Int),.str c.name.1 c.name.2,aC a,I 0,I 0,.str 0 0,.nils,I 1,I ((j%4:Nat):Int),.str 0 0,.nils,I r.k,I r.n,.str 0 0,.nils]:=rfl;rw[aGo]at ha;simp[↓R0.ln,g10,g15,ZT];simp only[mO,kj,lY,lZ,kl,l7,km,l8,l9,kn,ko,ma,mb,mc,me];simp[-appendTo,-Int.natCast_emod,aBa,g13,g15,fu,hr,h12,ec,hm4,hw4,ca.1,ca.2,zaa,ha];have s2:=kTSu bW.succ;have n1:=E1.n;have n2:=F2.n;have aBc:∀x,oO=some x→ag x h2=ag x h1:=fun x hx=>by have Ip:=GO.lt x hx;rw[F2.g x (by omega) (fun e=>(aiT x e).2 hx)];exact E1.g x Ip
  have GO2:=GO.keep (h':=h2) (nx':=bW.succ.succ) (by omega) aBc;have s3:=kTSu bW.succ.succ;have GO3:=GO2.ext (E0 h2 bW.succ.succ (.cells [I j] .fix));have hol:(A9 (List.range j)).length=j:=by simp[A9]
  obtain⟨cO',h4,mC,oO',hao,GO4,F4⟩:=GO3.Q9 IU rfl (by decide) (by omega) (j:Int);have e1:eI (j:Int)=[I j]:=rfl;rw[e1]at hao;simp[-appendTo,mP,g14,g15,hao];simp[mQ,g15];rw[aS (by omega) (by omega)];have ho:A9 (List.range (j+1))=A9 (List.range j) ++ [(j:Int)]:=by simp[A9,List.range_succ]
  have n4:=F4.n;have nE:=E.n;have h3n:oO≠some bW.succ:=fun e=>by have:=GO.lt _ e;omega
  have GL4:=GL2.keep (h':=h4) (nx':=mC) (by omega) fun x hx=>by cases hx;rw[F4.g bW.succ (by omega) h3n,aw (by omega)]
  refine⟨l.length-(j+1),by omega,j+1,.slice bW.succ 0 ((dE 0 (l.take j)).length+2) 8,cO',some bW.succ,oO',rfl,by omega,fun x hx=>?_,by simp[g10],by simp,by simp,by simp,?_,?_,fun x hx=>?_,fun x hx=>?_,⟨by omega,fun x hx=>?_⟩⟩
  ·obtain⟨q,v⟩:=x;have qR:=hk _ hx;have DF:=gk _ hx;simp only at qR DF;simp at qR;rcases qR with rfl|rfl|rfl|rfl|rfl|rfl|rfl|rfl|rfl|rfl<;>simpa using DF
  ·rw[aBb];have el:(dE 0 (l.take j) ++ [HR j ⟨c,a,r⟩,Io j ⟨c,a,r⟩]).length=(dE 0 (l.take j)).length+2:=by simp
   rw[el,gZ];exact GL4
  ·rw[ho];exact GO4
  ·cases hx;refine⟨by omega,fun e=>?_⟩;rcases F4.o with e2|⟨y,e2,hy⟩
   ·exact h3n (e2 ▸ e)
   ·rw[e2]at e;cases e;omega
  ·rcases F4.o with e2|⟨y,e2,hy⟩
   ·exact aiU x (e2 ▸ hx)
   ·rw[e2]at hx;cases hx;omega
  ·rw[F4.g x (by omega) (fun e=>by have:=aiU x e;omega),aw (by omega),F2.g x (by omega) (fun e=>by have:=(aiT x e).1;omega),E1.g x (by omega)];exact E.g x hx
 ·have PC:j=l.length:=by omega
  subst PC;rw[sl]at R0;simp[↓R0.ln,g10,g15];refine hQ _ _ _ ⟨l.length,cL,cO,oL,oO,by omega,by omega,fun x hx=>?_,by simp[g10],by simp[g13],by simp[g14],by simp[g15],GL,GO,aiT,aiU,E⟩;obtain⟨q,v⟩:=x;have qR:=hk _ hx;have DF:=gk _ hx;simp only at qR DF;simp at qR;rcases qR with rfl|rfl|rfl|rfl|rfl|rfl|rfl|rfl|rfl|rfl<;>simpa using DF
end Ln
namespace Ln
open Go.Sx Go
theorem FY.lnG{c:AV}{m:Nat}(g:FY c m){C:bH}{Q:cJ}{L:List ay}{tm:T AV}{h2:T ai}{n2 k1 d1 kg:Key}{b:Bool}(hg:ag kg tm=some (.bool b))(h1:ag k1 tm=some c) :
  qg C Q (⟨some d1,.lenL (.t k1),some (kg,b)⟩ ::L) tm h2 n2=qg C Q L (au d1 (some (I m)) tm) h2 n2:=by
 rcases g with⟨rfl,rfl⟩|⟨l,z,f,rfl⟩|⟨b,o,z,rfl⟩
 ·simp[h1,hg]
 ·simp[h1,hg]
 ·simp[h1,hg]
theorem RA{α:Type}{z:Nat}{enc:α→List AV}{c:AV}{l:List α}(h:qf z enc c l):FY c l.length:=by
 rcases h with⟨rfl,rfl⟩|rfl
 ·exact .inl ⟨rfl,rfl⟩
 ·exact .inr (.inl ⟨_,_,_,rfl⟩)
theorem X4{α:Type}{z:Nat}{enc:α→List AV}{c:AV}{l:List α}(h:qf z enc c l):c.aQ=true∧c.cells=[c]:=by rcases h with⟨rfl,_⟩|rfl<;>exact⟨rfl,rfl⟩
variable{C:bH}{X:Kn}{Y:zF}(S:Std C X)(Q:Seq C X Y)(J:UY C)
include S Q J
theorem aq7{n:Int}(hn:Be n){ks:List Int}{c0:AV}{pm:Key}{hB:T ai}{nB:Key}{M:T AV→T ai→Key→Prop}{Qb:cJ}{tm:T AV}{h:T ai}{nx:Key}(hV:LsA X n ks c0 pm hB nB 0 tm h nx)
  (hQ:∀(aA:T AV) (h':T ai) (nx':Key) (cS:AV) (l:List Sq),l.length≤8→UH (Bf n) l (aJ (Bf n))→qf 12 Wy cS (tO l (aJ (Bf n)) l.length)→ag (K 1) aA=some (I n)→ag (K 5) aA=some (.ptr pm 0)→ag (K 10) aA=some cS→ag pm h'=Qz [.sl X.rows 7 45 .any]→nB.toNat≤pm.toNat→pm.toNat<nx'.toNat→Ext hB nB h' nx'→M aA h' nx') :
  wpS C (bO (mE C (.staged iW ⟨[K 55,K 56,K 57,K 58,K 59,K 60,K 61,K 62,K 63,K 54,K 64,K 65,K 66,K 11,K 10,K 12],[]⟩) (bO (mE C (.seq (.ops iX) (.cond (.t (K 84)) (.seq (.ops nF) .ret) .skip)) (bO M Qb)) Qb)) Qb) ⟨[K 43,K 44,K 45,K 46,K 47,K 48,K 49,K 50,K 51,K 42,K 52,K 53,K 8,K 9],[]⟩ iY [] tm h nx:=by
 obtain⟨j,cC,oC,hj0,hj,g0,g1,g5,g6,g7,G,hm,ZX,hpm,vk,E⟩:=hV;have rn:=S.r dT;have rs:=S.r jU;have rl:=S.r dL;have rv:=S.r pK;have rr:=S.r vl;have hi3:Bf n<3:=FX (by omega) n;have bM:AV.beq (.agg [.sl X.rows 7 45 .any]) (.agg [.sl X.rows 7 45 .any])=true:=Q.adR;have C0:∀x∈(ks.take j).map (se (Bf n)),x.1.fZ=Bf n∧CQ x.1 x.2:=by intro x hx;obtain⟨k,_,rfl⟩:=M4.1 hx;exact an0 hi3 k
 have hlen:((ks.take j).map (se (Bf n))).length≤8:=by simp;simp at hj;omega
 generalize (ks.take j).map (se (Bf n))=cs at *;have zM:∀H,aO 9999 (.agg [.sl X.rows 7 45 .any]) H=(.agg [.sl X.rows 7 45 .any],H):=fun H=>by simp
 simp only[iY,kj,lY,lZ,kl,l7,km,l8,l9,kn,ko,ma,mb,mc,me];simp[g1,g5,g6,hm,rn];refine(Lm S hn).mono ?_;rintro o h1 bW ⟨rfl,e1⟩;have m1:=(e1.g pm hpm).trans hm;have n1:=e1.n;simp[g5,m1,bM,rs];refine(Xk S J hn).mono ?_;rintro o h2 aZ ⟨rfl,e2⟩;have m2:=(e2.g pm (by omega)).trans m1;have n2:=e2.n;simp[g5,m2,bM,rl];refine(H5 S).mono ?_;rintro o h3 fT ⟨rfl,e3⟩;have m3:=(e3.g pm (by omega)).trans m2;have n3:=e3.n;have E3:=e1.trans (e2.trans e3);have G3:=G.ext E3;obtain⟨c',H,hf,hI,hk⟩:=X5 uI G3 9998;have hf:aO 9999 cC h3=(c',H):=hf;have mH:ag pm H=Qz [.sl X.rows 7 45 .any]:=by rw[hk pm (fun e=>by have:=vk pm e;omega)];exact m3
 have zL:∀H,aO 9999 dp H=(dp,H):=fun H=>by simp[dp]
 have zN':∀H,aY (aO 9998) [I 0,I 0] H=([I 0,I 0],H):=fun H=>by simp
 simp[g5,m3,bM,rv,hf,zL];have vo:=aoY S Q J hi3 C0 (by omega) hI H fT;simp[Kn.m,zN]at vo;refine vo.mono ?_;rintro o h5 zI ⟨⟨cV,hI5,rfl⟩,e5⟩;have n5:=e5.n;have GQ:UH (Bf n) (kU cs (aJ (Bf n))) (aJ (Bf n)):=aoB (zG.init _) C0;have hl8:(kU cs (aJ (Bf n))).length≤8:=Nat.le_trans (Mi _ _) hlen;have nE:=E.n;have E5:Ext hB nB h5 zI:=⟨by omega,fun x hx=>by rw[e5.g x (by omega),hk x (fun e=>by have:=vk x e;omega),E3.g x (by omega)];exact E.g x hx⟩;have m5:=(e5.g pm (by omega)).trans mH;generalize kU cs (aJ (Bf n))=l at *;have cv:=X4 hI5;simp[cv.1,cv.2];simp only[iW,kj,lY,lZ,kl,l7,km,l8,l9,kn,ko,ma,mb,mc,me];have s5:=kTSu zI;have zV:∀H,aO 9999 cV H=(cV,H):=fun H=>hI5.zD _ _;simp[g1,g5,m5,rn];refine(Lm S hn).mono ?_;rintro o h6 By ⟨rfl,e6⟩;have m6:=(e6.g pm (by omega)).trans m5;have n6:=e6.n;simp[g5,m6,bM,rs];refine(Xk S J hn).mono ?_;rintro o h7 nx7 ⟨rfl,e7⟩;have m7:=(e7.g pm (by omega)).trans m6;have n7:=e7.n;simp[g5,m7,bM,rl];refine(H5 S).mono ?_;rintro o h8 ZU ⟨rfl,e8⟩;have m8:=(e8.g pm (by omega)).trans m7;have n8:=e8.n;simp[g5,m8,bM,rr,zV,zL];have vr:=axM S Q J hi3 GQ (by omega) hI5 h8 ZU;simp[Kn.m,zN]at vr;refine vr.mono ?_;rintro o h9 nx9 ⟨⟨cS,hS,rfl⟩,e9⟩;have n9:=e9.n;have E9:Ext hB nB h9 nx9:=⟨by omega,fun x hx=>by rw[e9.g x (by omega),e8.g x (by omega),e7.g x (by omega),e6.g x (by omega)];exact E5.g x hx⟩;have m9:=(e9.g pm (by omega)).trans m8;simp;have sl:=yh l (aJ (Bf n)) l.length;have lS:FY cS l.length:=by have:=RA hS;rw[sl]at this;exact this
 have lV:FY cV l.length:=by have:=RA hI5;rw[List.length_map]at this;exact this
 have lS':=fun {Q L tm h2 n2 k1 d1 kg b}=>lS.lnG (C:=C) (Q:=Q) (L:=L) (tm:=tm) (h2:=h2) (n2:=n2) (k1:=k1) (d1:=d1) (kg:=kg) (b:=b);have lV':=fun {Q L tm h2 n2 k1 d1 kg b}=>lV.lnG (C:=C) (Q:=Q) (L:=L) (tm:=tm) (h2:=h2) (n2:=n2) (k1:=k1) (d1:=d1) (kg:=kg) (b:=b);simp only[iX,kj,lY,lZ,kl,l7,km,l8,l9,kn,ko,ma,mb,mc,me];simp[↓lS',↓lV'];refine hQ _ _ _ cS l hl8 GQ hS ?_ ?_ ?_ ?_ ZX (by omega) (E9.put (by omega))
 ·simp[g1]
 ·simp[g5]
 ·simp
 ·rw[aw (by omega)];exact m9
omit S Q J in
theorem X3{l:List Sq}(h:∀q∈l,OkQ q)(hl:l.length≤8):Few (dE 0 l)∧(dI [] (dE 0 l)=0→∀o∈dm 0 (dE 0 l),before o o=false):=by
 refine⟨⟨by rw[yi];omega,?_⟩,fun _ o ho=>?_⟩
 ·have key:∀(l:List Sq) (j:Nat),(∀q∈l,OkQ q)→∀x∈dE j l,x.args.length≤1000:=by
   intro l
   induction l with
   |nil=>intro j _ x hx;simp[dE]at hx
   |cons q l ih=>
    intro j hq x hx;simp only[dE,CR]at hx;rcases hx with rfl|rfl|hx
    ·have:=(hq q (by simp)).len;show q.a.length≤1000;omega
    ·exact Nat.zero_le _
    ·exact ih (j+1) (fun y hy=>hq y (by simp[hy])) x hx
  exact key l 0 h
 ·rw[BP]at ho;obtain⟨k,hk,rfl⟩:=List.getElem_of_mem ho;have:(ky 0 l)[k]?=some (ky 0 l)[k]:=zC hk;rw[Rs]at this;cases hq:l[k]? with
  |none=>rw[hq]at this;cases this
  |some q=>
   rw[hq]at this;have e:opQ (0+k) q=(ky 0 l)[k]:=by simpa using this
   rw[←e,FQ];simp
end Ln
namespace Ln
open Go.Sx Go
variable{C:bH}{X:Kn}{Y:zF}(S:Std C X)(H:Na C)(F:XF X)
include S H F
theorem alZ{i:Nat}(hi:i<3){l:List Sq}(G:UH i l (aJ i))(hl:l.length≤8){ev:AV}{h:T ai}{nx:Key}(hv:Rd 8 ev (ak eE (dE 0 l)) (dE 0 l).length h nx) :
  aB C fW [X.m,fD i,ev,dp] h nx (fun o h' nx'=>(∃cR,qf 1 eI cR (A9 (List.range l.length))∧o=.ret (.tuple [cR,.agg [.nils],I 0]))∧Ext h nx h' nx'):=by
 have ok:=G.okQ;obtain⟨fw,bf⟩:=X3 ok hl;have cb:w9 i (dE 0 l)=0:=WN ok fun q hq=>⟨(G.l q hq).1,(G.l q hq).2.1⟩;have ch:=G.chn F;obtain⟨L0,MO,_⟩:=ch.WL (by omega);have pa:=ch.aBB;rw[abf]at MO pa;refine(aaU S H hi fw bf hv).mono ?_;rintro o h' nx' ⟨e,hR⟩;rw[BP]at hR;rcases hR with⟨cp,_⟩|⟨_,⟨hn,_⟩|⟨L,hb,_,_,⟨p,cR,hp,hI,rfl⟩|⟨hg,_⟩⟩⟩
 ·exact absurd cb cp
 ·rw[MO]at hn;cases hn
 ·rw[pa.uniq hp];exact⟨⟨cR,hI,rfl⟩,e⟩
 ·exact absurd pa.Rr hg
theorem amU{i:Nat}(hi:i<3){l:List Sq}{q:Sq}(G:UH i (l ++ [q]) (aJ i))(hl:(l ++ [q]).length≤8){ev:AV}{h:T ai}{nx:Key}(hv:Rd 8 ev (ak eE (dE 0 (l ++ [LW q]))) (dE 0 (l ++ [LW q])).length h nx) :
  aB C fW [X.m,fD i,ev,dp] h nx (fun o h' nx'=>(∃(cR:AV) (L:List (Cf St)),qf 5 eC cR L∧0<L.length∧o=.ret (.tuple [.nils,.agg [cR],I 0]))∧Ext h nx h' nx'):=by
 obtain⟨ok,ok2⟩:=G.ayq;have PW:(l ++ [LW q]).length≤8:=by simpa using hl
 obtain⟨fw,bf⟩:=X3 ok PW;have cb:w9 i (dE 0 (l ++ [LW q]))=0:=WN ok ok2;have ch:=G.asg F;obtain⟨L0,MO,hL0⟩:=ch.WL (by omega);have ng:=ch.aav (by simp);rw[abf]at MO ng;refine(aaU S H hi fw bf hv).mono ?_;rintro o h' nx' ⟨e,hR⟩;rw[BP]at hR;rcases hR with⟨cp,_⟩|⟨_,⟨hn,_⟩|⟨L,hb,_,_,⟨p,cR,hp,hI,rfl⟩|⟨hg,cR,hI,rfl⟩⟩⟩
 ·exact absurd cb cp
 ·rw[MO]at hn;cases hn
 ·exact absurd hp.Rr ng
 ·rw[MO]at hb;cases hb;refine⟨⟨cR,sP L0,hI,?_,rfl⟩,e⟩;unfold sP;rw[List.length_mergeSort];exact hL0
end Ln
namespace Ln
open Go.Sx Go
theorem arv(l:List Sq)(q:Sq):∃A,ak eE (dE 0 (l ++ [q]))=A++(eU q.r ++ [])∧A.length=(2*l.length+1)*8+4∧ak eE (dE 0 (l ++ [LW q]))=A++(eU (LW q).r ++ []):=by
 have hA:∀q:Sq,dE 0 (l ++ [q])=(dE 0 l ++ [HR l.length q]) ++ [Io l.length q]:=fun q=>by rw[Q7,Nat.zero_add,List.append_assoc];rfl
 have hE:∀q:Sq,eE (Io l.length q)=[I 1,I ((l.length%4:Nat):Int),.str 0 0,.nils]++eU q.r:=fun _=>rfl;have hB:HR l.length (LW q)=HR l.length q:=rfl;refine⟨ak eE (dE 0 l ++ [HR l.length q]) ++ [I 1,I ((l.length%4:Nat):Int),.str 0 0,.nils],?_,?_,?_⟩
 ·rw[hA,gZ,hJ,hE,List.append_nil,List.append_assoc]
 ·rw[xa,FM.rows,xa,yi];rfl
 ·rw[hA,hB,gZ,hJ,hE,List.append_nil,List.append_assoc]
variable{C:bH}{X:Kn}{Y:zF}(S:Std C X)(H:Na C)(Q:Seq C X Y)
include S H Q
theorem al0{n:Int}(hn:Be n){l:List Sq}{q:Sq}(G:UH (Bf n) (l ++ [q]) (aJ (Bf n)))(hl:(l ++ [q]).length≤8){cS:AV}(hS:qf 12 Wy cS (tO (l ++ [q]) (aJ (Bf n)) (l ++ [q]).length)){pm p19 bL:Key}{hB:T ai}{nB:Key}{tm:T AV}{h:T ai}{nx:Key}
  (g1:ag (K 1) tm=some (I n)) (g5:ag (K 5) tm=some (.ptr pm 0)) (g10:ag (K 10) tm=some cS) (g13:ag (K 13) tm=some (.slice bL 0 (2*(l ++ [q]).length) 8)) (g19:ag (K 19) tm=some (.ptr p19 0))
  (hm:ag pm h=Qz [.sl X.rows 7 45 .any]) (hp:ag p19 h=Qz [.nils]) (hb:ag bL h=some (.cells (ak eE (dE 0 (l ++ [q]))) .part)) (n1:pm≠bL) (n2:p19≠bL) (n3:pm≠p19) (lm:pm.toNat<nx.toNat) (lp:p19.toNat<nx.toNat) (lb:bL.toNat<nx.toNat) (bp:nB.toNat≤p19.toNat) (bb:nB.toNat≤bL.toNat) (E:Ext hB nB h nx) :
  mE C (.seq (.ops eW) (.seq (.staged eX ⟨[K 181,K 182,K 183,K 184,K 185,K 186,K 180,K 187,K 188,K 189,K 18,K 20],[]⟩) (.seq (.ops eZ) .ret))) (gC [.tmp (K 4)] fun o h' nx'=>o=.ret (.bool true)∧Ext hB nB h' nx') tm h nx:=by
 have rn:=S.r dT;have rl:=S.r dL;have rF:C.raw fW=true:=S.rw (by decide);have rv:=S.r pG;have hi3:Bf n<3:=FX (by omega) n;have bM:AV.beq (.agg [.sl X.rows 7 45 .any]) (.agg [.sl X.rows 7 45 .any])=true:=Q.adR;have sl:=yh (l ++ [q]) (aJ (Bf n)) (l ++ [q]).length;have ZV:(l ++ [q]).length=l.length+1:=by simp
 have hjs:l.length<(tO (l ++ [q]) (aJ (Bf n)) (l ++ [q]).length).length:=by rw[sl];omega
 have C0:=hS.full hjs;have hr:=JZ.rows (tO (l ++ [q]) (aJ (Bf n)) (l ++ [q]).length);have ec:=JZ.at hjs;have eat:(tO (l ++ [q]) (aJ (Bf n)) (l ++ [q]).length)[l.length]=⟨q.c,q.a,q.r,Q8 (l ++ [q]) (aJ (Bf n)) l.length⟩:=by simp only[tO,List.getElem_map,List.getElem_range];unfold Wz;simp
 rw[eat]at ec;rw[sl,ZV]at C0 hr;rw[C0]at g10;have ex:∀s,Wy ⟨q.c,q.a,q.r,s⟩=[.str q.c.name.1 q.c.name.2,aC q.a,gj q.a,aC q.a,I q.r.k,I q.r.n,.str 0 0,.nils,I s.k,I s.n,.str 0 0,aC s.kids]:=fun _=>rfl;rw[ex]at ec;obtain⟨A,hA1,hA2,hA3⟩:=arv l q;rw[ZV]at g13 hl;have Ny:(ak eE (dE 0 (l ++ [q]))).length=(2*(l.length+1))*8:=by rw[FM.rows,yi,ZV]
 have hsg:=UK hA1 hA2 (n:=4) rfl;have PS:List.take ((2*l.length+1)*8+4) (ak eE (dE 0 (l ++ [q])))++(eU (LW q).r++List.drop ((2*l.length+1)*8+4+4) (ak eE (dE 0 (l ++ [q]))))=ak eE (dE 0 (l ++ [LW q])):=by rw[hsg.2.2,hsg.2.1,hA3]
 have aHm:eU (LW q).r=[I 0,I (w64 (q.r.n+1)),.str 0 0,.nils]:=rfl;rw[aHm]at PS;have aCd:List.take ((2*l.length+1)*8+4) (ak eE (dE 0 (l ++ [q])))++I 0 ::I (bG .i64 (q.r.n+1)) ::.str 0 0 ::.nils ::List.drop ((2*l.length+1)*8+4+4) (ak eE (dE 0 (l ++ [q])))=ak eE (dE 0 (l ++ [LW q])):=PS;have hw1:bG .i64 (2*(l.length+1):Nat)=((2*(l.length+1):Nat):Int):=aS (by omega) (by omega);have hw2:bG .i64 (((2*(l.length+1):Nat):Int)-1)=((2*l.length+1:Nat):Int):=by rw[aS (by omega) (by omega)];omega
 have hw3:bG .i64 (((l.length+1:Nat):Int)-1)=((l.length:Nat):Int):=by rw[aS (by omega) (by omega)];omega
 have h12:12≤(l.length+1)*12-l.length*12:=by omega
 have aSJ:l.length<l.length+1:=by omega
 have aHo:2*l.length+1<2*(l.length+1):=by omega
 have hle:(2*l.length+1)*8+4+4≤2*(l.length+1)*8:=by omega
 have hix:(ak Wy (tO (l ++ [q]) (aJ (Bf n)) (l.length+1)))[l.length*12+5]?=some (I q.r.n):=by have h5:=congrArg (fun z:List AV=>z[5]?) ec;rw[ZV]at h5;simp only[List.getElem?_cons_succ,List.getElem?_cons_zero]at h5;rw[List.getElem?_take_of_lt (by decide),List.getElem?_drop]at h5;exact h5
 have aHp:=lat hix;simp only[ji,lX];simp only[eW,kj,lY,lZ,kl,l7,km,l8,l9,kn,ko,ma,mb,mc,me];simp[-Int.natCast_add,-Int.natCast_mul,g10,g13,hw2,hw3,hr,h12,ec,hb,Ny,aHo,hle,aCd,hix,aHp];have E1:Ext hB nB (au bL (some (.cells (ak eE (dE 0 (l ++ [LW q]))) .part)) h) nx:=E.put bb;have b1:ag bL (au bL (some (.cells (ak eE (dE 0 (l ++ [LW q]))) .part)) h)=some (.cells (ak eE (dE 0 (l ++ [LW q]))) .part):=by simp
 have m1:ag pm (au bL (some (.cells (ak eE (dE 0 (l ++ [LW q]))) .part)) h)=Qz [.sl X.rows 7 45 .any]:=by rw[aD _ _ _ _ n1];exact hm
 have p1:ag p19 (au bL (some (.cells (ak eE (dE 0 (l ++ [LW q]))) .part)) h)=Qz [.nils]:=by rw[aD _ _ _ _ n2];exact hp
 generalize au bL (some (.cells (ak eE (dE 0 (l ++ [LW q]))) .part)) h=h1 at *;have vk:(dE 0 (l ++ [LW q])).length=2*(l.length+1):=by rw[yi];simp
 have hRd:Rd 8 (.slice bL 0 (2*(l.length+1)) 8) (ak eE (dE 0 (l ++ [LW q]))) (dE 0 (l ++ [LW q])).length h1 nx:=by rw[vk];exact .inr (.inr ⟨bL,.part,rfl,b1,lb,by rw[FM.rows,vk]⟩)
 simp only[eX,kj,lY,lZ,kl,l7,km,l8,l9,kn,ko,ma,mb,mc,me];simp[g1,g5,g13,m1,rn];refine(Lm S hn).mono ?_;rintro o h2 aZ ⟨rfl,e2⟩;have m2:=(e2.g pm lm).trans m1;have n2':=e2.n;simp[g5,m2,bM,rl];refine(H5 S).mono ?_;rintro o h3 fT ⟨rfl,e3⟩;have m3:=(e3.g pm (by omega)).trans m2;have n3':=e3.n;simp[g5,m3,bM,rF];have fo:=amU S H Q.f hi3 G (by simpa using hl) ((hRd.ext e2).ext e3);simp[Kn.m]at fo;refine fo.mono ?_;rintro o h4 mC ⟨⟨cR,L,hI,hL0,rfl⟩,e4⟩;have n4:=e4.n;have p4:=(e4.g p19 (by omega)).trans ((e3.g p19 (by omega)).trans ((e2.g p19 lp).trans p1));have cr:=X4 hI;simp[g19,p4,cr.1,cr.2];have lC:=fun {Q L2 tm h2 n2 k1 d1 kg b}=>(RA hI).lnG (C:=C) (Q:=Q) (L:=L2) (tm:=tm) (h2:=h2) (n2:=n2) (k1:=k1) (d1:=d1) (kg:=kg) (b:=b);have aHq:(0:Int)<L.length:=by omega
 simp only[eZ,kj,lY,lZ,kl,l7,km,l8,l9,kn,ko,ma,mb,mc,me];simp[↓lC,g19,aHq,hL0,rv];refine aB.known (S.s_lives _ _) ?_;simp;exact(E1.trans (e2.trans (e3.trans e4))).put bp
end Ln
namespace Ln
open Go.Sx Go
variable{C:bH}{X:Kn}{Y:zF}(S:Std C X)(H:Na C)(Q:Seq C X Y)(J:UY C)
include S H Q J
theorem alX{n:Int}(hn:Be n){l:List Sq}(G:UH (Bf n) l (aJ (Bf n)))(hl:l.length≤8){cS:AV}(hS:qf 12 Wy cS (tO l (aJ (Bf n)) l.length)){pm:Key}{hB:T ai}{nB:Key}{tm:T AV}{h:T ai}{nx:Key}
  (g1:ag (K 1) tm=some (I n)) (g5:ag (K 5) tm=some (.ptr pm 0)) (g10:ag (K 10) tm=some cS) (hm:ag pm h=Qz [.sl X.rows 7 45 .any]) (hpn:nB.toNat≤pm.toNat) (lm:pm.toNat<nx.toNat) (E:Ext hB nB h nx) :
  mE C (.seq (.ops ij) (.seq (.ops ik) (.seq (.seq (.ops ir) (.block 2 (.loop fE))) (.seq (.ops iu) (.seq (.staged iv ⟨[K 126,K 127,K 128,K 129,K 130,K 131,K 125,K 132,K 133,K 134,K 19,K 18,K 20],[]⟩) (.seq (.seq (.ops iw) (.cond (.t (K 159)) (.seq (.ops mU) .ret) .skip)) (.seq (.seq (.ops iy) (.cond (.t (K 162)) (.seq (.ops iz) .ret) .skip)) (.seq (.ops eW) (.seq (.staged eX ⟨[K 181,K 182,K 183,K 184,K 185,K 186,K 180,K 187,K 188,K 189,K 18,K 20],[]⟩) (.seq (.ops eZ) .ret)))))))))) (gC [.tmp (K 4)] fun o h' nx'=>o=.ret (.bool true)∧Ext hB nB h' nx') tm h nx:=by
 have rn:=S.r dT;have rl:=S.r dL;have rO:C.raw jt=true:=S.rw (by decide);have rF:C.raw fW=true:=S.rw (by decide);have rI:=S.r jQ;have rv:=S.r pG;have hi3:Bf n<3:=FX (by omega) n;have bM:AV.beq (.agg [.sl X.rows 7 45 .any]) (.agg [.sl X.rows 7 45 .any])=true:=Q.adR;have nE:=E.n;simp only[ji,lX,tP,qA,La];simp[ij];simp[ik];simp[ir];refine avW S hl hS (pm:=pm) (h0:=h) (n0:=nx) (keep:=[(1,I n),(5,.ptr pm 0)]) (by simp) (m:=l.length) ⟨0,.nils,.nils,none,none,by simp,by omega,?_,by simp[g10],by simp,by simp,by simp,by simpa[dE]using MP.nil 8 h nx,by simpa[A9]using Gr.nil 1 h nx,by simp,by simp,Ext.refl _ _⟩ ?_
 ·intro x hx;simp at hx;rcases hx with rfl|rfl
  ·simp[g1]
  ·simp[g5]
 rintro gh h1 bW ⟨j,cL,cO,oL,oO,hj0,hj,gk,q10,q13,q14,q15,GL,GO,aiT,aiU,e1⟩;have hjj:j=l.length:=by omega
 subst hjj;rw[List.take_length]at GL;have q1:ag (K 1) gh=some (I n):=gk (1,I n) (by simp);have q5:ag (K 5) gh=some (.ptr pm 0):=gk (5,.ptr pm 0) (by simp);have m1:=(e1.g pm lm).trans hm;have n1:=e1.n;have ok:=G.okQ;obtain⟨fw,bf⟩:=X3 ok hl;have vd:=Ru ok;simp[iu,q13,rO];refine(agV S fw h1 bW GL.gr.rd).mono ?_;rintro o h2 aZ ⟨⟨cO2,rfl,hc⟩,e2⟩;rw[if_pos vd,BP]at hc;have n2:=e2.n;have m2:=(e2.g pm (by omega)).trans m1;have s2:=kTSu aZ;have GL2:=GL.keep (h':=h2) (nx':=aZ) n2 fun x hx=>e2.g x (GL.lt x hx);have GO2:=GO.ext e2;simp[vd,DE];simp only[iv,kj,lY,lZ,kl,l7,km,l8,l9,kn,ko,ma,mb,mc,me];simp[q1,q5,q13,m2,rn];refine(Lm S hn).mono ?_;rintro o h3 fT ⟨rfl,e3⟩;have n3:=e3.n;have m3:=(e3.g pm (by omega)).trans m2;simp[q5,m3,bM,rl];refine(H5 S).mono ?_;rintro o h4 mC ⟨rfl,e4⟩;have n4:=e4.n;have m4:=(e4.g pm (by omega)).trans m3;have E24:=(Ext.trans ⟨by omega,fun x hx=>rfl⟩ e3:Ext h2 aZ h3 fT).trans e4;simp[q5,m4,bM,rF];have GL4:=GL2.keep (h':=h4) (nx':=mC) E24.n fun x hx=>E24.g x (GL2.lt x hx);have fh:=alZ S H Q.f hi3 G hl GL4.gr.rd;simp[Kn.m]at fh;refine fh.mono ?_;rintro o h5 zI ⟨⟨cA,hA,rfl⟩,e5⟩;have n5:=e5.n;have E25:=E24.trans e5;have m5:=(e5.g pm (by omega)).trans m4;have cA1:=X4 hA;have zA:∀H,aO 9999 cA H=(cA,H):=fun H=>hA.zD _ _;simp[cA1.1,cA1.2];have ad4:∀x:Key,x.toNat<aZ.toNat→ag x (au aZ (Qz [.nils]) h5)=ag x h2:=fun x hx=>by rw[aw hx];exact E25.g x hx
 have p6:ag aZ (au aZ (Qz [.nils]) h5)=Qz [.nils]:=by simp
 have m6:=(ad4 pm (by omega)).trans m2;have GL6:=GL2.keep (h':=au aZ (Qz [.nils]) h5) (nx':=zI) (by omega) fun x hx=>ad4 x (GL2.lt x hx);have GO6:=GO2.keep (h':=au aZ (Qz [.nils]) h5) (nx':=zI) (by omega) fun x hx=>ad4 x (GO2.lt x hx);have E6:Ext hB nB (au aZ (Qz [.nils]) h5) zI:=⟨by omega,fun x hx=>by rw[ad4 x (by omega),e2.g x (by omega),e1.g x (by omega)];exact E.g x hx⟩;generalize au aZ (Qz [.nils]) h5=h6 at *;have sl:=yh l (aJ (Bf n)) l.length;have lS:FY cS l.length:=by have:=RA hS;rw[sl]at this;exact this
 have lO:FY cO2 l.length:=by have:=RA hc;rw[BO]at this;exact this
 have lS':=fun {Q L tm h2 n2 k1 d1 kg b}=>lS.lnG (C:=C) (Q:=Q) (L:=L) (tm:=tm) (h2:=h2) (n2:=n2) (k1:=k1) (d1:=d1) (kg:=kg) (b:=b);have lO':=fun {Q L tm h2 n2 k1 d1 kg b}=>lO.lnG (C:=C) (Q:=Q) (L:=L) (tm:=tm) (h2:=h2) (n2:=n2) (k1:=k1) (d1:=d1) (kg:=kg) (b:=b);obtain⟨cO7,h7,hf7,hI7,hk7⟩:=X5 IU GO6 9998;have hf7:aO 9999 cO h6=(cO7,h7):=hf7;simp only[iw,kj,lY,lZ,kl,l7,km,l8,l9,kn,ko,ma,mb,mc,me];simp[↓lS',↓lO',q10,q14,rI,zA,hf7];refine(aab S (by simp[A9];omega) hA hI7).mono ?_;rintro o h8 ZU ⟨rfl,e8⟩;have n8:=e8.n;have p7:ag aZ h7=Qz [.nils]:=by rw[hk7 aZ (fun e=>by have:=GO2.lt _ e;omega)];exact p6
 have p8:=(e8.g aZ (by omega)).trans p7;have m8:ag pm h8=Qz [.sl X.rows 7 45 .any]:=by rw[e8.g pm (by omega),hk7 pm (fun e=>by have:=aiU _ e;omega)];exact m6
 have GL8:=GL6.keep (h':=h8) (nx':=ZU) n8 fun x hx=>by rw[e8.g x (GL6.lt x hx)];exact hk7 x (aiT x hx).2
 have E8:Ext hB nB h8 ZU:=⟨by omega,fun x hx=>by rw[e8.g x (by omega),hk7 x (fun e=>by have:=aiU _ e;omega)];exact E6.g x hx⟩;simp[p8];have lL:=fun {Q L tm h2 n2 k1 d1}=>GL8.alq.ln (C:=C) (Q:=Q) (L:=L) (tm:=tm) (h2:=h2) (n2:=n2) (k1:=k1) (d1:=d1);simp only[iy,kj,lY,lZ,kl,l7,km,l8,l9,kn,ko,ma,mb,mc,me];have hhl:=yi l 0;rcases List.eq_nil_or_concat l with rfl|⟨l',q,rfl⟩
 ·have h0:(dE 0 ([]:List Sq)).length=0:=rfl;simp[↓lL,q13,h0];simp[iz,rv];refine aB.known (S.s_lives _ _) ?_;simp;exact E8
 ·rw[List.concat_eq_append]at *;have cp:((dE 0 (l' ++ [q])).length:Int)≠0:=by rw[hhl];simp;omega
  simp[↓lL,q13,bq cp];rcases GL8 with⟨_,e0,_⟩|⟨bL,rfl,rfl,hb,lb,_⟩
  ·exfalso;have:=congrArg List.length e0;rw[FM.rows]at this;simp at this;omega
  ·rw[hhl]at q13;have hbo:=aiT bL rfl;refine al0 S H Q hn G hl hS (pm:=pm) (p19:=aZ) (bL:=bL) ?_ ?_ ?_ ?_ ?_ m8 p8 hb ?_ ?_ ?_ (by omega) (by omega) lb (by omega) (by omega) E8
   ·simp[q1]
   ·simp[q5]
   ·simp[q10]
   ·simp[q13]
   ·simp
   ·rintro rfl;omega
   ·rintro rfl;have:=GL2.lt _ rfl;omega
   ·rintro rfl;omega
theorem aq6{n:Int}(hn:Be n){ks:List Int}(UJ:∀x∈ks,Be x){c0:AV}(U4:qf 1 eI c0 ks)(hB:T ai)(nB:Key) :
  aB C jw [c0,I n] hB nB (fun o h' nx'=>o=.ret (.bool true)∧Ext hB nB h' nx'):=by
 have rM:=S.r yz;have s1:=kTSu nB;refine J.pH.call ?_;simp only[kz,ji,lX,tP,qA,La];simp[oh];simp[oi,rM];refine aB.known (S.s_Module _ _) ?_;simp[Kn.m];have e1:=E0 hB nB (.cells [.sl X.rows 7 45 .any] .fix);have m1:ag nB (au nB (Qz [.sl X.rows 7 45 .any]) hB)=Qz [.sl X.rows 7 45 .any]:=by simp
 simp[om];simp[ou];have hpn:nB.toNat<nB.succ.toNat:=by omega
 generalize au nB (Qz [.sl X.rows 7 45 .any]) hB=h1 at *;refine awl S J hn UJ U4 (pm:=nB) (hB:=hB) (nB:=nB) (m:=(ks.take 8).length) ⟨0,.nils,none,by simp,by omega,by simp,by simp,by simp,by simp,by simp,by simpa using Gr.nil 3 h1 nB.succ,m1,gi _,hpn,by simp,e1⟩ ?_;intro cE h2 aZ V;simp only[C6];refine aq7 S Q J hn V ?_;intro Lo h3 fT cS l hl G hS g1 g5 g10 hm aGX lm E;exact alX S H Q J hn G hl hS g1 g5 g10 hm aGX lm E
end Ln
namespace Go.Sx
def zW(W:World)(c i:Nat):Option Value:=match W.heap[c]? with
 |some (.cells arr _ _)=>arr[i]?
 |_=>none
theorem atm{W:World}:∀c i v,zW W c i=some v→∃arr elem f,W.heap[c]?=some (.cells arr elem f)∧arr[i]?=some v:=by
 intro c i v h;unfold zW at h;split at h
 ·rename_i arr e f he;exact⟨arr,e,f,he,h⟩
 ·cases h
end Go.Sx
