/- A part of the proof. No condition. -/
import Derived.Test.YtecbfpngkfdkoaaGreatP33
import Derived.Test.YtecbfpngkfdkoaaGreatP36
import Derived.Test.YtecbfpngkfdkoaaGreatP11
import Derived.Test.YtecbfpngkfdkoaaGreatP6
import Derived.Lib.LaidTab
set_option linter.unusedSimpArgs false
set_option linter.unusedVariables false
set_option linter.unusedSectionVars false
namespace Ln
open Go.Sx Go
def rdE(i:Nat):Ev:=⟨0,((i%4:Nat):Int),(4,1684104562),[],⟨0,0⟩⟩
def crE:Ev:=⟨2,0,(0,0),[],⟨0,0⟩⟩
def gU:Nat→List Ev
 |0=>[]
 |i+1=>gU i++(if i%4=3 then [rdE i,crE]else [rdE i])
theorem OW:∀i,i≤(gU i).length∧(gU i).length≤i+i / 4
 |0=>by simp[gU]
 |i+1=>by
  have h:=OW i;unfold gU;rw[Ho];split
  ·simp;omega
  ·simp;omega
theorem Uk:∀i,∀x∈gU i,x.kind≠1∧x.args=[]∧(x.kind=0→x.name=(4,1684104562))
 |0,x,h=>by simp[gU]at h
 |i+1,x,h=>by
  unfold gU at h;rcases List.mem_append.1 h with h|h
  ·exact Uk i x h
  ·split at h
   ·simp at h;rcases h with rfl|rfl
    ·exact⟨by simp[rdE],rfl,fun _=>rfl⟩
    ·exact⟨by decide,rfl,fun h=>absurd h (by decide)⟩
   ·simp at h;rw[h];exact⟨by simp[rdE],rfl,fun _=>rfl⟩
theorem acO{c:AV}{l:List Ev}{h:T ah}{nx n0:Key}(hA:App c (ag eE l) l.length 8 h nx n0)(hl:0<l.length)(hb:l.length≤1000)(x:Ev){c':AV}{h':T ah}{nx':Key}(ha:appendTo 8 c (eE x) 1 h nx=.val c' h' nx'):∃t,c'=.sl (ag eE l++eE x) (l.length+1) 8 (.tok t):=by
 have hc:=awx x;have hx:=aDt x;have hr:=jo.rows l;have hw:Cx 8=false:=rfl;have hm:l.length+1≤1048576:=by omega
 rcases hA.is with⟨_,_,e⟩|⟨b,rfl,gx,h1,h2,h3⟩|⟨t,rfl,ht,h1,h2⟩
 ·omega
 ·simp[appendTo,gx,hc,hx,hr,hw,hm]at ha;obtain⟨rfl,_⟩:=ha;exact⟨_,rfl⟩
 ·simp[appendTo,ht,hc,hx,hr,hw,hm]at ha;obtain⟨rfl,_⟩:=ha;exact⟨_,rfl⟩
def CgI(l:List (Cf St))(cP:AV)(n0:Key)(h0:T ah)(m:Nat)(aw:T AV)(h':T ah)(nx':Key):Prop:=∃(j:Nat) (c3:AV) (ob:Option Key),m=l.length-j∧j≤l.length∧ae (K 1) aw=some (.ptr n0 0)∧ae (K 3) aw=some c3∧ae (K 4) aw=some (I j)∧ae n0 h'=Vv [cP]∧n0.toNat<nx'.toNat∧Gr 5 c3 (ag eC (l.take j)) (l.take j).length h' nx' ob∧(∀b,ob=some b→n0.toNat<b.toNat)∧Ext h0 n0 h' nx'
variable{C:bK}{X:Kn}(S:Std C X)
include S
theorem ab8{l:List (Cf St)}(hl:l.length≤10000){cP:AV}(hc:iB 5 eC cP l){h:T ah}{nx:Key} :
  aH C jP [.agg [cP]] h nx (fun o h' nx'=>(∃c,o=.ret c∧iB 5 eC c l)∧Ext h nx h' nx'):=by
 have s1:=kTSu nx;have kP:=hc.cell;refine S.Dd.call ?_;simp[zj];simp[Bo,kP.1,kP.2];simp[Bp];simp[Bq];have e1:=E0 h nx (.cells [cP] .fix);refine W.cM (n:=l.length) (CgI l cP nx h) ⟨0,.nils,none,by simp,by omega,by simp,by simp,by simp,by simp,by omega,Gr.nil _ _ _,by simp,e1⟩ ?_;rintro m dD h1 bF ⟨j,c3,ob,rfl,hj,g1,g3,g4,v1,lt,G,hob,e1⟩;have n1:=e1.n;have t1:=kTSu bF;have R1:=hc.rd h1 bF;refine W.of ?_;simp[Bt];by_cases bG:j<l.length
 ·have sZ:(j:Int)<l.length:=by omega
  have NJ:cP=.sl (ag eC l) l.length 5 .any:=by
   rcases hc with⟨_,e⟩|e
   ·rw[e]at bG;simp at bG
   ·exact e
  have hr:=dE.rows l;have ec:=dE.at bG;have tx:5≤l.length*5-j*5:=by omega
  have e0:(eC l[j])[0]?=some (I l[j].1):=rfl;have OF:(eC l[j]).head?=some (I l[j].1):=rfl;have et:List.take 4 (eC l[j]).tail=eS l[j].2:=rfl;have eds:I l[j].1 ::eS l[j].2=eC l[j]:=rfl;have aNO:(l.take j).length=j:=by rw[V9,Nat.min_eq_left (by omega)]
  have e3:=E0 h1 bF (.cells (eC l[j]) .fix);obtain⟨c6,h6,xI,o6,ha,G6,F6⟩:=(G.ext e3).IJ dE (by decide) (by decide) (by omega) l[j];rw[←Zz bG]at G6;have F:=(qw.qD e3 ob).trans F6;have nF:=F.n;have o6n:∀b,o6=some b→nx.toNat<b.toNat:=fun b e=>by
   rcases F.o with h|⟨b',h,gx⟩
   ·rw[h]at e;exact hob b e
   ·rw[h]at e;cases e;omega
  have e6:Ext h nx h6 xI:=⟨by omega,fun b hb=>by rw[F.g b (by omega) (fun e=>by have:=hob b e;omega)];exact e1.g b hb⟩;simp[↓R1.ln,sG,g1,g4,v1,sZ];simp[-appendTo,Br,g1,g3,g4,v1,NJ,bG,hr,tx,ec,e0,OF,et,mh,lenS,td,PB,wv,eds];rw[Pv];simp[-appendTo,ha];simp[Bs,g4];rw[aC (by omega) (by omega)];rw[←NJ];exact⟨l.length-(j+1),by omega,j+1,c6,o6,rfl,by omega,by simp[g1],by simp,by simp,by rw[F.g nx lt (fun e=>by have:=hob nx e;omega)];exact v1,by omega,G6,o6n,e6⟩
 ·have vK:j=l.length:=by omega
  subst vK;rw[List.take_length]at G;obtain⟨hi,hk⟩:=Gr.EN dE G 9998;simp[↓R1.ln,sG,g1,g4,v1];simp[Bu,g3];exact⟨hi,⟨by omega,fun b hb=>by rw[hk b (fun e=>by have:=hob b e;omega)];exact e1.g b hb⟩⟩
end Ln
namespace Ln
open Go.Sx Go
def YM(X:Kn)(i:Nat)(l:List Ev)(e:Int)(ord:List Int)(Oz:List (Cf St)):Prop:=
 (mj X i l≠0∧e=mj X i l∧ord=[]∧Oz=[])∨
  (mj X i l=0∧((On (Uy X i l) 1025 0 [(0,bZ i)]=none∧e=4∧ord=[]∧Oz=[])∨
   ∃L,On (Uy X i l) 1025 0 [(0,bZ i)]=some L∧e=0∧((∃p,Path (Uy X i l) (0,bZ i) p∧ord=xM p∧Oz=[])∨
    (¬Good (Uy X i l) (0,bZ i)∧ord=[]∧Oz.Pairwise J8∧∀x,x∈Oz↔x∈L))))
theorem YM.uniq{X:Kn}{i:Nat}{l:List Ev}{e e':Int}{o o':List Int}{c c':List (Cf St)}(h:YM X i l e o c)(k:YM X i l e' o' c'):e=e'∧o=o'∧c=c':=by
 rcases h with⟨h0,rfl,rfl,rfl⟩|⟨h0,⟨hb,rfl,rfl,rfl⟩|⟨L,hb,rfl,h⟩⟩<;>rcases k with⟨k0,rfl,rfl,rfl⟩|⟨k0,⟨kb,rfl,rfl,rfl⟩|⟨M,kb,rfl,k⟩⟩
 ·exact⟨rfl,rfl,rfl⟩
 ·exact absurd k0 h0
 ·exact absurd k0 h0
 ·exact absurd h0 k0
 ·exact⟨rfl,rfl,rfl⟩
 ·rw[hb]at kb;cases kb
 ·exact absurd h0 k0
 ·rw[hb]at kb;cases kb
 ·rw[hb]at kb;cases kb;refine⟨rfl,?_⟩;rcases h with⟨p,hp,rfl,rfl⟩|⟨hn,rfl,hw,hm⟩<;>rcases k with⟨q,kp,rfl,rfl⟩|⟨kn,rfl,kw,km⟩
  ·rw[hp.uniq kp];exact⟨rfl,rfl⟩
  ·exact absurd hp.zY kn
  ·exact absurd kp.zY hn
  ·exact⟨rfl,Nv (lt:=J8) adO (fun _ _ _=>U8) hw kw (fun x=>by rw[hm,km])⟩
theorem afN{X:Kn}{i:Nat}{l:List Ev}{h h':T ah}{nx nx':Key}{o:Out}(hF:ahY X i l h nx o h' nx'):Ext h nx h' nx'∧∃(e:Int) (ord:List Int) (Oz:List (Cf St)) (cA cP:AV),YM X i l e ord Oz∧Oz.length≤1024∧(∀y∈Oz,gV i y.2)∧o=.ret (.tuple [cA,.agg [cP],I e])∧iB 1 eI cA ord∧iB 5 eC cP Oz:=by
 obtain⟨e1,hF⟩:=hF;refine⟨e1,?_⟩;rcases hF with⟨h0,rfl⟩|⟨h0,⟨hb,rfl⟩|⟨L,hb,hk,BI,⟨p,cR,hp,hc,rfl⟩|⟨hn,cR,hc,rfl⟩⟩⟩
 ·exact⟨_,[],[],_,_,.inl ⟨h0,rfl,rfl,rfl⟩,by simp,by simp,rfl,.inl ⟨rfl,rfl⟩,.inl ⟨rfl,rfl⟩⟩
 ·exact⟨_,[],[],_,_,.inr ⟨h0,.inl ⟨hb,rfl,rfl,rfl⟩⟩,by simp,by simp,rfl,.inl ⟨rfl,rfl⟩,.inl ⟨rfl,rfl⟩⟩
 ·exact⟨_,_,[],_,_,.inr ⟨h0,.inr ⟨L,hb,rfl,.inl ⟨p,hp,rfl,rfl⟩⟩⟩,by simp,by simp,rfl,hc,.inl ⟨rfl,rfl⟩⟩
 ·refine⟨_,[],kl L,_,_,.inr ⟨h0,.inr ⟨L,hb,rfl,.inr ⟨hn,rfl,akr hk.nodup,TH⟩⟩⟩,?_,fun y hy=>BI y (TH y |>.1 hy),rfl,.inl ⟨rfl,rfl⟩,hc⟩;unfold kl;rw[List.length_mergeSort];exact hk.len
theorem afO{X:Kn}{i:Nat}{l:List Ev}{h h':T ah}{nx nx':Key}{o:Out}(hF:ahO X i l h nx o h' nx'):Ext h nx h' nx'∧∃(e:Int) (ord:List Int) (Oz:List (Cf St)) (cA cP:AV),YM X i l e ord Oz∧ord.length≤16∧o=.ret (.tuple [cA,cP,I e])∧iB 1 eI cA ord∧iB 5 eC cP Oz:=by
 obtain⟨e1,hF⟩:=hF;refine⟨e1,?_⟩;rcases hF with⟨h0,rfl⟩|⟨h0,⟨hb,rfl⟩|⟨L,hb,⟨p,cR,hp,qX,hc,rfl⟩|⟨hn,out,cR,hw,hm,hc,rfl⟩⟩⟩
 ·exact⟨_,[],[],_,_,.inl ⟨h0,rfl,rfl,rfl⟩,by simp,rfl,.inl ⟨rfl,rfl⟩,.inl ⟨rfl,rfl⟩⟩
 ·exact⟨_,[],[],_,_,.inr ⟨h0,.inl ⟨hb,rfl,rfl,rfl⟩⟩,by simp,rfl,.inl ⟨rfl,rfl⟩,.inl ⟨rfl,rfl⟩⟩
 ·exact⟨_,_,[],_,_,.inr ⟨h0,.inr ⟨L,hb,rfl,.inl ⟨p,hp,rfl,rfl⟩⟩⟩,qX,rfl,hc,.inl ⟨rfl,rfl⟩⟩
 ·exact⟨_,[],out,_,_,.inr ⟨h0,.inr ⟨L,hb,rfl,.inr ⟨hn,rfl,hw,hm⟩⟩⟩,by simp,rfl,.inl ⟨rfl,rfl⟩,hc⟩
theorem _root_.Go.Sx.iB.full{z:Nat}{α:Type}{enc:α→List AV}{c:AV}{l:List α}(h:iB z enc c l){i:Nat}(hi:i<l.length):c=.sl (ag enc l) l.length z .any:=by
 rcases h with⟨_,e⟩|e
 ·rw[e]at hi;simp at hi
 ·exact e
def an7(len:Nat)(ca cb:AV)(h0:T ah)(n0:Key)(j:Nat)(aw:T AV)(h':T ah)(nx':Key):Prop:=∃i:Nat,j=len-i∧i≤len∧ae (K 0) aw=some ca∧ae (K 1) aw=some cb∧ae (K 5) aw=some (I i)∧Ext h0 n0 h' nx'
variable{C:bK}{X:Kn}(S:Std C X)
include S
theorem V0{l:List Int}(hl:l.length≤10000){ca cb:AV}(ha:iB 1 eI ca l)(hb:iB 1 eI cb l){h:T ah}{nx:Key} :
  aH C iN [ca,cb] h nx (fun o h' nx'=>o=.ret (.bool true)∧Ext h nx h' nx'):=by
 refine S.zO.call ?_;have Ra:=ha.rd h nx;have Rb:=hb.rd h nx;simp[wu];simp[xV];simp[↓Ra.ln,↓Rb.ln,xW];simp[xX];refine W.cM (n:=l.length) (an7 l.length ca cb h nx) ⟨0,by simp,by omega,by simp,by simp,by simp,Ext.refl _ _⟩ ?_;rintro m dD h1 bF ⟨i,rfl,hi,g0,g1,g5,e1⟩;refine W.of ?_;simp[xY];have Ra1:=ha.rd h1 bF;by_cases Gp:i<l.length
 ·have hii:(i:Int)<l.length:=by omega
  have Q6:=g0;have g1':=g1;rw[ha.full Gp]at Q6;rw[hb.full Gp]at g1';have T8:=kX l;have hx:=Gq Gp;have tx:1≤l.length-i:=by omega
  simp[↓Ra1.ln,pt,g0,g5,hii];simp[xZ,Q6,g1',g5,Gp,T8,hx,tx];simp[x0,g5];rw[aC (by omega) (by omega)];exact⟨l.length-(i+1),by omega,i+1,rfl,by omega,by simp[g0],by simp[g1],by simp,e1⟩
 ·have BF:i=l.length:=by omega
  subst BF;simp[↓Ra1.ln,pt,g0,g5];simp[x4];exact e1
theorem agR{l:List (Cf St)}(hl:l.length≤10000)(hk:∀y∈l,y.2.kids.length≤3){ca cb:AV}(ha:iB 5 eC ca l)(hb:iB 5 eC cb l){h:T ah}{nx:Key} :
  aH C pw [ca,cb] h nx (fun o h' nx'=>o=.ret (.bool true)∧Ext h nx h' nx'):=by
 have rS:=S.r js;refine S.JB.call ?_;have Ra:=ha.rd h nx;have Rb:=hb.rd h nx;simp[IE];simp[Hf];simp[↓Ra.ln,↓Rb.ln,Hg];simp[Hh];refine W.cM (n:=l.length) (an7 l.length ca cb h nx) ⟨0,by simp,by omega,by simp,by simp,by simp,Ext.refl _ _⟩ ?_;rintro m dD h1 bF ⟨i,rfl,hi,g0,g1,g5,e1⟩;refine W.of ?_;simp[Hi];have Ra1:=ha.rd h1 bF;by_cases Gp:i<l.length
 ·have hii:(i:Int)<l.length:=by omega
  have Q6:=g0;have g1':=g1;rw[ha.full Gp]at Q6;rw[hb.full Gp]at g1';have hr:=dE.rows l;have tx:5≤l.length*5-i*5:=by omega
  have ecj:=dE.at Gp;have hki:=hk _ (Mg Gp);have hsm:=V1 S hki hki h1 bF;simp[↓Ra1.ln,y0,g0,g5,hii];simp[Hj,Q6,g1',g5,Gp,hr,tx,ecj,wv,mh,zP,rS,zQ];refine hsm.mono ?_;rintro o h2 aU ⟨rfl,e2⟩;simp;simp[Hk,g5];rw[aC (by omega) (by omega)];exact⟨l.length-(i+1),by omega,i+1,rfl,by omega,by simp[g0,ha.full Gp],by simp[g1,hb.full Gp],by simp,e1.trans e2⟩
 ·have BF:i=l.length:=by omega
  subst BF;simp[↓Ra1.ln,y0,g0,g5];simp[Hl];exact e1
end Ln
namespace Ln
open Go.Sx Go
theorem ajl(i:Nat)(x:Ev)(o:Op):(lF i x o).name=o.name∧(lF i x o).args=o.args∧(lF i x o).b=o.b:=by
 unfold lF;split
 ·split
  ·exact⟨rfl,rfl,rfl⟩
  ·split<;>exact⟨rfl,rfl,rfl⟩
 ·exact⟨rfl,rfl,rfl⟩
def Fwd(o:Op):Prop:=(o.e<0∨(o.b:Int)≤o.e)∧(o.lost<0∨(o.b:Int)≤o.lost)
theorem Qh:∀(l:List Ev) (o:Op) (i:Nat),o.b≤i→Fwd o→Fwd (follow o i l)
 | [],o,i,_,h=>h
 |x ::l,o,i,hb,h=>by
  refine Qh l (lF i x o) (i+1) (by rw[(ajl i x o).2.2];omega) ?_;unfold lF;split
  ·split
   ·exact⟨h.1,.inr (by show(o.b:Int)≤(i:Int);omega)⟩
   ·split
    ·exact⟨.inr (by show(o.b:Int)≤(i:Int);omega),h.2⟩
    ·exact h
  ·exact h
theorem XG:∀(l:List Ev) (i:Nat),∀o∈bO i l,Fwd o
 | [],i,o,ho=>by simp[bO]at ho
 |x ::l,i,o,ho=>by
  rcases List.mem_append.1 ho with ho|ho
  ·split at ho
   ·simp at ho;subst ho;exact Qh l _ _ (by show i≤i+1;omega) ⟨.inl (by show(-1:Int)<0;omega),.inl (by show(-1:Int)<0;omega)⟩
   ·simp at ho
  ·exact XG l (i+1) o ho
theorem XH{l:List Ev}{i:Nat}:∀o∈bO i l,before o o=false:=by intro o ho;obtain⟨h1,h2⟩:=XG l i o ho;unfold before;rw[decide_eq_false_iff_not];omega
variable{C:bK}{X:Kn}(S:Std C X)(H:Mk C)
include S H
theorem as2{ev:AV}{l:List Ev}(hv:iB 8 eE ev l)(hl:YY l){h:T ah}{nx:Key} :
  aH C jZ [X.m,fE 2,ev,X.lim] h nx (fun o h' nx'=>Ext h nx h' nx'∧∃(e:Int) (ord:List Int) (Oz:List (Cf St)) (cA cP:AV),YM X 2 l e ord Oz∧Oz.length≤1024∧(∀y∈Oz,y.2.kids.length≤3)∧o=.ret (.tuple [cA,.agg [cP],I e])∧iB 1 eI cA ord∧iB 5 eC cP Oz):=by
 refine(ahZ S H rfl hv hl (fun _=>XH)).mono fun o h' nx' hF=>?_;obtain⟨e1,e,ord,Oz,cA,cP,h1,h2,h3,h4⟩:=afN hF;exact⟨e1,e,ord,Oz,cA,cP,h1,h2,fun y hy=>EJ (h3 y hy),h4⟩
omit H in
theorem as3{ev:AV}{l:List Ev}(hv:iB 8 eE ev l)(hl:YY l){h:T ah}{nx:Key} :
  aH C lQ [X.m,fE 2,ev,X.lim] h nx (fun o h' nx'=>Ext h nx h' nx'∧∃(e:Int) (ord:List Int) (Oz:List (Cf St)) (cA cP:AV),YM X 2 l e ord Oz∧ord.length≤16∧o=.ret (.tuple [cA,cP,I e])∧iB 1 eI cA ord∧iB 5 eC cP Oz):=
 (ahP S rfl hv hl).mono fun o h' nx' hF=>afO hF
theorem agU(hX:AV.beq X.m X.m=true){l:List Ev}(hl:YY l){t:Key}{bm bw:Key}{tm:T AV}{h hB:T ah}{nx nxB:Key}(q5:ae (K 5) tm=some (.ptr bm 0))(q6:ae (K 6) tm=some (.sl (ag eE l) l.length 8 (.tok t)))(q8:ae (K 8) tm=some (.ptr bw 0))(hbm:ae bm h=Vv [.sl X.rows 7 45 .any])(hbw:ae bw h=Vv [I X.lf,I X.lb])(bn:bm.toNat<nx.toNat)(wn:bw.toNat<nx.toNat)(eB:Ext hB nxB h nx) :
  iH C (.seq (.staged lC ⟨[K 40,K 41,K 42,K 43,K 44,K 39,K 45,K 46,K 47,K 10,K 9,K 11],[]⟩) (.seq (.ops lD) (.seq (.ops lE) .ret))) (dF [.tmp (K 4)] fun o h' nx'=>o=.ret (.bool true)∧Ext hB nxB h' nx') tm h nx:=by
 have re:=S.r lx;have rf:=S.r jZ;have rr:=S.r lQ;have ri:=S.r iN;have rc:=S.r jP;have rs:=S.r pw;have rv:=S.r zt;have hv:iB 8 eE (.sl (ag eE l) l.length 8 .any) l:=.inr rfl;have hvz:∀n H,aN (n+1) (.sl (ag eE l) l.length 8 (.tok t)) H=(.sl (ag eE l) l.length 8 .any,H):=fun n H=>rfl;have as4:l.length≤1000:=by have:=hl.len;omega
 have hlb:AV.beq (.agg [I X.lf,I X.lb]) (.agg [I X.lf,I X.lb])=true:=beq_refl _ rfl;have as5:=hvz 9998;simp only[fH,rj,kj];simp[Kn.m]at hX;simp at as5;simp[lC,q5,q6,q8,hbm,hbw,re,as5];refine(afP S as4 hv).mono ?_;rintro o h1 bF ⟨cE,rfl,hE,e1⟩;have s1:=kTSu nx;have n1:=e1.n;have b1:ae bm h1=Vv [.sl X.rows 7 45 .any]:=by rw[e1.g bm (by omega)];exact hbm
 have w1:ae bw h1=Vv [I X.lf,I X.lb]:=by rw[e1.g bw (by omega)];exact hbw
 have hEz:∀H,aN 9999 cE H=(cE,H):=fun H=>hE.vV _ _;have hmz:∀H,aN 9999 X.m H=(X.m,H):=fun H=>rfl;have hlz:∀H,aN 9999 X.lim H=(X.lim,H):=fun H=>rfl;have hp:=as2 S H hE hl (h:=h1) (nx:=bF);simp only[Kn.m,Kn.lim]at hp hmz hlz;simp[q5,q8,b1,w1,hX,hlb,rf,hEz,hmz,hlz];refine hp.mono ?_;rintro o h3 cF ⟨e3,e,ord,Oz,cA,cP,hF,hc1,hc3,rfl,hA,hP⟩;have n3:=e3.n;have Sd:=e1.trans e3;have kA:=hA.cell;have kP:=hP.cell;simp[kA.1,kA.2,kP.1,kP.2];have eh:Ext h nx (av nx (Vv [cP]) h3) cF:=⟨by omega,fun b hb=>by rw[az hb];exact Sd.g b (by omega)⟩;have vP:ae nx (av nx (Vv [cP]) h3)=Vv [cP]:=by simp
 generalize av nx (Vv [cP]) h3=h4 at *;have b4:ae bm h4=Vv [.sl X.rows 7 45 .any]:=by rw[eh.g bm bn];exact hbm
 have w4:ae bw h4=Vv [I X.lf,I X.lb]:=by rw[eh.g bw wn];exact hbw
 have hr:=as3 S hv hl (h:=h4) (nx:=cF);simp only[Kn.m,Kn.lim]at hr;simp[lD,q5,q6,q8,b4,w4,rr,as5,hmz,hlz];refine hr.mono ?_;rintro o h6 xI ⟨e6,f,aMT,aMU,cB,cQ,hG,aMV,rfl,hB',hQ⟩;obtain⟨rfl,rfl,rfl⟩:=YM.uniq hF hG;have n6:=e6.n;have vP6:ae nx h6=Vv [cP]:=by rw[e6.g nx (by omega)];exact vP
 have hAz:∀n H,aN n cA H=(cA,H):=fun n H=>hA.vV n H;have hBz:∀n H,aN n cB H=(cB,H):=fun n H=>hB'.vV n H;have hPz:∀n H,aN n cP H=(cP,H):=fun n H=>hP.vV n H;have hQz:∀n H,aN n cQ H=(cQ,H):=fun n H=>hQ.vV n H;simp;simp[lE,ri,hAz,hBz];refine(V0 S (by omega) hA hB').mono ?_;rintro o h7 nx7 ⟨rfl,e7⟩;have n7:=e7.n;have vP7:ae nx h7=Vv [cP]:=by rw[e7.g nx (by omega)];exact vP6
 simp[vP7,rc,hPz,kP.1,kP.2];refine(ab8 S (by omega) hP).mono ?_;rintro o h8 nx8 ⟨⟨cR,rfl,hR⟩,e8⟩;have hRz:∀n H,aN n cR H=(cR,H):=fun n H=>hR.vV n H;simp[rs,hRz,hQz];refine(agR S (by omega) hc3 hR hQ).mono ?_;rintro o h9 nx9 ⟨rfl,e9⟩;simp[rv];refine aH.known (S.s_lives _ _) ?_;simp;exact eB.trans ((((eh.trans e6).trans e7).trans e8).trans e9)
end Ln
namespace Ln
open Go.Sx Go
def LmI(n fu:Int)(N:Nat)(bm:Key)(h:T ah)(nx:Key)(m:Nat)(aw:T AV)(h':T ah)(nx':Key):Prop:=∃(j:Nat) (c:AV),m=N-j∧j≤N∧ae (K 0) aw=some (I n)∧ae (K 1) aw=some (I fu)∧ae (K 5) aw=some (.ptr bm 0)∧ae (K 6) aw=some c∧ae (K 7) aw=some (I j)∧App c (ag eE (gU j)) (gU j).length 8 h' nx' nx∧(2≤(gU j).length→∃t,c=.sl (ag eE (gU j)) (gU j).length 8 (.tok t))∧Ext h nx h' nx'
variable{C:bK}{X:Kn}(S:Std C X)
include S
theorem aeq{n fu:Int}(hn:V2 n){bm:Key}{h:T ah}{nx:Key}{Q:cH}{m:Nat}{tm:T AV}{h1:T ah}{bF:Key}(A:LmI n fu (9+NB n 3) bm h nx m tm h1 bF)
  (hQ:∀aw h' nx' t,ae (K 1) aw=some (I fu)→ae (K 5) aw=some (.ptr bm 0)→ae (K 6) aw=some (.sl (ag eE (gU (9+NB n 3))) (gU (9+NB n 3)).length 8 (.tok t))→Ext h nx h' nx'→Q .norm aw h' nx') :
  W C (.loop mC) (aA 0 Q) tm h1 bF:=by
 have rA:=S.r gh;have aJx:=ahs (m:=3) (by omega) n;refine W.cM (LmI n fu (9+NB n 3) bm h nx) A ?_;rintro m dD h2 aU ⟨j,c,rfl,hj,q0,q1,q5,q6,q7,hA,alN,e2⟩;refine W.of ?_;have n2:=e2.n;have s2:=kTSu aU;have hml:=OW j;have hwN:bP .i64 (9+((NB n 3:Nat):Int))=((9+NB n 3:Nat):Int):=by rw[aC (by omega) (by omega)];omega
 simp[mC];simp[uQ,q0,q7,rA];have ha3:=SL S hn (m:=3) (by omega) (by omega) (h:=h2) (nx:=aU);simp at ha3;refine ha3.mono ?_;rintro o h3 cF ⟨rfl,rfl,rfl⟩;obtain⟨N,hN⟩:∃N,N=9+NB n 3:=⟨_,rfl⟩;rw[←hN]at hwN hj hQ ⊢;by_cases hjN:j<N
 ·have sZ:(j:Int)<N:=by omega
  simp[hwN,sZ];obtain⟨q,hq⟩:∃q,q=j%4:=⟨_,rfl⟩;have ee:eE (rdE j)=[I 0,I (q:Int),.str 4 1684104562,.nils,I 0,I 0,.str 0 0,.nils]:=by rw[hq];rfl
  have ap7:Int.tmod (j:Int) 4=(q:Int):=by rw[hq];rfl
  have hwq:bP .i64 (q:Int)=(q:Int):=aC (by omega) (by omega);have ec:eE crE=[I 2,I 0,.str 0 0,.nils,I 0,I 0,.str 0 0,.nils]:=rfl;have e2b:=E0 h3 cF (.cells (eE (rdE j)) .fix);obtain⟨c6,h6,xI,ha,hA6,n6,k6,_⟩:=(hA.ext e2b).IJ jo (by omega) (by omega) (rdE j);have hl6:((gU j) ++ [rdE j]).length=(gU j).length+1:=by simp
  have avl:0<(gU j).length→∃t,c6=.sl (ag eE (gU j)++eE (rdE j)) ((gU j).length+1) 8 (.tok t):=fun h0=>acO (hA.ext e2b) h0 (by omega) (rdE j) ha;have e6:Ext h nx h6 xI:=⟨by omega,fun b hb=>by rw[k6 b hb,e2b.g b (by omega)];exact e2.g b hb⟩;have s6:=kTSu xI;rw[ee]at ha;simp[-appendTo,uR,q6,q7,ap7,hwq,ha];have aoh:gU (j+1)=gU j++(if j%4=3 then [rdE j,crE]else [rdE j]):=rfl;have hw1:bP .i64 ((j:Int)+1)=((j:Int)+1):=aC (by omega) (by omega);by_cases h3q:q=3
  ·have h3i:(q:Int)=3:=by omega
   have h4:gU (j+1)=gU j ++ [rdE j] ++ [crE]:=by rw[aoh,if_pos (by omega)];simp
   have e6b:=E0 h6 xI (.cells (eE crE) .fix);obtain⟨c7,h7,nx7,hb,hA7,n7,k7,_⟩:=(hA6.ext e6b).IJ jo (by omega) (by rw[hl6];omega) crE;have avm:=acO (hA6.ext e6b) (by rw[hl6];omega) (by rw[hl6];omega) crE hb;rw[ec]at hb;simp[mD,q7,ap7,hwq,h3i];simp[-appendTo,uT,hb];simp[mE,q7,hw1];refine⟨N-(j+1),by omega,j+1,c7,rfl,by omega,by simp[q0],by simp[q1],by simp[q5],by simp,by simp,by rw[h4];exact hA7,fun _=>?_,by omega,fun b hb=>by rw[k7 b hb,e6b.g b (by omega)];exact e6.g b hb⟩;obtain⟨t,ht⟩:=avm;exact⟨t,by rw[h4,fU,fj,Ho];exact ht⟩
  ·have h3i:¬(q:Int)=3:=by omega
   have h4:gU (j+1)=gU j ++ [rdE j]:=by rw[aoh,if_neg (by omega)]
   simp[mD,q7,ap7,hwq,bq h3i];simp[mE,q7,hw1];refine⟨N-(j+1),by omega,j+1,c6,rfl,by omega,by simp[q0],by simp[q1],by simp[q5],by simp,by simp,by rw[h4];exact hA6,fun h2l=>?_,e6⟩;obtain⟨t,ht⟩:=avl (by rw[h4,hl6]at h2l;omega);exact⟨t,by rw[h4,fU,fj,Ho];exact ht⟩
 ·have vK:j=N:=by omega
  subst vK;obtain⟨t,ht⟩:=alN (by omega);have sZ:¬(j:Int)<j:=by omega
  simp[hwN];refine hQ _ _ _ t ?_ ?_ ?_ e2<;>simp[q1,q5,q6,ht]
omit S in
theorem agV{n:Int}:YY (gU (9+NB n 3)):=by have h3:=ahs (m:=3) (by omega) n;have hl:=OW (9+NB n 3);exact⟨by omega,fun x hx=>by rw[(Uk _ x hx).2.1];simp,Uk _⟩
end Ln
namespace Ln
open Go.Sx Go
variable{C:bK}{X:Int→Kn}(S:∀w,Std C (X w))(H:Mk C)
include S H
theorem agS(hX:∀w,AV.beq (X w).m (X w).m=true)(hr:∀w,(X w).rows=(X 0).rows)(hf:∀w,(X w).lf=w)(hb:∀w,(X w).lb=9){n fu:Int}(hn:V2 n)(hfu:V2 fu)(hB:T ah)(nxB:Key) :
  aH C nP [I n,I fu] hB nxB (fun o h' nx'=>o=.ret (.bool true)∧Ext hB nxB h' nx'):=by
 have rM:C.raw wx=false:=(S 0).nr (by decide);have rA:C.raw gh=false:=(S 0).nr (by decide);have s1:=kTSu nxB;have hx0:=hX 0;have hXw:=hX (NB fu 5:Int);simp[Kn.m]at hx0;refine(S 0).wy.call ?_;simp only[rh,fH,kj,rj,zR,agT];simp[uH];simp[uI,rM];refine aH.known ((S 0).s_Module _ _) ?_;simp[Kn.m];have e1:=E0 hB nxB (.cells [.sl (X 0).rows 7 45 .any] .fix);have b1:ae nxB (av nxB (Vv [.sl (X 0).rows 7 45 .any]) hB)=Vv [.sl (X 0).rows 7 45 .any]:=by simp
 generalize av nxB (Vv [.sl (X 0).rows 7 45 .any]) hB=h1 at *;simp[uJ];simp[uK];refine aeq (S 0) (n:=n) (fu:=fu) hn (bm:=nxB) (h:=h1) (nx:=nxB.succ) (m:=9+NB n 3) ⟨0,.nils,by simp,by omega,by simp,by simp,by simp,by simp,by simp,App.nil 8,fun h=>by simp[gU]at h,Ext.refl _ _⟩ ?_;intro aW h2 aU t p1 p5 p6 e2;have n2:=e2.n;have ha5:=SL (S 0) hfu (m:=5) (by omega) (by omega) (h:=h2) (nx:=aU);simp at ha5;simp[uL,p1,rA];refine ha5.mono ?_;rintro o h3 cF ⟨rfl,rfl,rfl⟩;have b2:ae nxB h3=Vv [.sl (X 0).rows 7 45 .any]:=by rw[e2.g nxB (by omega)];exact b1
 have s3:=kTSu cF;simp;have e3:=E0 h3 cF (.cells [I ((NB fu 5:Nat):Int),I 9] .fix);have key:=agU (S (NB fu 5:Int)) H (hX _) (l:=gU (9+NB n 3)) agV (t:=t) (bm:=nxB) (bw:=cF) (tm:=av (K 8) (some (.ptr cF 0)) (av (K 38) (some (.agg [I ((NB fu 5:Nat):Int),I 9])) (av (K 37) (some (I ((NB fu 5:Nat):Int))) (av (K 36) (some (I fu)) aW)))) (h:=av cF (Vv [I ((NB fu 5:Nat):Int),I 9]) h3) (nx:=cF.succ) (hB:=hB) (nxB:=nxB) (by simp[p5]) (by simp[p6]) (by simp) (by rw[e3.g nxB (by omega),hr];exact b2) (by rw[hf,hb];simp) (by omega) (by omega) ((e1.trans e2).trans e3);simp only[fH,rj,kj]at key;exact key
end Ln
namespace Go.Sx
def zW(W:World)(c i:Nat):Option Value:=match W.heap[c]? with
 |some (.cells arr _ _)=>arr[i]?
 |_=>none
theorem anh{W:World}:∀c i v,zW W c i=some v→∃arr elem f,W.heap[c]?=some (.cells arr elem f)∧arr[i]?=some v:=by
 intro c i v h;unfold zW at h;split at h
 ·rename_i arr e f he;exact⟨arr,e,f,he,h⟩
 ·cases h
end Go.Sx
