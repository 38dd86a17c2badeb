/- A part of the proof. No condition. -/
import Derived.Test.YtecbfpngkfdkoaaGreatP37
import Derived.Test.YtecbfpngkfdkoaaGreatP33
import Derived.Test.YtecbfpngkfdkoaaGreatP34
import Derived.Test.YtecbfpngkfdkoaaGreatP35
import Derived.Test.YtecbfpngkfdkoaaGreatP36
import Derived.Test.YtecbfpngkfdkoaaGreatP6
import Derived.Lib.LaidTab
set_option linter.unusedSimpArgs false
set_option linter.unusedVariables false
set_option linter.unusedSectionVars false
namespace Ln
open Go.Sx Go
def CgI(l:List (Cf St))(cP:AV)(n0:Key)(h0:T ah)(m:Nat)(ay:T AV)(h':T ah)(nx':Key):Prop:=∃(j:Nat) (c3:AV) (ob:Option Key),m=l.length-j∧j≤l.length∧ae (K 1) ay=some (.ptr n0 0)∧ae (K 3) ay=some c3∧ae (K 4) ay=some (I j)∧ae n0 h'=some (.cells [cP] .fix)∧n0.toNat<nx'.toNat∧Gr 5 c3 (ag eC (l.take j)) (l.take j).length h' nx' ob∧(∀b,ob=some b→n0.toNat<b.toNat)∧Ext h0 n0 h' nx'
variable{C:bQ}{X:Kn}(S:Std C X)
include S
theorem aho{l:List (Cf St)}(hl:l.length≤10000){cP:AV}(hc:gI 5 eC cP l){h:T ah}{nx:Key} :
  aG C lH [.agg [cP]] h nx (fun o h' nx'=>(∃c,o=.ret c∧gI 5 eC c l)∧Ext h nx h' nx'):=by
 have s1:=kTSu nx;have kP:=hc.cell;refine S.GP.call ?_;simp[B9];simp[Ez,kP.1,kP.2];simp[EA];simp[EB];have e1:=E0 h nx (.cells [cP] .fix);refine W.dy (n:=l.length) (CgI l cP nx h) ⟨0,.nils,none,by simp,by omega,by simp,by simp,by simp,by simp,by omega,Gr.nil _ _ _,by simp,e1⟩ ?_;rintro m ef h1 bS ⟨j,c3,ob,rfl,hj,g1,g3,g4,v1,lt,G,hob,e1⟩;have n1:=e1.n;have t1:=kTSu bS;have R1:=hc.rd h1 bS;refine W.of ?_;simp[EE];by_cases bW:j<l.length
 ·have v7:(j:Int)<l.length:=by omega
  have Pm:cP=.sl (ag eC l) l.length 5 .any:=by
   rcases hc with⟨_,e⟩|e
   ·rw[e]at bW;simp at bW
   ·exact e
  have hr:=eJ.rows l;have ec:=eJ.at bW;have tx:5≤l.length*5-j*5:=by omega
  have e0:(eC l[j])[0]?=some (I l[j].1):=rfl;have Tt:(eC l[j]).head?=some (I l[j].1):=rfl;have et:List.take 4 (eC l[j]).tail=eS l[j].2:=rfl;have eds:I l[j].1 ::eS l[j].2=eC l[j]:=rfl;have aUq:(l.take j).length=j:=by rw[Y7,Nat.min_eq_left (by omega)]
  have e3:=E0 h1 bS (.cells (eC l[j]) .fix);obtain⟨c6,h6,Cv,o6,ha,G6,F6⟩:=(G.ext e3).As eJ (by decide) (by decide) (by omega) l[j];rw[←zqu bW]at G6;have F:=(nR.iT e3 ob).trans F6;have nF:=F.n;have o6n:∀b,o6=some b→nx.toNat<b.toNat:=fun b e=>by
   rcases F.o with h|⟨b',h,iS⟩
   ·rw[h]at e;exact hob b e
   ·rw[h]at e;cases e;omega
  have e6:Ext h nx h6 Cv:=⟨by omega,fun b hb=>by rw[F.g b (by omega) (fun e=>by have:=hob b e;omega)];exact e1.g b hb⟩;simp[↓R1.ln,vz,g1,g4,v1,v7];simp[-appendTo,EC,g1,g3,g4,v1,Pm,bW,hr,tx,ec,e0,Tt,et,pr,lenS,su,UL,y8,eds];rw[UE];simp[-appendTo,ha];simp[ED,g4];rw[aB (by omega) (by omega)];rw[←Pm];exact⟨l.length-(j+1),by omega,j+1,c6,o6,rfl,by omega,by simp[g1],by simp,by simp,by rw[F.g nx lt (fun e=>by have:=hob nx e;omega)];exact v1,by omega,G6,o6n,e6⟩
 ·have xM:j=l.length:=by omega
  subst xM;rw[List.take_length]at G;obtain⟨hi,hk⟩:=Gr.xN eJ G 9998;simp[↓R1.ln,vz,g1,g4,v1];simp[EF,g3];exact⟨hi,⟨by omega,fun b hb=>by rw[hk b (fun e=>by have:=hob b e;omega)];exact e1.g b hb⟩⟩
end Ln
namespace Ln
open Go.Sx Go
def ahn(X:Kn)(i:Nat)(l:List Ev)(e:Int)(ord:List Int)(Tl:List (Cf St)):Prop:=
 (mh i l≠0∧e=mh i l∧ord=[]∧Tl=[])∨
  (mh i l=0∧((S8 (ZB X i l) 1025 0 [(0,cX i)]=none∧e=4∧ord=[]∧Tl=[])∨
   ∃L,S8 (ZB X i l) 1025 0 [(0,cX i)]=some L∧e=0∧((∃p,Path (ZB X i l) (0,cX i) p∧ord=Au p∧Tl=[])∨
    (¬Good (ZB X i l) (0,cX i)∧ord=[]∧Tl.Pairwise NJ∧∀x,x∈Tl↔x∈L))))
theorem ahn.uniq{X:Kn}{i:Nat}{l:List Ev}{e e':Int}{o o':List Int}{c c':List (Cf St)}(h:ahn X i l e o c)(k:ahn X i l e' o' c'):e=e'∧o=o'∧c=c':=by
 rcases h with⟨h0,rfl,rfl,rfl⟩|⟨h0,⟨hb,rfl,rfl,rfl⟩|⟨L,hb,rfl,h⟩⟩<;>rcases k with⟨k0,rfl,rfl,rfl⟩|⟨k0,⟨kb,rfl,rfl,rfl⟩|⟨M,kb,rfl,k⟩⟩
 ·exact⟨rfl,rfl,rfl⟩
 ·exact absurd k0 h0
 ·exact absurd k0 h0
 ·exact absurd h0 k0
 ·exact⟨rfl,rfl,rfl⟩
 ·rw[hb]at kb;cases kb
 ·exact absurd h0 k0
 ·rw[hb]at kb;cases kb
 ·rw[hb]at kb;cases kb;refine⟨rfl,?_⟩;rcases h with⟨p,hp,rfl,rfl⟩|⟨hn,rfl,hw,hm⟩<;>rcases k with⟨q,kp,rfl,rfl⟩|⟨kn,rfl,kw,km⟩
  ·rw[hp.uniq kp];exact⟨rfl,rfl⟩
  ·exact absurd hp.CU kn
  ·exact absurd kp.CU hn
  ·exact⟨rfl,RE (lt:=NJ) ai8 (fun _ _ _=>aaa) hw kw (fun x=>by rw[hm,km])⟩
theorem alc{X:Kn}{i:Nat}{l:List Ev}{h h':T ah}{nx nx':Key}{o:Out}(hF:am7 X i l h nx o h' nx'):Ext h nx h' nx'∧∃(e:Int) (ord:List Int) (Tl:List (Cf St)) (cA cP:AV),ahn X i l e ord Tl∧Tl.length≤1024∧(∀y∈Tl,iz i y.2)∧o=.ret (.tuple [cA,.agg [cP],I e])∧gI 1 eI cA ord∧gI 5 eC cP Tl:=by
 obtain⟨e1,hF⟩:=hF;refine⟨e1,?_⟩;rcases hF with⟨h0,rfl⟩|⟨h0,⟨hb,rfl⟩|⟨L,hb,hk,BL,⟨p,cR,hp,hc,rfl⟩|⟨hn,cR,hc,rfl⟩⟩⟩
 ·exact⟨_,[],[],_,_,.inl ⟨h0,rfl,rfl,rfl⟩,by simp,by simp,rfl,.inl ⟨rfl,rfl⟩,.inl ⟨rfl,rfl⟩⟩
 ·exact⟨_,[],[],_,_,.inr ⟨h0,.inl ⟨hb,rfl,rfl,rfl⟩⟩,by simp,by simp,rfl,.inl ⟨rfl,rfl⟩,.inl ⟨rfl,rfl⟩⟩
 ·exact⟨_,_,[],_,_,.inr ⟨h0,.inr ⟨L,hb,rfl,.inl ⟨p,hp,rfl,rfl⟩⟩⟩,by simp,by simp,rfl,hc,.inl ⟨rfl,rfl⟩⟩
 ·refine⟨_,[],mj L,_,_,.inr ⟨h0,.inr ⟨L,hb,rfl,.inr ⟨hn,rfl,aqr hk.nodup,YJ⟩⟩⟩,?_,fun y hy=>BL y (YJ y |>.1 hy),rfl,.inl ⟨rfl,rfl⟩,hc⟩;unfold mj;rw[List.length_mergeSort];exact hk.len
theorem alb{X:Kn}{i:Nat}{l:List Ev}{h h':T ah}{nx nx':Key}{o:Out}(hF:amW X i l h nx o h' nx'):Ext h nx h' nx'∧∃(e:Int) (ord:List Int) (Tl:List (Cf St)) (cA cP:AV),ahn X i l e ord Tl∧ord.length≤16∧o=.ret (.tuple [cA,cP,I e])∧gI 1 eI cA ord∧gI 5 eC cP Tl:=by
 obtain⟨e1,hF⟩:=hF;refine⟨e1,?_⟩;rcases hF with⟨h0,rfl⟩|⟨h0,⟨hb,rfl⟩|⟨L,hb,⟨p,cR,hp,ud,hc,rfl⟩|⟨hn,out,cR,hw,hm,hc,rfl⟩⟩⟩
 ·exact⟨_,[],[],_,_,.inl ⟨h0,rfl,rfl,rfl⟩,by simp,rfl,.inl ⟨rfl,rfl⟩,.inl ⟨rfl,rfl⟩⟩
 ·exact⟨_,[],[],_,_,.inr ⟨h0,.inl ⟨hb,rfl,rfl,rfl⟩⟩,by simp,rfl,.inl ⟨rfl,rfl⟩,.inl ⟨rfl,rfl⟩⟩
 ·exact⟨_,_,[],_,_,.inr ⟨h0,.inr ⟨L,hb,rfl,.inl ⟨p,hp,rfl,rfl⟩⟩⟩,ud,rfl,hc,.inl ⟨rfl,rfl⟩⟩
 ·exact⟨_,[],out,_,_,.inr ⟨h0,.inr ⟨L,hb,rfl,.inr ⟨hn,rfl,hw,hm⟩⟩⟩,by simp,rfl,.inl ⟨rfl,rfl⟩,hc⟩
theorem _root_.Go.Sx.gI.full{z:Nat}{α:Type}{enc:α→List AV}{c:AV}{l:List α}(h:gI z enc c l){i:Nat}(hi:i<l.length):c=.sl (ag enc l) l.length z .any:=by
 rcases h with⟨_,e⟩|e
 ·rw[e]at hi;simp at hi
 ·exact e
def atX(len:Nat)(ca cb:AV)(h0:T ah)(n0:Key)(j:Nat)(ay:T AV)(h':T ah)(nx':Key):Prop:=∃i:Nat,j=len-i∧i≤len∧ae (K 0) ay=some ca∧ae (K 1) ay=some cb∧ae (K 5) ay=some (I i)∧Ext h0 n0 h' nx'
variable{C:bQ}{X:Kn}(S:Std C X)
include S
theorem aa7{l:List Int}(hl:l.length≤10000){ca cb:AV}(ha:gI 1 eI ca l)(hb:gI 1 eI cb l){h:T ah}{nx:Key} :
  aG C jW [ca,cb] h nx (fun o h' nx'=>o=.ret (.bool true)∧Ext h nx h' nx'):=by
 refine S.CJ.call ?_;have Ra:=ha.rd h nx;have Rb:=hb.rd h nx;simp[y7];simp[AD];simp[↓Ra.ln,↓Rb.ln,AE];simp[AF];refine W.dy (n:=l.length) (atX l.length ca cb h nx) ⟨0,by simp,by omega,by simp,by simp,by simp,Ext.refl _ _⟩ ?_;rintro m ef h1 bS ⟨i,rfl,hi,g0,g1,g5,e1⟩;refine W.of ?_;simp[AG];have Ra1:=ha.rd h1 bS;by_cases Jx:i<l.length
 ·have hii:(i:Int)<l.length:=by omega
  have Wg:=g0;have g1':=g1;rw[ha.full Jx]at Wg;rw[hb.full Jx]at g1';have LI:=mX l;have hx:=Jy Jx;have tx:1≤l.length-i:=by omega
  simp[↓Ra1.ln,sg,g0,g5,hii];simp[AH,Wg,g1',g5,Jx,LI,hx,tx];simp[AI,g5];rw[aB (by omega) (by omega)];exact⟨l.length-(i+1),by omega,i+1,rfl,by omega,by simp[g0],by simp[g1],by simp,e1⟩
 ·have LJ:i=l.length:=by omega
  subst LJ;simp[↓Ra1.ln,sg,g0,g5];simp[AJ];exact e1
theorem ama{l:List (Cf St)}(hl:l.length≤10000)(hk:∀y∈l,y.2.kids.length≤3){ca cb:AV}(ha:gI 5 eC ca l)(hb:gI 5 eC cb l){h:T ah}{nx:Key} :
  aG C si [ca,cb] h nx (fun o h' nx'=>o=.ret (.bool true)∧Ext h nx h' nx'):=by
 have rS:C.raw kH=false:=S.nr (by decide);refine S.MR.call ?_;have Ra:=ha.rd h nx;have Rb:=hb.rd h nx;simp[LK];simp[Kd];simp[↓Ra.ln,↓Rb.ln,Ke];simp[Kf];refine W.dy (n:=l.length) (atX l.length ca cb h nx) ⟨0,by simp,by omega,by simp,by simp,by simp,Ext.refl _ _⟩ ?_;rintro m ef h1 bS ⟨i,rfl,hi,g0,g1,g5,e1⟩;refine W.of ?_;simp[Kg];have Ra1:=ha.rd h1 bS;by_cases Jx:i<l.length
 ·have hii:(i:Int)<l.length:=by omega
  have Wg:=g0;have g1':=g1;rw[ha.full Jx]at Wg;rw[hb.full Jx]at g1';have hr:=eJ.rows l;have tx:5≤l.length*5-i*5:=by omega
  have ecj:=eJ.at Jx;have hki:=hk _ (OA Jx);have hsm:=nQ S hki hki h1 bS;simp[↓Ra1.ln,BJ,g0,g5,hii];simp[Kh,Wg,g1',g5,Jx,hr,tx,ecj,y8,pr,CM,rS,CN];refine hsm.mono ?_;rintro o h2 aN ⟨rfl,e2⟩;simp;simp[Ki,g5];rw[aB (by omega) (by omega)];exact⟨l.length-(i+1),by omega,i+1,rfl,by omega,by simp[g0,ha.full Jx],by simp[g1,hb.full Jx],by simp,e1.trans e2⟩
 ·have LJ:i=l.length:=by omega
  subst LJ;simp[↓Ra1.ln,BJ,g0,g5];simp[Kj];exact e1
end Ln
namespace Ln
open Go.Sx Go
variable{C:bQ}{X:Kn}(S:Std C X)
include S
end Ln
namespace Ln
open Go.Sx Go
theorem Q4(x:Ev):∀(l p:List Ev),bu p l=0→bu p (l ++ [x])=Cj (l.reverse++p) x
 | [],p,_=>by show(match Cj p x with|0=>bu (x ::p) []|n=>n)=Cj p x;cases Cj p x<;>rfl
 |y ::l,p,h=>by
  have h':(match Cj p y with|0=>bu (y ::p) l|n=>n)=0:=h;have hb:Cj p y=0:=by
   cases hb:Cj p y with
   |zero=>rfl
   |succ n=>rw[hb]at h';simp at h'
  have hv:bu (y ::p) l=0:=by simpa[hb]using h'
  show(match Cj p y with|0=>bu (y ::p) (l ++ [x])|n=>n)=_;simp only[hb];rw[Q4 x l (y ::p) hv];simp
theorem acU(i:Nat)(x:Ev)(o:Op):(pQ i x o).name=o.name∧(pQ i x o).args=o.args∧(pQ i x o).b=o.b:=by
 unfold pQ;split
 ·split
  ·exact⟨rfl,rfl,rfl⟩
  ·split<;>exact⟨rfl,rfl,rfl⟩
 ·exact⟨rfl,rfl,rfl⟩
theorem Tk{i:Nat}:∀{l:List Op},(∀o∈l,∃c,nv i o.name=some c∧o.args.length=c.ar)→lY i l=0
 | [],_=>rfl
 |o ::l,h=>by obtain⟨c,h1,h2⟩:=h o (by simp);show(match nv i o.name with|none=>6|some c=>if o.args.length=c.ar then lY i l else 1)=0;rw[h1];simp only[h2,if_true];exact Tk fun o ho=>h o (by simp[ho])
theorem apc{i:Nat}(hi:i<3){c:jy}(h:c∈aK i):nv i c.name=some c:=by
 have:i=0∨i=1∨i=2:=by omega
 rcases this with rfl|rfl|rfl<;>cases c<;>first|(exact absurd h (by decide))|decide
theorem axK(c:jy):c.name≠(0,0)∧c.name.1≤16∧c.ar≤1:=by cases c<;>decide
structure Cln(mi:Nat)(l:List Ev)(g:GS):Prop where
 v:bu [] l=0
 o:∀c:Nat,c<3→(g.o c=true↔0≤iM c l.reverse)
 b:lY mi (cT 0 l)=0
theorem Cln.nil(mi:Nat){g:GS}(h:g.o=fun _=>false):Cln mi [] g:=⟨rfl,fun c _=>by simp[h,iM],rfl⟩
theorem Cln.step{mi:Nat}(hi:mi<3){l:List Ev}{g g':GS}{x:Ev}(C:Cln mi l g)(s:abp mi g x g'):Cln mi (l ++ [x]) g':=by
 have hv:=Q4 x l [] C.v;have hold:∀o∈(cT 0 l).map (pQ (0+l.length) x),∃c,nv mi o.name=some c∧o.args.length=c.ar:=by intro o ho;obtain⟨o',RJ,rfl⟩:=We.1 ho;obtain⟨n1,n2,_⟩:=acU (0+l.length) x o';rw[n1,n2];exact Z2 C.b o' RJ
 cases s with
 |lost h ho=>
  refine⟨?_,?_,?_⟩
  ·rw[hv];subst h;rfl
  ·intro c hc;rw[ho,List.reverse_append];have:iM (c:Int) (x ::l.reverse)=-1:=ai3 (by subst h;rfl);show(false=true↔0≤iM (c:Int) (x ::l.reverse));rw[this];simp
  ·refine Tk ?_;rw[DM];subst h;intro o ho;rcases List.mem_append.1 ho with ho|ho
   ·exact hold o ho
   ·simp at ho
 |ends c r hc ho h RJ=>
  have Pm:=(C.o c hc).1 ho;refine⟨?_,?_,?_⟩
  ·rw[hv];subst h;unfold Cj;have h1:tG ⟨1,c,(0,0),[],⟨0,r⟩⟩=true:=by unfold tG;rw[decide_eq_true_eq];simp[pV];omega
   rw[h1];simp;omega
  ·intro d hd;have hx:x.kind=1:=by subst h;rfl
   have hxc:x.client=c:=by subst h;rfl
   rw[RJ,List.reverse_append];show((na g.o c false) d=true↔0≤iM (d:Int) (x ::l.reverse));rw[ai4 hx,hxc];by_cases e:d=c
   ·subst e;simp[na]
   ·have e':¬(d:Int)=c:=by omega
    rw[if_neg e'];have:na g.o c false d=g.o d:=by simp[na,e]
    rw[this];exact C.o d hd
  ·refine Tk ?_;rw[DM];intro o ho;rcases List.mem_append.1 ho with ho|ho
   ·exact hold o ho
   ·rw[if_neg (by subst h;simp)]at ho;simp at ho
 |begins c cmd aZZ hc ho hm ha hk h RJ=>
  have Pm:¬0≤iM c l.reverse:=fun q=>by have:=(C.o c hc).2 q;rw[ho]at this;simp at this
  obtain⟨k1,k2,k3⟩:=axK cmd;refine⟨?_,?_,?_⟩
  ·rw[hv];subst h;unfold Cj;have h1:tG ⟨0,c,cmd.name,aZZ,⟨0,0⟩⟩=true:=by
    unfold tG;rw[decide_eq_true_eq];have ha':aZZ.all pV=true:=wG.2 fun u hu=>by simp[pV,hk u hu]
    have:aZZ.length≤16:=by omega
    refine⟨by simp,by simp,by simp,by show(c:Int)≤3;omega,.inl ⟨rfl,rfl,k1,k2,this,ha'⟩⟩
   rw[h1];simp;omega
  ·intro d hd;have hx:x.kind=0:=by subst h;rfl
   have hxc:x.client=c:=by subst h;rfl
   rw[RJ,List.reverse_append];show((na g.o c true) d=true↔0≤iM (d:Int) (x ::l.reverse));rw[ai5 hx,hxc];by_cases e:d=c
   ·subst e;simp[na]
   ·have e':¬(d:Int)=c:=by omega
    rw[if_neg e'];have:na g.o c true d=g.o d:=by simp[na,e]
    rw[this];exact C.o d hd
  ·refine Tk ?_;rw[DM];intro o ho;rcases List.mem_append.1 ho with ho|ho
   ·exact hold o ho
   ·rw[if_pos (by subst h;rfl)]at ho;simp at ho;subst ho;subst h;exact⟨cmd,apc hi hm,ha⟩
theorem Vh.cln{mi:Nat}(hi:mi<3){l:List Ev}{g:GS}(h:Vh mi l g):Cln mi l g:=by
 induction h with
 |nil g h=>exact Cln.nil mi h
 |snoc h s ih=>exact ih.step hi s
theorem Vh.code{mi:Nat}(hi:mi<3){l:List Ev}{g:GS}(h:Vh mi l g):mh mi l=0:=by have C:=h.cln hi;unfold mh;rw[if_pos C.v,C.b]
def Fwd(o:Op):Prop:=(o.e<0∨(o.b:Int)≤o.e)∧(o.lost<0∨(o.b:Int)≤o.lost)
theorem Vi:∀(l:List Ev) (o:Op) (i:Nat),o.b≤i→Fwd o→Fwd (follow o i l)
 | [],o,i,_,h=>h
 |x ::l,o,i,hb,h=>by
  refine Vi l (pQ i x o) (i+1) (by rw[(acU i x o).2.2];omega) ?_;unfold pQ;split
  ·split
   ·exact⟨h.1,.inr (by show(o.b:Int)≤(i:Int);omega)⟩
   ·split
    ·exact⟨.inr (by show(o.b:Int)≤(i:Int);omega),h.2⟩
    ·exact h
  ·exact h
theorem acV:∀(l:List Ev) (i:Nat),∀o∈cT i l,Fwd o
 | [],i,o,ho=>by simp[cT]at ho
 |x ::l,i,o,ho=>by
  rcases List.mem_append.1 ho with ho|ho
  ·split at ho
   ·simp at ho;subst ho;exact Vi l _ _ (by show i≤i+1;omega) ⟨.inl (by show(-1:Int)<0;omega),.inl (by show(-1:Int)<0;omega)⟩
   ·simp at ho
  ·exact acV l (i+1) o ho
theorem acW{l:List Ev}{i:Nat}:∀o∈cT i l,before o o=false:=by intro o ho;obtain⟨h1,h2⟩:=acV l i o ho;unfold before;rw[decide_eq_false_iff_not];omega
structure Rw where
 c:AV
 l:List Ci
 o:Option Key
def Rw.At(r:Rw)(h:T ah)(nx:Key):Prop:=Gr 5 r.c (ag eD r.l) r.l.length h nx r.o∨(r.o=none∧gI 5 eD r.c r.l)
theorem Rw.At.rd{r:Rw}{h:T ah}{nx:Key}(a:r.At h nx):Rd 5 r.c (ag eD r.l) r.l.length h nx:=by
 rcases a with g|⟨_,g⟩
 ·exact g.rd
 ·exact g.rd h nx
theorem Rw.At.bq{r:Rw}{h:T ah}{nx:Key}(a:r.At h nx):AV.beq r.c r.c=true:=by
 rcases a with g|⟨_,g⟩
 ·exact g.lits amp
 ·rcases g with⟨e,_⟩|e
  ·rw[e];exact beq_refl _ rfl
  ·rw[e];exact beq_refl _ (by simp only[AV.lits];exact amp.ah1 _)
theorem Rw.At.cell{r:Rw}{h:T ah}{nx:Key}(a:r.At h nx):r.c.aT=true∧r.c.cells=[r.c]:=by
 rcases a with g|⟨_,g⟩
 ·exact g.cell
 ·exact g.cell
theorem Rw.At.cF{r:Rw}{h h':T ah}{nx nx':Key}(a:r.At h nx)(hn:nx.toNat≤nx'.toNat)(hk:∀b,r.o=some b→ae b h'=ae b h):r.At h' nx':=by
 rcases a with g|g
 ·exact .inl (g.cF hn hk)
 ·exact .inr g
theorem Rw.At.lt{r:Rw}{h:T ah}{nx:Key}(a:r.At h nx):∀b,r.o=some b→b.toNat<nx.toNat:=by
 rcases a with g|⟨e,_⟩
 ·exact g.lt
 ·intro b hb;rw[e]at hb;cases hb
theorem Rw.At.ext{r:Rw}{h h':T ah}{nx nx':Key}(a:r.At h nx)(e:Ext h nx h' nx'):r.At h' nx':=a.cF e.n fun b hb=>e.g b (a.lt b hb)
theorem Rw.At.acg{r:Rw}{h:T ah}{nx:Key}(a:r.At h nx):∃c' h',aM 9999 r.c h=(c',h')∧gI 5 eD c' r.l∧∀b:Key,r.o≠some b→ae b h'=ae b h:=by
 rcases a with g|⟨_,g⟩
 ·obtain⟨h1,h2⟩:=Gr.xN amp g 9998;exact⟨_,_,rfl,h1,h2⟩
 ·exact⟨_,_,g.r7 _ _,g,fun _ _=>rfl⟩
variable{C:bQ}{X:Kn}(S:Std C X)
include S
end Ln
namespace Ln
open Go.Sx Go
structure RwG(r:Rw)(mi:Nat)(bm nxB:Key)(h:T ah)(nx:Key):Prop where
 YU:r.At h nx
 len:r.l.length≤10000
 ok:∀y∈r.l,iz mi y.2
 nm:r.o≠some bm
 lo:∀b,r.o=some b→nxB.toNat≤b.toNat
theorem RwG.ext{r:Rw}{mi:Nat}{bm nxB:Key}{h h':T ah}{nx nx':Key}(a:RwG r mi bm nxB h nx)(e:Ext h nx h' nx'):RwG r mi bm nxB h' nx':=⟨a.YU.ext e,a.len,a.ok,a.nm,a.lo⟩
variable{C:bQ}{X:Kn}(S:Std C X)
include S
end Ln
namespace Ln
open Go.Sx Go
variable{C:bQ}{X:Kn}(S:Std C X)
include S
end Ln
namespace Ln
open Go.Sx Go
variable{C:bQ}{X:Kn}(S:Std C X)
include S
end Ln
namespace Ln
open Go.Sx Go
theorem aol{z:Nat}{α:Type}{enc:α→List AV}(F:Flat z enc)(hz:0<z){l:List α}(h0:0<l.length)(h1:l.length≤1024){h:T ah}{nx:Key}:appendTo z .nils (ag enc l) l.length h nx=.val (.slice nx 0 l.length z) (aw nx (some (.cells (ag enc l) .part)) h) nx.succ:=by
 have hl:l.length≤1048576:=by omega
 have ha:=F.aeS l;have bX:¬l.length=0:=by omega
 have hn2:l≠[]:=fun e=>bX (by rw[e];rfl);have hr:=F.rows l;have hr5:¬l.length*z=0:=by intro e;rcases Nat.mul_eq_zero.1 e with e|e<;>omega
 simp[hl,ha,bX,hn2,hr,hr5]
theorem aIy{b:Key}{h:T ah}{nx:Key}(hb:ae b h=some (.cells [] .fix))(cD:b.toNat<nx.toNat)(a:List U)(ha:a.length≤1000) :
  ∃c' h' nx' o',Gr 4 c' (ag eU a) a.length h' nx' o'∧nR h nx (some b) h' nx' o'∧∀{C:bQ} {Q:dh} {L:List aA} {tm:T AV} {x y d:Key},ae x tm=some (.slice b 0 0 4)→ae y tm=some (aL a)→lA C Q (⟨some d,.append 4 (.t x) (.t y),none⟩ ::L) tm h nx=lA C Q L (aw d (some c') tm) h' nx':=by
 have s1:=kTSu nx;cases a with
 |nil=>refine⟨.slice b 0 0 4,aw b (some (.cells [] .fix)) h,nx,some b,.inr (.inl ⟨b,.fix,rfl,rfl,by simp,cD,rfl,.inr rfl⟩),⟨by omega,fun k hk bX=>aU _ _ _ _ (fun e=>bX (by rw[e])),.inl rfl⟩,?_⟩;intro C Q L tm x y d h1 h2;simp[h1,h2,aL,hb]
 |cons u us=>
  have hr:=qY.rows (u ::us);have hal:=qY.aeS (u ::us);have Pp:us.length+1≤1048576:=by simp at ha;omega
  have hz:∀H,bG (aM 9999) (ag eU (u ::us)) H=(ag eU (u ::us),H):=fun H=>bT (qY.yo _);refine⟨.slice nx 0 (us.length+1) 4,aw nx (some (.cells (ag eU (u ::us)) .part)) h,nx.succ,some nx,.inr (.inl ⟨nx,.part,rfl,rfl,by simp,by omega,hr,.inl rfl⟩),⟨by omega,fun k hk bX=>ax hk,.inr ⟨nx,rfl,fg _⟩⟩,?_⟩;intro C Q L tm x y d h1 h2;have SU:ae y tm=some (.sl (ag eU (u ::us)) (us.length+1) 4 .any):=h2;simp at hr;simp[h1,SU,hb,hr,hal,Pp,hz]
theorem aom{l:List U}(h:0<l.length):aL l=.sl (ag eU l) l.length 4 .any:=by
 cases l with
 |nil=>simp at h
 |cons u us=>rfl
theorem Yo{n:Nat}{c:AV}{l2:List AV}:∀{l1:List AV} {H:T ah},(∀x∈l1,OC x)→(∀x∈l2,OC x)→bG (aM n) (l1++c ::l2) H=(l1++(aM n c H).1 ::l2,(aM n c H).2)
 | [],H,_,h2=>by show bG (aM n) (c ::l2) H=_;simp only[bG,bT h2,List.nil_append]
 |v ::l1,H,h1,h2=>by have a:=h1 v (by simp) n H;have b:=Yo (n:=n) (c:=c) (l1:=l1) (H:=H) (fun x hx=>h1 x (by simp[hx])) h2;rw[List.cons_append,List.cons_append];simp only[bG,a,b]
theorem asg{n:Nat}{b:Key}{len sz:Nat}{l1 l2:List AV}{c:AV}{H:T ah}(hg:ae b H=some (.cells (l1++c ::l2) .part))(hl:(l1++c ::l2).length=len*sz)(h1:∀x∈l1,OC x)(h2:∀x∈l2,OC x):aM (n+1) (.slice b 0 len sz) H=(.sl (l1++(aM n c (aw b none H)).1 ::l2) len sz .any,(aM n c (aw b none H)).2):=by simp only[aM,KB,hg,List.drop_zero];rw[if_pos (by omega),RL (by omega),Yo h1 h2]
def SpR(l:List Ev)(A:Nat)(h:T ah)(nx:Key)(o:Out)(h':T ah)(nx':Key):Prop:=∃c l',o=.ret c∧gI 8 eE c l'∧l'.length≤l.length+1∧(∀x∈l',x.args.length≤A+1)∧Ext h nx h' nx'
variable{C:bQ}{X:Kn}(S:Std C X)
include S
theorem Yp{YU Wh n:Int}(EK:zb YU)(hw:zb Wh)(hn:zb n){l:List Ev}(hl:l.length≤15){A:Nat}(hA:A≤100)(ha:∀x∈l,x.args.length≤A){ev:AV}(hv:gI 8 eE ev l){h:T ah}{nx:Key} :
  aG C j7 [ev,I YU,I Wh,I n] h nx (SpR l A h nx):=by
 have rA:C.raw da=false:=S.nr (by decide);have s1:=kTSu nx;refine S.IM.call ?_;simp[Fe];simp[Gm];simp[Gn];by_cases hl0:l.length=0
 ·have hle:l=[]:=zqr hl0;subst hle;have hx:SpR [] A h nx (.ret .nils) h nx:=⟨_,[],rfl,.inl ⟨rfl,rfl⟩,by simp,by simp,Ext.refl _ _⟩;rcases hv with⟨rfl,_⟩|rfl
  ·simp[qz];simp[qA];simp[wY];exact hx
  ·simp[qz];simp[qA];simp[wY];exact hx
 ·have Pp:0<l.length:=by omega
  have hf:=hv.full (i:=0) Pp;subst hf;have hap:=aol cn (by decide) Pp (by omega) (h:=h) (nx:=nx);have LI:=cn.rows l;have e1:=E0 h nx (.cells (ag eE l) .part);have v1:ae nx (aw nx (some (.cells (ag eE l) .part)) h)=some (.cells (ag eE l) .part):=by simp
  simp[-appendTo,qz,hap];generalize aw nx (some (.cells (ag eE l) .part)) h=h1 at *;have hli:¬(l.length:Int)=0:=by omega
  simp[qA,bq hli];simp[Gp,rA];have NQ:=uL S EK (m:=l.length) Pp (by omega) (h:=h1) (nx:=nx.succ);refine NQ.mono ?_;rintro o h2 aN ⟨rfl,rfl,rfl⟩;have hi:=Py (m:=l.length) Pp YU;generalize aro YU l.length=i at *;simp;simp[Gq,rA];have NQ:=uL S hw (m:=7) (by omega) (by omega) (h:=h2) (nx:=nx.succ);simp at NQ;refine NQ.mono ?_;rintro o h3 bY ⟨rfl,rfl,rfl⟩;have h7:=Py (m:=7) (by omega) Wh;generalize aro Wh 7=w at *;simp;have eg:∀b:Key,b.toNat<nx.toNat→ae b h3=ae b h:=fun b hb=>e1.g b hb;have fin:∀(y:Ev) (h2:T ah) (aN:Key) (aJ:T AV),y.args.length≤A+1→ae nx h2=some (.cells (ag eE (l.set i y)) .part)→nx.toNat<aN.toNat→(∀b:Key,b.toNat<nx.toNat→ae b h2=ae b h)→ae (K 9) aJ=some (.slice nx 0 l.length 8)→gn C (.seq (.ops j8) .ret) (bZ [.tmp (K 8)] (SpR l A h nx)) aJ h2 aN:=by
   intro y h2 aN aJ hy hg ln hk q9;have aBd:=cn.rows (l.set i y);rw[List.length_set]at aBd;have Mz:=CC (n:=9998) (b:=nx) (len:=l.length) (sz:=8) (H:=h2) hg aBd (cn.yo _);simp;simp[j8,q9,Mz];refine⟨_,l.set i y,rfl,.inr (by rw[List.length_set]),by rw[List.length_set];omega,fun x hx=>?_,by omega,fun b hb=>by rw[ax hb];exact hk b hb⟩;rcases List.mem_or_eq_of_mem_set hx with hx|hx
   ·have:=ha x hx;omega
   ·rw[hx];exact hy
  have hai:=ha _ (OA hi);have hc:w=0∨w=1∨w=2∨w=3∨w=4∨w=5∨w=6:=by omega
  simp only[bM,cz]at fin;rcases hc with rfl|rfl|rfl|rfl|rfl|rfl|rfl
  ·have hpa:=cn.yU (l:=l) (j:=i) (off:=0) (vs:=[I n]) (y:={l[i]with kind:=n}) hi (by simp) (by simp[eE]);have hk1:i*8+1≤l.length*8:=by omega
   simp[I]at hpa;simp[fL];simp[Gs,hi,v1,LI,hk1,hpa];exact fin {l[i]with kind:=n} _ _ _ (by show l[i].args.length≤_;omega) (by simp) (by omega) (fun b hb=>by rw[ax hb];exact eg b hb) (by simp)
  ·have hpa:=cn.yU (l:=l) (j:=i) (off:=1) (vs:=[I n]) (y:={l[i]with client:=n}) hi (by simp) (by simp[eE]);have hk1:i*8+1+1≤l.length*8:=by omega
   simp[I]at hpa;simp[fL];simp[gG];simp[Dp,hi,v1,LI,hk1,hpa];exact fin {l[i]with client:=n} _ _ _ (by show l[i].args.length≤_;omega) (by simp) (by omega) (fun b hb=>by rw[ax hb];exact eg b hb) (by simp)
  ·simp[fL];simp[gG];simp[ib];have s2:=kTSu nx.succ;have e4:=E0 h3 nx.succ (.cells [.str 0 0,.str 1 120,.str 16 149452120213688298009235146691947225697,.str 17 38601359582279734669370565786481755120225] .fix);have v4:ae nx (aw nx.succ (some (.cells [.str 0 0,.str 1 120,.str 16 149452120213688298009235146691947225697,.str 17 38601359582279734669370565786481755120225] .fix)) h3)=some (.cells (ag eE l) .part):=by rw[e4.g nx (by omega)];exact v1
   have v5:ae nx.succ (aw nx.succ (some (.cells [.str 0 0,.str 1 120,.str 16 149452120213688298009235146691947225697,.str 17 38601359582279734669370565786481755120225] .fix)) h3)=some (.cells [.str 0 0,.str 1 120,.str 16 149452120213688298009235146691947225697,.str 17 38601359582279734669370565786481755120225] .fix):=by simp
   have hk1:i*8+2+1≤l.length*8:=by omega
   simp[Dq,rA];generalize aw nx.succ (some (.cells [.str 0 0,.str 1 120,.str 16 149452120213688298009235146691947225697,.str 17 38601359582279734669370565786481755120225] .fix)) h3=h4 at *;have NQ:=uL S hn (m:=4) (by omega) (by omega) (h:=h4) (nx:=nx.succ.succ);simp at NQ;refine NQ.mono ?_;rintro o h5 r9 ⟨rfl,rfl,rfl⟩;have h4:=Py (m:=4) (by omega) n;generalize aro n 4=v at *;have awN:∃a b,∀hh,[AV.str 0 0,.str 1 120,.str 16 149452120213688298009235146691947225697,.str 17 38601359582279734669370565786481755120225][v]'hh=.str a b:=by
    have:v=0∨v=1∨v=2∨v=3:=by omega
    rcases this with rfl|rfl|rfl|rfl<;>exact⟨_,_,fun _=>rfl⟩
   obtain⟨a,b,awN⟩:=awN;have hpa:=cn.yU (l:=l) (j:=i) (off:=2) (vs:=[.str a b]) (y:={l[i]with name:=(a,b)}) hi (by simp) (by simp[eE]);simp[I]at hpa;simp[h4,v5,awN,hi,v4,LI,hk1,hpa];exact fin {l[i]with name:=(a,b)} _ _ _ (by show l[i].args.length≤_;omega) (by simp) (by omega) (fun b hb=>by rw[ax hb,e4.g b (by omega)];exact eg b hb) (by simp)
  ·simp[fL];simp[gG];simp[ib];simp[j9];simp[Dr,rA];have NQ:=uL S hn (m:=5) (by omega) (by omega) (h:=h3) (nx:=nx.succ);simp at NQ;refine NQ.mono ?_;rintro o h5 r9 ⟨rfl,rfl,rfl⟩;generalize aro n 5=v at *;have hpa:=cn.yU (l:=l) (j:=i) (off:=4) (vs:=[I v,I n,.str 0 0,.nils]) (y:={l[i]with res:=⟨v,n⟩}) hi (by simp) (by simp[eE]);have hk1:i*8+4+4≤l.length*8:=by omega
   simp[I]at hpa;simp[hi,v1,LI,hk1,hpa];exact fin {l[i]with res:=⟨v,n⟩} _ _ _ (by show l[i].args.length≤_;omega) (by simp) (by omega) (fun b hb=>by rw[ax hb];exact eg b hb) (by simp)
  ·have s2:=kTSu nx.succ;have s3:=kTSu nx.succ.succ;have e4:=E0 h3 nx.succ (.cells [] .fix);have v4:ae nx (aw nx.succ (some (.cells [] .fix)) h3)=some (.cells (ag eE l) .part):=by rw[e4.g nx (by omega)];exact v1
   have v5:ae nx.succ (aw nx.succ (some (.cells [] .fix)) h3)=some (.cells [] .fix):=by simp
   have hx3:(ag eE l)[i*8+3]?=some (aL l[i].args):=by
    have h1:=cn.at hi;have h2:((List.drop (i*8) (ag eE l)).take 8)[3]?=(eE l[i])[3]?:=by rw[h1]
    rw[List.getElem?_take_of_lt (by omega),List.getElem?_drop]at h2;exact h2
   have hk0:i*8+3<l.length*8:=by omega
   have aIA:∀hh,(ag eE l)[i*8+3]'hh=aL l[i].args:=fun hh=>by rw[yT hh]at hx3;exact Option.some.inj hx3
   simp[fL];simp[gG];simp[ib];simp[j9];simp[oi];obtain⟨c81,h81,aIB,o81,G81,F81,aIC⟩:=aIy v5 (nx:=nx.succ.succ) (by omega) l[i].args (by omega);simp only[Dt,at8,aub,aNq,aNr,aNs,aNt,aNu,aNv,aNw,aNx,auc,at9,aua,aNz];simp[↓aIC,hi,v4,LI,hk0,aIA,rA];have NQ:=uL S hn (m:=5) (by omega) (by omega) (h:=h81) (nx:=aIB);simp at NQ;refine NQ.mono ?_;rintro o h5 r9 ⟨rfl,rfl,rfl⟩;generalize aro n 5=v at *;have e6:=E0 h5 r9 (.cells (eU ⟨v,n⟩) .fix);have hal:l[i].args.length+1≤1048576:=by omega
   obtain⟨c87,h87,aBf,o87,aBg,G87,F87⟩:=(G81.ext e6).As qY (by decide) (by decide) hal ⟨v,n⟩;have F:=(F81.trans (nR.iT e6 o81)).trans F87;have nF:=F.n;have IH:=G87.cell;have eu:eU ⟨v,n⟩=[I v,I n,.str 0 0,.nils]:=rfl;rw[eu]at aBg;have n87:nx.toNat<aBf.toNat:=by omega
   have v87:ae nx h87=some (.cells (ag eE l) .part):=by rw[F.g nx (by omega) (fun e=>by have:=congrArg Key.toNat (Option.some.inj e);omega)];exact v4
   have hk1:i*8+3+1≤l.length*8:=by omega
   have eI':(I v:AV)=.int .i64 (.lit v):=rfl;simp[-appendTo,aBg,hi,IH.1,IH.2,v87,LI,hk1];simp[j8];have aBh:∀b,o87=some b→nx.toNat<b.toNat:=fun b hb=>by
    rcases F.o with e|⟨y,e,hy⟩
    ·rw[e]at hb;cases hb;omega
    ·rw[e]at hb;cases hb;omega
   have aIE:(List.take (i*8+3) (ag eE l)).length=i*8+3:=by rw[Y7];omega
   have hld:(List.drop (i*8+3+1) (ag eE l)).length=l.length*8-(i*8+3+1):=by rw[List.length_drop,LI]
   have Mz:=asg (n:=9998) (b:=nx) (len:=l.length) (sz:=8) (l1:=List.take (i*8+3) (ag eE l)) (c:=c87) (l2:=List.drop (i*8+3+1) (ag eE l)) (H:=aw nx (some (.cells (List.take (i*8+3) (ag eE l)++c87 ::List.drop (i*8+3+1) (ag eE l)) .part)) h87) (by simp) (by rw[Ko,zqi,aIE,hld];omega) (fun x hx=>cn.yo l x (List.mem_of_mem_take hx)) (fun x hx=>cn.yo l x (List.mem_of_mem_drop hx));rw[Mz];have GN:Gr 4 c87 (ag eU (l[i].args ++ [(⟨v,n⟩:U)])) (l[i].args ++ [(⟨v,n⟩:U)]).length (aw nx none (aw nx (some (.cells (List.take (i*8+3) (ag eE l)++c87 ::List.drop (i*8+3+1) (ag eE l)) .part)) h87)) aBf o87:=G87.cF (fg _) fun b hb=>by have:=aBh b hb;rw[aU _ _ _ _ (fun e=>by rw[e]at this;omega),aU _ _ _ _ (fun e=>by rw[e]at this;omega)]
   obtain⟨hiN,hkN⟩:=Gr.xN qY GN 9997;have aBi:0<(l[i].args ++ [(⟨v,n⟩:U)]).length:=by simp
   have hcN:=hiN.full aBi;rw[←aom aBi]at hcN;have hpa:=cn.yU (l:=l) (j:=i) (off:=3) (vs:=[aL (l[i].args ++ [(⟨v,n⟩:U)])]) (y:={l[i]with args:=l[i].args ++ [(⟨v,n⟩:U)]}) hi (by simp) (by simp[eE]);refine⟨_,l.set i {l[i]with args:=l[i].args ++ [(⟨v,n⟩:U)]},rfl,.inr ?_,by rw[List.length_set];omega,fun x hx=>?_,by omega,fun b hb=>?_⟩
   ·show AV.sl _ _ _ _=_;rw[hcN,List.length_set,←hpa];rfl
   ·rcases List.mem_or_eq_of_mem_set hx with hx|hx
    ·have:=ha x hx;omega
    ·rw[hx];simp;omega
   ·rw[hkN b (fun e=>by have:=aBh b e;omega),ax hb,ax hb,F.g b (by omega) (fun e=>by have:=congrArg Key.toNat (Option.some.inj e);omega),e4.g b (by omega)];exact eg b hb
  ·have G0:Gr 8 (.slice nx 0 l.length 8) (ag eE l) l.length h3 nx.succ (some nx):=.inr (.inl ⟨nx,.part,rfl,rfl,v1,by omega,LI,.inl rfl⟩);have s2:=kTSu nx.succ;have e4:=E0 h3 nx.succ (.cells (eE l[i]) .fix);obtain⟨c5,h5,r9,o5,aIF,G5,F5⟩:=(G0.ext e4).As cn (by decide) (by decide) (by omega) l[i];have F:=(nR.iT e4 (some nx)).trans F5;have nF:=F.n;have ec:=cn.at hi;have tx:8≤l.length*8-i*8:=by omega
   have cE:=aBj l[i];simp[fL];simp[gG];simp[ib];simp[j9];simp[oi];simp[uM];simp[-appendTo,Du,hi,v1,LI,ec,tx,aBk,aIG,cE,awP,aIF];simp[j8];have o5n:∀b,o5=some b→nx.toNat≤b.toNat:=fun b hb=>by
    rcases F.o with e|⟨y,e,hy⟩
    ·rw[e]at hb;cases hb;omega
    ·rw[e]at hb;cases hb;omega
   obtain⟨hi5,hk5⟩:=Gr.xN cn G5 9998;refine⟨_,l ++ [l[i]],rfl,hi5,by simp,fun x hx=>?_,by omega,fun b hb=>?_⟩
   ·rcases List.mem_append.1 hx with hx|hx
    ·have:=ha x hx;omega
    ·simp at hx;rw[hx];omega
   ·rw[hk5 b (fun e=>by have:=o5n b e;omega),F.g b (by omega) (fun e=>by have:=Option.some.inj e;subst this;omega)];exact eg b hb
  ·have s2:=kTSu nx.succ;have HO:(l.take i).length=i:=by rw[Y7];omega
   have hdk:(l.drop (i+1)).length=l.length-(i+1):=List.length_drop;have Y0:=cn.rows (l.take i);have QM:=cn.rows (l.drop (i+1));rw[HO]at Y0;rw[hdk]at QM;obtain⟨c29,h4,jZ,o4,ha4,G4,F4⟩:=(Gr.nil 8 h3 nx.succ).ae9 (m:=i) (new:=ag eE (l.take i)) (by decide) (by decide) (by simp) (by rw[Y0]) (by omega) (cn.aeS _);have G4':Gr 8 c29 (ag eE (l.take i)) i h4 jZ o4:=by simpa using G4
   obtain⟨c35,h5,r9,o5,ha5,G5,F5⟩:=G4'.ae9 (m:=l.length-(i+1)) (new:=ag eE (l.drop (i+1))) (by decide) (by decide) (cn.yo _) (by rw[QM]) (by omega) (cn.aeS _);have G5':Gr 8 c35 (ag eE (l.take i++l.drop (i+1))) (l.take i++l.drop (i+1)).length h5 r9 o5:=by rw[jg,Ko,HO,hdk];exact G5
   have F:=F4.trans F5;have nF:=F.n;have n4:=F4.n;have v4:ae nx h4=some (.cells (ag eE l) .part):=by rw[F4.g nx (by omega) (by simp)];exact v1
   have htr:=cn.take l i;have hdr:=cn.drop l (i+1);have hwk:aW .i64 ((i:Int)+1)=(i:Int)+1:=aB (by omega) (by omega);have awC:ra (AV.int .i64 (.lit ((i:Int)+1)))=some (i+1):=rfl;have hk1:i≤l.length:=by omega
   have RY:i+1≤l.length:=by omega
   have c1:i*8≤l.length*8:=by omega
   have c2:(l.length-(i+1))*8≤l.length*8-(i+1)*8:=by omega
   have aIK:List.take ((l.length-(i+1))*8) (List.drop ((i+1)*8) (ag eE l))=ag eE (l.drop (i+1)):=by rw[hdr];exact RL (by omega)
   have hz1:∀H,bG (aM 9999) (ag eE (l.take i)) H=(ag eE (l.take i),H):=fun H=>bT (cn.yo _);have hz2:∀H,bG (aM 9999) (ag eE (l.drop (i+1))) H=(ag eE (l.drop (i+1)),H):=fun H=>bT (cn.yo _);simp[fL];simp[gG];simp[ib];simp[j9];simp[oi];simp[uM];simp[Dv];simp[-appendTo,Dw,v1,LI,hk1,c1,htr,hz1,ha4];simp[-appendTo,Dx,v4,hwk,awC,LI,RY,c2,aIK,hz2,ha5];obtain⟨hi5,hk5⟩:=Gr.xN cn G5' 9998;have o5n:∀b,o5=some b→nx.succ.toNat≤b.toNat:=fun b hb=>by
    rcases F.o with e|⟨y,e,hy⟩
    ·rw[e]at hb;cases hb
    ·rw[e]at hb;cases hb;omega
   refine⟨_,l.take i++l.drop (i+1),rfl,hi5,by rw[Ko,HO,hdk];omega,fun x hx=>?_,by omega,fun b hb=>?_⟩
   ·rcases List.mem_append.1 hx with hx|hx
    ·have:=ha x (List.mem_of_mem_take hx);omega
    ·have:=ha x (List.mem_of_mem_drop hx);omega
   ·rw[hk5 b (fun e=>by have:=o5n b e;omega),F.g b (by omega) (by simp)];exact eg b hb
end Ln
namespace Ln
open Go.Sx Go
def Jd(l:List Ev):Int:=if bu [] l=0 then 6 else gp (bu [] l)
theorem ad3(l:List Ev):Jd l≠0:=by
 unfold Jd;split
 ·decide
 ·unfold gp;split<;>first|exact absurd ‹_› ‹_› | decide
variable{C:bQ}{X:Kn}(S:Std C X){z:List AV}(Z:Zz C X z)
include S Z
theorem ap1{ev:AV}{l:List Ev}(hv:gI 8 eE ev l)(hl:Wc l){h:T ah}{nx:Key}:aG C iF [X.m,QW,ev,iU] h nx (fun o h' nx'=>o=.ret (.tuple [.nilp,I (Jd l)])∧Ext h nx h' nx'):=by
 have s1:=kTSu nx;have s2:=kTSu nx.succ;have rO:C.raw lR=false:=S.nr (by decide);have rD:C.raw jI=false:=S.nr (by decide);have hz:∀H,aM 9999 ev H=(ev,H):=fun H=>hv.r7 _ _;refine S.zO.call ?_;simp[yB];simp[xj,Kn.m,iU,QW];have e2:=(E0 h nx (.cells [.sl X.rows 7 45 .any] .fix)).trans (E0 _ nx.succ (.cells [I 200,I 50] .fix));have NK:ae nx (aw nx.succ (some (.cells [I 200,I 50] .fix)) (aw nx (some (.cells [.sl X.rows 7 45 .any] .fix)) h))=some (.cells [.sl X.rows 7 45 .any] .fix):=by rw[ax (by omega)];simp
 generalize aw nx.succ (some (.cells [I 200,I 50] .fix)) (aw nx (some (.cells [.sl X.rows 7 45 .any] .fix)) h)=h2 at *;simp[xk,rO,hz];refine(ahL S hv hl _ _).mono ?_;rintro o h3 bY ⟨⟨cO,rfl,hc⟩,e3⟩;have Iy:=e2.trans e3;have bm3:ae nx h3=some (.cells [.sl X.rows 7 45 .any] .fix):=by rw[e3.g nx (by omega)];exact NK
 have n3:=e3.n;simp;by_cases Mw:bu [] l=0
 ·simp[lL,Mw,gp];have d45:=Z.len;have dC:z.all AV.aT=true:=wG.2 Z.cell;have hd:=Z.p h3 bY;simp[Kn.m,QW]at hd;simp[xl,bm3,rD];refine aG.known hd ?_;have s3:=kTSu bY;simp[d45,dC];have e4:=E0 h3 bY (.cells z .fix);simp[xm];simp[Ha];exact⟨by simp[Jd,Mw],Iy.trans e4⟩
 ·have bX:gp (bu [] l)≠0:=by unfold gp;split<;>first|exact absurd ‹_› Mw|decide
  simp[lL,bq bX];simp[xn];exact⟨by simp[Jd,Mw],Iy⟩
theorem ap3{ev:AV}{l:List Ev}(hv:gI 8 eE ev l)(hl:Wc l){h:T ah}{nx:Key}:aG C jD [X.m,QW,ev,iU] h nx (fun o h' nx'=>o=.ret (.tuple [.nilp,I (Jd l)])∧Ext h nx h' nx'):=by
 have s1:=kTSu nx;have s2:=kTSu nx.succ;have rO:C.raw rh=false:=S.nr (by decide);have rD:C.raw gU=false:=S.nr (by decide);have hz:∀H,aM 9999 ev H=(ev,H):=fun H=>hv.r7 _ _;refine S.Ck.call ?_;simp[Bq];simp[z6,Kn.m,iU,QW];have e2:=(E0 h nx (.cells [.sl X.rows 7 45 .any] .fix)).trans (E0 _ nx.succ (.cells [I 200,I 50] .fix));have NK:ae nx (aw nx.succ (some (.cells [I 200,I 50] .fix)) (aw nx (some (.cells [.sl X.rows 7 45 .any] .fix)) h))=some (.cells [.sl X.rows 7 45 .any] .fix):=by rw[ax (by omega)];simp
 generalize aw nx.succ (some (.cells [I 200,I 50] .fix)) (aw nx (some (.cells [.sl X.rows 7 45 .any] .fix)) h)=h2 at *;simp[z7,rO,hz];refine(ah8 S hv hl _ _).mono ?_;rintro o h3 bY ⟨⟨cO,rfl,hc⟩,e3⟩;have Iy:=e2.trans e3;have bm3:ae nx h3=some (.cells [.sl X.rows 7 45 .any] .fix):=by rw[e3.g nx (by omega)];exact NK
 have n3:=e3.n;simp;by_cases Mw:bu [] l=0
 ·simp[nM,Mw,gp];have d45:=Z.len;have dC:z.all AV.aT=true:=wG.2 Z.cell;have hd:=Z.r h3 bY;simp[Kn.m,QW]at hd;simp[z8,bm3,rD];refine aG.known hd ?_;have s3:=kTSu bY;simp[d45,dC];have e4:=E0 h3 bY (.cells z .fix);simp[Aa];simp[Jk];exact⟨by simp[Jd,Mw],Iy.trans e4⟩
 ·have bX:gp (bu [] l)≠0:=by unfold gp;split<;>first|exact absurd ‹_› Mw|decide
  simp[nM,bq bX];simp[Ab];exact⟨by simp[Jd,Mw],Iy⟩
theorem apO{ev:AV}{l:List Ev}(hv:gI 8 eE ev l)(hl:Wc l){h:T ah}{nx:Key}:aG C jF [X.m,QW,ev,iU] h nx (fun o h' nx'=>o=.ret (.tuple [.nils,.agg [.nils],I (Jd l)])∧Ext h nx h' nx'):=by
 have s1:=kTSu nx;have s2:=kTSu nx.succ;have s3:=kTSu nx.succ.succ;have rb:C.raw iF=false:=S.nr (by decide);have hz:∀H,aM 9999 ev H=(ev,H):=fun H=>hv.r7 _ _;refine S.BX.call ?_;simp[A8];simp[zp,Kn.m,iU,QW];have e2:=((E0 h nx (.cells [.sl X.rows 7 45 .any] .fix)).trans (E0 _ nx.succ (.cells [I 200,I 50] .fix))).trans (E0 _ nx.succ.succ (.cells [.nils] .fix));have NK:ae nx (aw nx.succ.succ (some (.cells [.nils] .fix)) (aw nx.succ (some (.cells [I 200,I 50] .fix)) (aw nx (some (.cells [.sl X.rows 7 45 .any] .fix)) h)))=some (.cells [.sl X.rows 7 45 .any] .fix):=by rw[ax (by omega),ax (by omega)];simp
 have bl2:ae nx.succ (aw nx.succ.succ (some (.cells [.nils] .fix)) (aw nx.succ (some (.cells [I 200,I 50] .fix)) (aw nx (some (.cells [.sl X.rows 7 45 .any] .fix)) h)))=some (.cells [I 200,I 50] .fix):=by rw[ax (by omega)];simp
 have b92:ae nx.succ.succ (aw nx.succ.succ (some (.cells [.nils] .fix)) (aw nx.succ (some (.cells [I 200,I 50] .fix)) (aw nx (some (.cells [.sl X.rows 7 45 .any] .fix)) h)))=some (.cells [.nils] .fix):=by simp
 generalize aw nx.succ.succ (some (.cells [.nils] .fix)) (aw nx.succ (some (.cells [I 200,I 50] .fix)) (aw nx (some (.cells [.sl X.rows 7 45 .any] .fix)) h))=h2 at *;have hb:=ap1 S Z hv hl (h:=h2) (nx:=nx.succ.succ.succ);simp[Kn.m,iU,QW]at hb;simp[zq,NK,bl2,rb,hz];refine hb.mono ?_;rintro o h3 bY ⟨rfl,e3⟩;have Iy:=e2.trans e3;have n3:=e3.n;have b93:ae nx.succ.succ h3=some (.cells [.nils] .fix):=by rw[e3.g _ (by omega)];exact b92
 simp;simp[sA,bq (ad3 l)];simp[zr,b93];exact Iy.put (by omega)
theorem apN{ev:AV}{l:List Ev}(hv:gI 8 eE ev l)(hl:Wc l){h:T ah}{nx:Key}:aG C kM [X.m,QW,ev,iU] h nx (fun o h' nx'=>o=.ret (.tuple [.nils,.nils,I (Jd l)])∧Ext h nx h' nx'):=by
 have s1:=kTSu nx;have s2:=kTSu nx.succ;have rb:C.raw jD=false:=S.nr (by decide);have hz:∀H,aM 9999 ev H=(ev,H):=fun H=>hv.r7 _ _;refine S.E7.call ?_;simp[E8];simp[BS,Kn.m,iU,QW];have e2:=(E0 h nx (.cells [.sl X.rows 7 45 .any] .fix)).trans (E0 _ nx.succ (.cells [I 200,I 50] .fix));have NK:ae nx (aw nx.succ (some (.cells [I 200,I 50] .fix)) (aw nx (some (.cells [.sl X.rows 7 45 .any] .fix)) h))=some (.cells [.sl X.rows 7 45 .any] .fix):=by rw[ax (by omega)];simp
 have bl2:ae nx.succ (aw nx.succ (some (.cells [I 200,I 50] .fix)) (aw nx (some (.cells [.sl X.rows 7 45 .any] .fix)) h))=some (.cells [I 200,I 50] .fix):=by simp
 generalize aw nx.succ (some (.cells [I 200,I 50] .fix)) (aw nx (some (.cells [.sl X.rows 7 45 .any] .fix)) h)=h2 at *;have hb:=ap3 S Z hv hl (h:=h2) (nx:=nx.succ.succ);simp[Kn.m,iU,QW]at hb;simp[BT,NK,bl2,rb,hz];refine hb.mono ?_;rintro o h3 bY ⟨rfl,e3⟩;have Iy:=e2.trans e3;simp;simp[vJ,bq (ad3 l)];simp[BU];exact Iy
end Ln
namespace Ln
open Go.Sx Go
def LO:Option Nat→AV
 |some i=>ft i
 |none=>QW
def okW:Option Nat→Prop
 |some i=>i<3
 |none=>True
def FW(X:Kn):Option Nat→List Ev→Int→List Int→List (Cf St)→Prop
 |some i,l,e,o,c=>ahn X i l e o c
 |none,l,e,o,c=>e=Jd l∧o=[]∧c=[]
theorem FW.uniq{X:Kn}{m:Option Nat}{l:List Ev}{e e':Int}{o o':List Int}{c c':List (Cf St)}(h:FW X m l e o c)(k:FW X m l e' o' c'):e'=e∧o'=o∧c'=c:=by
 cases m with
 |some i=>obtain⟨a,b,d⟩:=ahn.uniq h k;exact⟨a.symm,b.symm,d.symm⟩
 |none=>obtain⟨rfl,rfl,rfl⟩:=h;obtain⟨rfl,rfl,rfl⟩:=k;exact⟨rfl,rfl,rfl⟩
theorem aCm(m:Option Nat):(∀n H,aM n (LO m) H=(LO m,H))∧(LO m).aT=true∧(LO m).cells=[LO m]:=by
 cases m with
 |some i=>exact⟨fun n H=>qw _ _ n H,rfl,rfl⟩
 |none=>exact⟨fun n H=>qw _ _ n H,rfl,rfl⟩
variable{C:bQ}{X:Kn}(S:Std C X)(H:OU C){z:List AV}(Z:Zz C X z)
include S Z
theorem axT{m:Option Nat}(hm:okW m){ev:AV}{l:List Ev}(hv:gI 8 eE ev l)(hl:Wc l){h:T ah}{nx:Key} :
  aG C kM [X.m,LO m,ev,iU] h nx (fun o h' nx'=>Ext h nx h' nx'∧∃(e:Int) (ord:List Int) (Tl:List (Cf St)) (cA cP:AV),FW X m l e ord Tl∧ord.length≤16∧o=.ret (.tuple [cA,cP,I e])∧gI 1 eI cA ord∧gI 5 eC cP Tl):=by
 cases m with
 |some i=>exact(amX S hm hv hl).mono fun o h' nx' hF=>alb hF
 |none=>refine(apN S Z hv hl).mono ?_;rintro o h' nx' ⟨rfl,e⟩;exact⟨e,_,[],[],_,_,⟨rfl,rfl,rfl⟩,by simp,rfl,.inl ⟨rfl,rfl⟩,.inl ⟨rfl,rfl⟩⟩
include H
theorem axU{m:Option Nat}(hm:okW m){ev:AV}{l:List Ev}(hv:gI 8 eE ev l)(hl:Wc l){h:T ah}{nx:Key} :
  aG C jF [X.m,LO m,ev,iU] h nx (fun o h' nx'=>Ext h nx h' nx'∧∃(e:Int) (ord:List Int) (Tl:List (Cf St)) (cA cP:AV),FW X m l e ord Tl∧Tl.length≤1024∧(∀y∈Tl,y.2.kids.length≤3)∧o=.ret (.tuple [cA,.agg [cP],I e])∧gI 1 eI cA ord∧gI 5 eC cP Tl):=by
 cases m with
 |some i=>refine(am8 S H hm hv hl (fun _=>acW)).mono fun o h' nx' hF=>?_;obtain⟨e1,e,ord,Tl,cA,cP,h1,h2,h3,h4⟩:=alc hF;exact⟨e1,e,ord,Tl,cA,cP,h1,h2,fun y hy=>Ic (h3 y hy),h4⟩
 |none=>refine(apO S Z hv hl).mono ?_;rintro o h' nx' ⟨rfl,e⟩;exact⟨e,_,[],[],_,_,⟨rfl,rfl,rfl⟩,by simp,by simp,rfl,.inl ⟨rfl,rfl⟩,.inl ⟨rfl,rfl⟩⟩
structure LfS(X:Kn)(bm bL bN:Key)(c0 c1 c2 n0 n1:AV)(tm:T AV)(h:T ah)(nx:Key):Prop where
 Qf:ae (K 11) tm=some (.ptr bm 0)
 OE:ae (K 14) tm=some (.slice bL 0 3 1)
 S7:ae (K 15) tm=some (.slice bN 0 3 1)
 mb:ae bm h=some (.cells [.sl X.rows 7 45 .any] .fix)
 lb:ae bL h=some (.cells [c0,c1,c2] .fix)
 nb:ae bN h=some (.cells [n0,n1,QW] .fix)
 bn:bm.toNat<nx.toNat
 bLn:bL.toNat<nx.toNat
 bNn:bN.toNat<nx.toNat
theorem aeM(hX:AV.beq X.m X.m=true){bm bL bN:Key}{c0 c1 c2 n0 n1:AV}{m:Option Nat}(hm:okW m){i q:Nat}(hi:i<5)(hq:q=i%3){ev:AV}(hev:∀hh,[c0,c1,c2][q]'hh=ev){l:List Ev}(hv:gI 8 eE ev l)(hl:Wc l){tm:T AV}{h:T ah}{nx:Key}(L:LfS X bm bL bN c0 c1 c2 n0 n1 tm h nx)(OD:ae (K 16) tm=some (I i))(q17:ae (K 17) tm=some (LO m)){Q:dh}
  (fy:∀ay h' nx',ae (K 11) ay=some (.ptr bm 0)→ae (K 14) ay=some (.slice bL 0 3 1)→ae (K 15) ay=some (.slice bN 0 3 1)→ae (K 16) ay=some (I i)→Ext h nx h' nx'→Q .norm ay h' nx') :
  gn C (.seq (.staged pO ⟨[K 63,K 64,K 65,K 66,K 67,K 68,K 69,K 70,K 71,K 72,K 62,K 73,K 74,K 75,K 19,K 18,K 20],[]⟩) (.seq (.staged nH ⟨[K 77,K 78,K 79,K 80,K 81,K 82,K 83,K 84,K 85,K 76,K 86,K 87,K 88,K 21,K 22,K 23],[]⟩) (.seq (.ops nJ) (.cond (.t (K 104)) (.seq (.ops wu) .ret) .skip)))) Q tm h nx:=by
 obtain⟨Qf,OE,S7,hbm,hbL,hbN,bn,bLn,bNn⟩:=L;have re:C.raw nB=false:=S.nr (by decide);have rl:C.raw ke=false:=S.nr (by decide);have rf:C.raw jF=false:=S.nr (by decide);have rr:C.raw kM=false:=S.nr (by decide);have ri:C.raw jW=false:=S.nr (by decide);have rc:C.raw lH=false:=S.nr (by decide);have rs:C.raw si=false:=S.nr (by decide);have hvz:∀H,aM 9999 ev H=(ev,H):=fun H=>hv.r7 _ _;have axV:l.length≤1000:=by have:=hl.len;omega
 obtain⟨nz,nc,ncc⟩:=aCm m;have hnz:∀H,aM 9999 (LO m) H=(LO m,H):=fun H=>nz _ _;have hlz:∀H,aM 9999 iU H=(iU,H):=fun H=>rfl;have aJN:AV.beq ev ev=true:=by
  rcases hv with⟨e,_⟩|e
  ·rw[e];exact beq_refl _ rfl
  ·rw[e];exact beq_refl _ (by simp only[AV.lits];exact cn.ah1 _)
 have aCn:Int.tmod (i:Int) 3=(q:Int):=by rw[hq];rfl
 have hq3:q<3:=by omega
 have hwq:aW .i64 (q:Int)=(q:Int):=aB (by omega) (by omega);simp[Kn.m]at hX;simp only[bM,bO,cz,gL];simp[pO,Qf,OE,OD,q17,hbm,hbL,aCn,hwq,hq3,hev,re,hvz];refine(ald S axV hv).mono ?_;rintro o h1 bS ⟨cE,rfl,hE,e1⟩;have s1:=kTSu nx;have n1:=e1.n;have b1:ae bm h1=some (.cells [.sl X.rows 7 45 .any] .fix):=by rw[e1.g bm (by omega)];exact hbm
 simp[Qf,b1,hX,rl];refine(Yr S).mono ?_;rintro o h2 aN ⟨rfl,e2⟩;have n2:=e2.n;have Wm:=e1.trans e2;have b2:ae bm h2=some (.cells [.sl X.rows 7 45 .any] .fix):=by rw[Wm.g bm (by omega)];exact hbm
 have hEz:∀H,aM 9999 cE H=(cE,H):=fun H=>hE.r7 _ _;have hmz:∀H,aM 9999 X.m H=(X.m,H):=fun H=>rfl;simp[Kn.m]at hmz;have hp:=axU S H Z hm hE hl (h:=h2) (nx:=aN);simp only[Kn.m]at hp;simp[Qf,b2,hX,rf,hEz,hnz,hlz,hmz];refine hp.mono ?_;rintro o h3 bY ⟨e3,e,ord,Tl,cA,cP,hF,hc1,hc3,rfl,hA,hP⟩;have n3:=e3.n;have Vt:=Wm.trans e3;have kA:=hA.cell;have kP:=hP.cell;simp[kA.1,kA.2,kP.1,kP.2];have eh:Ext h nx (aw nx (some (.cells [cP] .fix)) h3) bY:=⟨by omega,fun b hb=>by rw[ax hb];exact Vt.g b (by omega)⟩;have vP:ae nx (aw nx (some (.cells [cP] .fix)) h3)=some (.cells [cP] .fix):=by simp
 generalize aw nx (some (.cells [cP] .fix)) h3=h4 at *;have b4:ae bm h4=some (.cells [.sl X.rows 7 45 .any] .fix):=by rw[eh.g bm bn];exact hbm
 have l4:ae bL h4=some (.cells [c0,c1,c2] .fix):=by rw[eh.g bL bLn];exact hbL
 simp[nH,Qf,OE,OD,q17,b4,l4,aCn,hwq,hq3,hev,rl];refine(Yr S).mono ?_;rintro o h5 r9 ⟨rfl,e5⟩;have n5:=e5.n;have e45:=eh.trans e5;have b5:ae bm h5=some (.cells [.sl X.rows 7 45 .any] .fix):=by rw[e45.g bm bn];exact hbm
 have l5:ae bL h5=some (.cells [c0,c1,c2] .fix):=by rw[e45.g bL bLn];exact hbL
 have vP5:ae nx h5=some (.cells [cP] .fix):=by rw[e5.g nx (by omega)];exact vP
 have hr:=axT S Z hm hv hl (h:=h5) (nx:=r9);simp only[Kn.m]at hr;simp[Qf,b5,l5,hX,rr,hvz,hnz,hlz,hq3,hev,aJN];refine hr.mono ?_;rintro o h6 Cv ⟨e6,f,aSr,aSs,cB,cQ,hG,aSt,rfl,hB,hQ⟩;obtain⟨rfl,rfl,rfl⟩:=FW.uniq hF hG;have n6:=e6.n;have e46:=e45.trans e6;have vP6:ae nx h6=some (.cells [cP] .fix):=by rw[e6.g nx (by omega)];exact vP5
 have hAz:∀n H,aM n cA H=(cA,H):=fun n H=>hA.r7 n H;have hBz:∀n H,aM n cB H=(cB,H):=fun n H=>hB.r7 n H;have hPz:∀n H,aM n cP H=(cP,H):=fun n H=>hP.r7 n H;have hQz:∀n H,aM n cQ H=(cQ,H):=fun n H=>hQ.r7 n H;simp;simp[nJ,ri,hAz,hBz];refine(aa7 S (by omega) hA hB).mono ?_;rintro o h7 nx7 ⟨rfl,e7⟩;have n7:=e7.n;have vP7:ae nx h7=some (.cells [cP] .fix):=by rw[e7.g nx (by omega)];exact vP6
 simp[vP7,rc,hPz,kP.1,kP.2];refine(aho S (by omega) hP).mono ?_;rintro o h8 Tc ⟨⟨cR,rfl,hR⟩,e8⟩;have hRz:∀n H,aM n cR H=(cR,H):=fun n H=>hR.r7 n H;simp[rs,hRz,hQz];refine(ama S (by omega) hc3 hR hQ).mono ?_;rintro o h9 nx9 ⟨rfl,e9⟩;simp;refine fy _ _ _ ?_ ?_ ?_ ?_ (((e46.trans e7).trans e8).trans e9)<;>simp[Qf,OE,S7,OD]
end Ln
namespace Ln
open Go.Sx Go
theorem Y6(x:Int):zb (aW .i64 x):=by
 unfold zb;rw[iC];unfold IntKind.wrap;have hb:(2:Int)^IntKind.i64.bits=18446744073709551616:=by decide
 have hb1:(2:Int)^(IntKind.i64.bits-1)=9223372036854775808:=by decide
 have hs:IntKind.i64.signed=true:=rfl;simp only[hb,hb1,hs,Bool.true_and,decide_eq_true_eq];split<;>omega
def FlI(X:Kn)(bm bL bN:Key)(c0 c1 c2 n0 n1:AV)(hB:T ah)(nxB:Key)(m:Nat)(ay:T AV)(h':T ah)(nx':Key):Prop:=∃i:Nat,m=5-i∧i≤5∧LfS X bm bL bN c0 c1 c2 n0 n1 ay h' nx'∧ae (K 16) ay=some (I i)∧Ext hB nxB h' nx'
variable{C:bQ}{X:Kn}(S:Std C X)(H:OU C){z:List AV}(Z:Zz C X z)
include S H Z
theorem ajL(hX:AV.beq X.m X.m=true){bm bL bN:Key}{c0 c1 c2:AV}{m0 m1:Option Nat}(h0:okW m0)(h1:okW m1){l0 l1 l2:List Ev}(v0:gI 8 eE c0 l0)(v1:gI 8 eE c1 l1)(v2:gI 8 eE c2 l2)(f0:Wc l0)(f1:Wc l1)(f2:Wc l2){hB:T ah}{nxB:Key}{Q:dh}{m:Nat}{tm:T AV}{h:T ah}{nx:Key}(A:FlI X bm bL bN c0 c1 c2 (LO m0) (LO m1) hB nxB m tm h nx)
  (fy:∀ay h' nx',Ext hB nxB h' nx'→Q .norm ay h' nx') :
  W C (.loop pE) (aC 0 Q) tm h nx:=by
 refine W.dy (FlI X bm bL bN c0 c1 c2 (LO m0) (LO m1) hB nxB) A ?_;rintro m ef h2 aN ⟨i,rfl,hi,L,OD,eB⟩;have L':=L;obtain⟨Qf,OE,S7,hbm,hbL,hbN,bn,bLn,bNn⟩:=L';refine W.of ?_;have go:∀{i:Nat} {mm:Option Nat} {q:Nat} {ev:AV} {l:List Ev} {aJ:T AV} {Q2:dh},i<5→okW mm→q=i%3→(∀hh,[c0,c1,c2][q]'hh=ev)→gI 8 eE ev l→Wc l→LfS X bm bL bN c0 c1 c2 (LO m0) (LO m1) aJ h2 aN→ae (K 16) aJ=some (I i)→ae (K 17) aJ=some (LO mm)→(∀ay h' nx',LfS X bm bL bN c0 c1 c2 (LO m0) (LO m1) ay h' nx'→ae (K 16) ay=some (I i)→Ext hB nxB h' nx'→Q2 .norm ay h' nx')→_:=fun {i mm q ev l aJ Q2} hi5 hm hq hev hv hl L2 p16 p17 hg=>aeM S H Z hX hm hi5 hq hev hv hl L2 p16 p17 (Q:=Q2) (fun ay h' nx' a b c d e=>hg ay h' nx' ⟨a,b,c,by rw[e.g bm bn];exact hbm,by rw[e.g bL bLn];exact hbL,by rw[e.g bN bNn];exact hbN,by have:=e.n;omega,by have:=e.n;omega,by have:=e.n;omega⟩ d (eB.trans e));simp only[bM,bO,cz,gL]at go;simp[pE];by_cases hi5:i<5
 ·have hc:i=0∨i=1∨i=2∨i=3∨i=4:=by omega
  rcases hc with rfl|rfl|rfl|rfl|rfl
  ·have hw:aW .i64 (-2)=-2:=aB (by omega) (by omega);simp[dO,OD];simp[fH,S7,OD,hbN,hw];refine go (i:=0) (mm:=m0) (q:=0) hi5 h0 rfl (fun _=>rfl) v0 f0 ⟨?_,?_,?_,hbm,hbL,hbN,bn,bLn,bNn⟩ ?_ ?_ ?_
   ·simp[Qf]
   ·simp[OE]
   ·simp[S7]
   ·simp[OD]
   ·simp
   ·intro ay h' nx' L3 p16 e3;simp;simp[eR,p16];refine⟨4,by omega,1,rfl,by omega,⟨?_,?_,?_,L3.mb,L3.lb,L3.nb,L3.bn,L3.bLn,L3.bNn⟩,?_,e3⟩
    ·simp[L3.Qf]
    ·simp[L3.OE]
    ·simp[L3.S7]
    ·have OF:aW .i64 1=1:=aB (by omega) (by omega);simp[OF]
  ·have hw:aW .i64 (-1)=-1:=aB (by omega) (by omega);simp[dO,OD];simp[fH,S7,OD,hbN,hw];refine go (i:=1) (mm:=m0) (q:=1) hi5 h0 rfl (fun _=>rfl) v1 f1 ⟨?_,?_,?_,hbm,hbL,hbN,bn,bLn,bNn⟩ ?_ ?_ ?_
   ·simp[Qf]
   ·simp[OE]
   ·simp[S7]
   ·simp[OD]
   ·simp
   ·intro ay h' nx' L3 p16 e3;simp;simp[eR,p16];refine⟨3,by omega,2,rfl,by omega,⟨?_,?_,?_,L3.mb,L3.lb,L3.nb,L3.bn,L3.bLn,L3.bNn⟩,?_,e3⟩
    ·simp[L3.Qf]
    ·simp[L3.OE]
    ·simp[L3.S7]
    ·have OF:aW .i64 2=2:=aB (by omega) (by omega);simp[OF]
  ·have hw:aW .i64 (0)=0:=aB (by omega) (by omega);simp[dO,OD];simp[fH,S7,OD,hbN,hw];refine go (i:=2) (mm:=m0) (q:=2) hi5 h0 rfl (fun _=>rfl) v2 f2 ⟨?_,?_,?_,hbm,hbL,hbN,bn,bLn,bNn⟩ ?_ ?_ ?_
   ·simp[Qf]
   ·simp[OE]
   ·simp[S7]
   ·simp[OD]
   ·simp
   ·intro ay h' nx' L3 p16 e3;simp;simp[eR,p16];refine⟨2,by omega,3,rfl,by omega,⟨?_,?_,?_,L3.mb,L3.lb,L3.nb,L3.bn,L3.bLn,L3.bNn⟩,?_,e3⟩
    ·simp[L3.Qf]
    ·simp[L3.OE]
    ·simp[L3.S7]
    ·have OF:aW .i64 3=3:=aB (by omega) (by omega);simp[OF]
  ·have hw:aW .i64 (1)=1:=aB (by omega) (by omega);simp[dO,OD];simp[fH,S7,OD,hbN,hw];refine go (i:=3) (mm:=m1) (q:=0) hi5 h1 rfl (fun _=>rfl) v0 f0 ⟨?_,?_,?_,hbm,hbL,hbN,bn,bLn,bNn⟩ ?_ ?_ ?_
   ·simp[Qf]
   ·simp[OE]
   ·simp[S7]
   ·simp[OD]
   ·simp
   ·intro ay h' nx' L3 p16 e3;simp;simp[eR,p16];refine⟨1,by omega,4,rfl,by omega,⟨?_,?_,?_,L3.mb,L3.lb,L3.nb,L3.bn,L3.bLn,L3.bNn⟩,?_,e3⟩
    ·simp[L3.Qf]
    ·simp[L3.OE]
    ·simp[L3.S7]
    ·have OF:aW .i64 4=4:=aB (by omega) (by omega);simp[OF]
  ·have hw:aW .i64 (2)=2:=aB (by omega) (by omega);simp[dO,OD];simp[fH,S7,OD,hbN,hw];refine go (i:=4) (mm:=none) (q:=1) hi5 trivial rfl (fun _=>rfl) v1 f1 ⟨?_,?_,?_,hbm,hbL,hbN,bn,bLn,bNn⟩ ?_ ?_ ?_
   ·simp[Qf]
   ·simp[OE]
   ·simp[S7]
   ·simp[OD]
   ·simp[LO]
   ·intro ay h' nx' L3 p16 e3;simp;simp[eR,p16];refine⟨5,rfl,by omega,⟨?_,?_,?_,L3.mb,L3.lb,L3.nb,L3.bn,L3.bLn,L3.bNn⟩,?_,e3⟩
    ·simp[L3.Qf]
    ·simp[L3.OE]
    ·simp[L3.S7]
    ·have OF:aW .i64 5=5:=aB (by omega) (by omega);simp[OF]
 ·have LJ:i=5:=by omega
  subst LJ;simp[dO,OD];exact fy _ _ _ eB
end Ln
namespace Ln
open Go.Sx Go
variable{C:bQ}{X:Kn}(S:Std C X)(H:OU C){z:List AV}(Z:Zz C X z)
include S H Z
theorem aoQ(hX:AV.beq X.m X.m=true){n YU Wh by':Int}(hn:zb n)(EK:zb YU)(hw:zb Wh)(hb:zb by'){ks:List Int}(BL:∀x∈ks,zb x){c0:AV}(Mx:gI 1 eI c0 ks)(hB:T ah)(nxB:Key) :
  aG C qP [c0,I n,I YU,I Wh,I by'] hB nxB (fun o h' nx'=>o=.ret (.bool true)∧Ext hB nxB h' nx'):=by
 have rM:C.raw zP=false:=S.nr (by decide);have rn:C.raw kX=false:=S.nr (by decide);have rH:C.raw lJ=false:=S.nr (by decide);have rS:C.raw j7=false:=S.nr (by decide);have rv:C.raw Cm=false:=S.nr (by decide);have aKM:∀H,aM 9999 c0 H=(c0,H):=fun H=>Mx.r7 _ _;have s1:=kTSu nxB;have hmi:=ahE n;refine S.zN.call ?_;simp only[uY,bM,cz,bO,Dy,gL];simp[ye];simp[yg,rM];refine aG.known (S.s_Module _ _) ?_;simp[Kn.m];have e1:=E0 hB nxB (.cells [.sl X.rows 7 45 .any] .fix);have b1:ae nxB (aw nxB (some (.cells [.sl X.rows 7 45 .any] .fix)) hB)=some (.cells [.sl X.rows 7 45 .any] .fix):=by simp
 generalize aw nxB (some (.cells [.sl X.rows 7 45 .any] .fix)) hB=h1 at *;simp[yh,rn];refine(ZQ S hn).mono ?_;rintro o h2 aN ⟨rfl,e2⟩;simp[rH,aKM];have hh:=ahx S (ahE n) BL Mx (most:=14) (by omega) (h:=h2) (nx:=aN);simp at hh;refine hh.mono ?_;rintro o h3 bY ⟨ev,l,g,rfl,hv,hll,hr,e3⟩;have aws:=hr.few;have hvz:∀H,aM 9999 ev H=(ev,H):=fun H=>hv.r7 _ _;have Vt:=(e1.trans e2).trans e3;have n2:=e2.n;have n3:=e3.n;simp;have hs:=Yp S EK hw hb (l:=l) (by omega) (A:=1) (by omega) (fun x hx=>(aws x hx).1) hv (h:=h3) (nx:=bY);simp[yi,rS,hvz];refine hs.mono ?_;rintro o h4 jZ ⟨cY,ly,rfl,hY,hly,hay,e4⟩;have hYz:∀H,aM 9999 cY H=(cY,H):=fun H=>hY.r7 _ _;have n4:=e4.n;have kv:=hv.cell;have kY:=hY.cell;have hs2:=Yp S (alr EK) (Y6 (Wh.tdiv 7)) (Y6 (by'.tdiv 2)) (l:=ly) (by omega) (A:=2) (by omega) hay hY (h:=h4) (nx:=jZ);simp;simp[yj,rS,hYz];refine hs2.mono ?_;rintro o h5 r9 ⟨cZ,lz,rfl,hZ,hlz,haz,e5⟩;have kZ:=hZ.cell;have n5:=e5.n;have s5:=kTSu r9;have e15:=(Vt.trans e4).trans e5;simp[kv.1,kv.2,kY.1,kY.2,kZ.1,kZ.2];have e6:=E0 h5 r9 (.cells [ev,cY,cZ] .fix);have l6:ae r9 (aw r9 (some (.cells [ev,cY,cZ] .fix)) h5)=some (.cells [ev,cY,cZ] .fix):=by simp
 generalize aw r9 (some (.cells [ev,cY,cZ] .fix)) h5=h6 at *;simp[yl,rn];refine(ZQ S hn).mono ?_;rintro o h7 nx7 ⟨rfl,e7⟩;have n7:=e7.n;simp[rn];refine(ZQ S (Y6 (n+YU))).mono ?_;rintro o h8 Tc ⟨rfl,e8⟩;have n8:=e8.n;have s8:=kTSu Tc;have e68:=e7.trans e8;have e18:=(e15.trans e6).trans e68;have l8:ae r9 h8=some (.cells [ev,cY,cZ] .fix):=by rw[e68.g r9 (by omega)];exact l6
 have b8:ae nxB h8=some (.cells [.sl X.rows 7 45 .any] .fix):=by rw[e68.g nxB (by omega),e6.g nxB (by omega),e5.g nxB (by omega),e4.g nxB (by omega),e3.g nxB (by omega),e2.g nxB (by omega)];exact b1
 simp;have e9:=E0 h8 Tc (.cells [LO (some (nmI n)),LO (some (nmI (aW .i64 (n+YU)))),QW] .fix);have g9:ae Tc (aw Tc (some (.cells [LO (some (nmI n)),LO (some (nmI (aW .i64 (n+YU)))),QW] .fix)) h8)=some (.cells [LO (some (nmI n)),LO (some (nmI (aW .i64 (n+YU)))),QW] .fix):=by simp
 have l9:ae r9 (aw Tc (some (.cells [LO (some (nmI n)),LO (some (nmI (aW .i64 (n+YU)))),QW] .fix)) h8)=some (.cells [ev,cY,cZ] .fix):=by rw[e9.g r9 (by omega)];exact l8
 have b9:ae nxB (aw Tc (some (.cells [LO (some (nmI n)),LO (some (nmI (aW .i64 (n+YU)))),QW] .fix)) h8)=some (.cells [.sl X.rows 7 45 .any] .fix):=by rw[e9.g nxB (by omega)];exact b8
 simp only[LO,QW]at e9 g9 l9 b9;simp[ym];refine ajL S H Z hX (bm:=nxB) (bL:=r9) (bN:=Tc) (c0:=ev) (c1:=cY) (c2:=cZ) (m0:=some (nmI n)) (m1:=some (nmI (aW .i64 (n+YU)))) hmi (ahE _) (l0:=l) (l1:=ly) (l2:=lz) hv hY hZ ⟨by omega,fun x hx=>by have:=(aws x hx).1;omega⟩ ⟨by omega,fun x hx=>by have:=hay x hx;omega⟩ ⟨by omega,fun x hx=>by have:=haz x hx;omega⟩ (hB:=hB) (nxB:=nxB) (m:=5) (h:=aw Tc (some (.cells [ft (nmI n),ft (nmI (aW .i64 (n+YU))),.str 2 31354] .fix)) h8) (nx:=Tc.succ) ⟨0,rfl,by omega,⟨?_,?_,?_,b9,l9,g9,by omega,by omega,by omega⟩,?_,e18.trans e9⟩ ?_
 ·simp
 ·simp
 ·simp
 ·simp
 ·intro ay h' nx' e';simp[wE,rv];refine aG.known (S.s_lives _ _) ?_;simp;exact e'
end Ln
namespace Go.Sx
def zW(W:World)(c i:Nat):Option Value:=match W.heap[c]? with
 |some (.cells arr _ _)=>arr[i]?
 |_=>none
theorem asO{W:World}:∀c i v,zW W c i=some v→∃arr elem f,W.heap[c]?=some (.cells arr elem f)∧arr[i]?=some v:=by
 intro c i v h;unfold zW at h;split at h
 ·rename_i arr e f he;exact⟨arr,e,f,he,h⟩
 ·cases h
end Go.Sx
