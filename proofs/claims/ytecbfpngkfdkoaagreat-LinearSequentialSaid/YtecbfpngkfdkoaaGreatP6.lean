/- A part of the proof. No condition. -/
import Derived.Test.YtecbfpngkfdkoaaGreatP5
set_option linter.unusedSimpArgs false
set_option linter.unusedVariables false
set_option linter.unusedSectionVars false
namespace Go.Sx
open Go.RowKit
inductive Ex where
 |norm
 |ret
 |exit (id:Nat)
 |pan (a:AV)
def Aft(af:nG)(k:List db):Ex→T AV→nG→Prop
 |.norm,tm,fr=>fr={af with tm:=tm,todo:=k}
 |.ret,tm,fr=>∃t,fr={af with tm:=tm,todo:=.code .ret ::t}
 |.exit id,tm,fr=>∃k2,nK id k2=nK id k∧fr={af with tm:=tm,todo:=.code (.exit id) ::k2}
 |.pan a,tm,fr=>fr={af with tm:=tm,todo:=[],mode:=.pan a false}
def Lv:Option Nat→aK
 |none=>.ret
 |some i=>.exit i
abbrev cJ:=Ex→T AV→T ai→Key→Prop
def Stop(Q:cJ)(af:nG)(k:List db)(cs:List nG)(m:AM):Prop:=∃e aA h' nx' fr,Q e aA h' nx'∧Aft af k e aA fr∧m=⟨fr,cs,h',nx'⟩
def WI(C:bH)(x:db)(Q:cJ)(tm:T AV)(h:T ai)(nx:Key):Prop:=
 ∀(af:nG) (k:List db) (cs:List nG),af.mode=.run→True→Ev C (Stop Q af k cs) ⟨{af with tm:=tm,todo:=x ::k},cs,h,nx⟩
abbrev W(C:bH)(c:aK):cJ→T AV→T ai→Key→Prop:=WI C (.code c)
section
variable{C:bH}{Q Q':cJ}{tm:T AV}{h:T ai}{nx:Key}
theorem WI.mono{x:db}(hw:WI C x Q tm h nx)(hq:∀e tm h nx,Q e tm h nx→Q' e tm h nx):WI C x Q' tm h nx:=by intro af k cs h1 h2;refine(hw af k cs h1 h2).mono ?_;rintro m ⟨e,aA,h',nx',fr,q,a,t⟩;exact⟨e,aA,h',nx',fr,hq _ _ _ _ q,a,t⟩
theorem bx{m:AM}{r:SR}(hm:m.fr.mode=.run)(hr:b9 C m.fr m.cs m.h m.nx=r):jj C m=r:=by unfold jj;simp only[hm];exact hr
theorem Stop.not{y:db}{af:nG}{k:List db}{cs cs2:List nG}(hy:∀i,y≠.code (Lv i))(h1:af.mode=.run):¬Stop Q af k cs ⟨{af with tm:=tm,todo:=y ::k},cs2,h,nx⟩:=by
 rintro⟨e,aA,h',nx',fr,q,a,t⟩;simp only[AM.mk.injEq]at t;obtain⟨e0,_⟩:=t;cases e with
 |norm=>cases a;simp at e0
 |ret=>obtain⟨_,rfl⟩:=a;simp at e0;exact hy none e0.2.1
 |exit id=>obtain⟨_,_,rfl⟩:=a;simp at e0;exact hy (some id) e0.2.1
 |pan a'=>cases a;simp at e0
theorem WI.to{x y:db}(hs:∀(af:nG) (k:List db) (cs:List nG),af.mode=.run→True→b9 C {af with tm:=tm,todo:=x ::k} cs h nx=.next ⟨{af with tm:=tm,todo:=y ::k},cs,h,nx⟩)(hw:WI C y Q tm h nx):WI C x Q tm h nx:=by intro af k cs h1 h2;exact .step (bx h1 (hs af k cs h1 h2)) (hw af k cs h1 h2)
theorem W.skip(hq:Q .norm tm h nx):W C .skip Q tm h nx:=by intro af k cs h1 h2;exact .step (bx h1 rfl) (.now ⟨.norm,tm,h,nx,_,hq,rfl,rfl⟩)
theorem W.ret(hq:Q .ret tm h nx):W C .ret Q tm h nx:=by intro af k cs h1 h2;exact .now ⟨.ret,tm,h,nx,_,hq,⟨k,rfl⟩,rfl⟩
theorem W.exit{id:Nat}(hq:Q (.exit id) tm h nx):W C (.exit id) Q tm h nx:=by intro af k cs h1 h2;exact .now ⟨.exit id,tm,h,nx,_,hq,⟨k,rfl,rfl⟩,rfl⟩
theorem W.seq{a b:aK}(hw:W C a (fun e tm h nx=>match e with|.norm=>W C b Q tm h nx|e=>Q e tm h nx) tm h nx):W C (.seq a b) Q tm h nx:=by
 intro af k cs h1 h2;refine .step (m':=⟨{af with tm:=tm,todo:=.code a ::.code b ::k},cs,h,nx⟩) (bx h1 rfl) ((hw af (.code b ::k) cs h1 h2).bind ?_);rintro m ⟨e,aA,h',nx',fr,q,ha,rfl⟩;cases e with
 |norm=>cases ha;refine(q {af with tm:=aA} k cs h1 h2).mono ?_;rintro m ⟨e2,cE,hh2,aZ,IV,q2,a2,t2⟩;refine⟨e2,cE,hh2,aZ,IV,q2,?_,t2⟩;cases e2<;>exact a2
 |ret=>exact .now ⟨.ret,aA,h',nx',fr,q,ha,rfl⟩
 |exit id=>obtain⟨k2,e1,e2⟩:=ha;exact .now ⟨.exit id,aA,h',nx',fr,q,⟨k2,e1,e2⟩,rfl⟩
 |pan a=>exact .now ⟨.pan a,aA,h',nx',fr,q,ha,rfl⟩
theorem W.cond{x:PX}{a b:aK}{t:Bool}(hx:x.at tm=some (.bool t))(hw:W C (if t then a else b) Q tm h nx):W C (.cond x a b) Q tm h nx:=by refine WI.to (y:=.code (if t then a else b)) ?_ hw;intro af k cs h1 h2;simp only[b9,hx];cases t<;>rfl
theorem W.block{id:Nat}{c:aK}(hw:W C c (fun e tm h nx=>match e with|.exit j=>if j=id then Q .norm tm h nx else Q (.exit j) tm h nx|e=>Q e tm h nx) tm h nx):W C (.block id c) Q tm h nx:=by
 intro af k cs h1 h2;refine .step (m':=⟨{af with tm:=tm,todo:=.code c ::.inBlock id ::k},cs,h,nx⟩) (bx h1 rfl) ((hw af (.inBlock id ::k) cs h1 h2).bind ?_);rintro m ⟨e,aA,h',nx',fr,q,ha,rfl⟩;cases e with
 |norm=>cases ha;exact .step (bx h1 rfl) (.now ⟨.norm,aA,h',nx',_,q,rfl,rfl⟩)
 |ret=>exact .now ⟨.ret,aA,h',nx',fr,q,ha,rfl⟩
 |exit j=>
  obtain⟨k2,e1,rfl⟩:=ha;by_cases hj:j=id
  ·subst hj;simp only[if_true]at q;refine .step (m':=⟨{af with tm:=aA,todo:=k},cs,h',nx'⟩) (bx h1 ?_) (.now ⟨.norm,aA,h',nx',_,q,rfl,rfl⟩);simp only[b9,e1,nK,beqN_eq,decide_true,cond_true]
  ·simp only[if_neg hj]at q;refine .now ⟨.exit j,aA,h',nx',_,q,⟨k2,?_,rfl⟩,rfl⟩;rw[e1];simp only[nK,beqN_eq,show ¬id=j from fun e=>hj e.symm,decide_false,cond_false]
 |pan a=>exact .now ⟨.pan a,aA,h',nx',fr,q,ha,rfl⟩
theorem W.loop{c:aK}(Inv:Nat→T AV→T ai→Key→Prop)
  (hw:∀n tm h nx,Inv n tm h nx→W C c (fun e tm h nx=>match e with|.norm=>∃m,m<n∧Inv m tm h nx|e=>Q e tm h nx) tm h nx) {n:Nat} (hi:Inv n tm h nx):W C (.loop c) Q tm h nx:=by
 have key:∀(n:Nat) (tm:T AV) (h:T ai) (nx:Key),Inv n tm h nx→WI C (.inLoop c) Q tm h nx:=by
  intro n
  induction n using Nat.strongRecOn with
  |_ n ih=>
   intro tm h nx hi af k cs h1 h2;refine .step (m':=⟨{af with tm:=tm,todo:=.code c ::.inLoop c ::k},cs,h,nx⟩) (bx h1 rfl) ((hw n tm h nx hi af (.inLoop c ::k) cs h1 h2).bind ?_);rintro m ⟨e,aA,h',nx',fr,q,ha,rfl⟩;cases e with
   |norm=>cases ha;obtain⟨m,hm,him⟩:=q;refine(ih m hm aA h' nx' him {af with tm:=aA} k cs h1 h2).mono ?_;rintro m ⟨e2,cE,hh2,aZ,IV,q2,a2,t2⟩;refine⟨e2,cE,hh2,aZ,IV,q2,?_,t2⟩;cases e2<;>exact a2
   |ret=>exact .now ⟨.ret,aA,h',nx',fr,q,ha,rfl⟩
   |exit id=>obtain⟨k2,e1,e2⟩:=ha;exact .now ⟨.exit id,aA,h',nx',fr,q,⟨k2,e1,e2⟩,rfl⟩
   |pan a=>exact .now ⟨.pan a,aA,h',nx',fr,q,ha,rfl⟩
 intro af k cs h1 h2;exact Ev.same (by rw[bx (m:=⟨{af with tm:=tm,todo:=.inLoop c ::k},cs,h,nx⟩) h1 rfl,bx (m:=⟨{af with tm:=tm,todo:=.code (.loop c) ::k},cs,h,nx⟩) h1 rfl];rfl)
  (Stop.not (fun i e=>by cases i<;>cases e) h1) (key n tm h nx hi af k cs h1 h2)
inductive Out where
 |ret (v:AV)
 |pan (a:AV)
noncomputable def GX(C:bH)(f:Nat):Option fN:=bif Nat.beq (Key.fX 12 f).toNat f then ag (Key.fX 12 f) C.fns else none
def Left(C:bH)(f:Nat)(fr:nG)(h1:T ai)(o:Out)(h':T ai):Prop:=fr.dfs=[]∧match o with
 |.ret v=>fr.mode=.ret∧∃l,resultsA h1 fr.tm fr.res=some l∧v=o5 (cq (C.mT f) l h1).1∧h'=(cq (C.mT f) l h1).2
 |.pan a=>fr.mode=.pan a false∧h'=h1
def aD0(C:bH)(f:Nat)(R:Out→T ai→Key→Prop)(cs:List nG)(m:AM):Prop:=∃o h' nx' fr h1,R o h' nx'∧fr.fn=f∧fr.FE=false∧Left C f fr h1 o h'∧m=⟨fr,cs,h1,nx'⟩
def aB(C:bH)(f:Nat)(l:List AV)(h:T ai)(nx:Key)(R:Out→T ai→Key→Prop):Prop:=
 (∃v h' nx',C.sum f l h nx=some (v,h',nx')∧R (.ret v) h' nx')∨
 (C.sum f l h nx=none∧∃p,GX C f=some p∧∀cs,Ev C (aD0 C f R cs) ⟨ah f p l,cs,h,nx⟩)
theorem aB.mono{f:Nat}{l:List AV}{R R':Out→T ai→Key→Prop}(hc:aB C f l h nx R)(hr:∀o h nx,R o h nx→R' o h nx):aB C f l h nx R':=by
 rcases hc with⟨v,h',nx',h1,h2⟩|⟨h1,p,h2,h3⟩
 ·exact .inl ⟨v,h',nx',h1,hr _ _ _ h2⟩
 ·refine .inr ⟨h1,p,h2,fun cs=>(h3 cs).mono ?_⟩;rintro m ⟨o,h',nx',fr,h1,q,r⟩;exact⟨o,h',nx',fr,h1,hr _ _ _ q,r⟩
def Ch(C:bH)(f:Nat)(res:List RV)(R:Out→T ai→Key→Prop):cJ:=fun e tm h nx=>match e with
 |.norm|.ret=>∃l,resultsA h tm res=some l∧R (.ret (o5 (cq (C.mT f) l h).1)) (cq (C.mT f) l h).2 nx
 |.pan a=>R (.pan a) h nx
 |.exit _=>False
theorem aB.ac6{f:Nat}{p:fN}{l:List AV}{R:Out→T ai→Key→Prop}(hs:C.sum f l h nx=none)(hp:GX C f=some p)(hw:W C p.body (Ch C f p.res R) (iG l .z .nil) h nx):aB C f l h nx R:=by
 refine .inr ⟨hs,p,hp,fun cs=>(hw (ah f p l) [] cs rfl trivial).bind ?_⟩;rintro m ⟨e,aA,h',nx',fr,q,ha,rfl⟩;cases e with
 |norm=>cases ha;obtain⟨l1,hl,hr⟩:=q;exact .step (m':=⟨{ah f p l with tm:=aA,todo:=[],mode:=.ret},cs,h',nx'⟩) (bx rfl rfl) (.now ⟨_,_,nx',_,h',hr,rfl,rfl,⟨rfl,rfl,l1,hl,rfl,rfl⟩,rfl⟩)
 |ret=>obtain⟨t',rfl⟩:=ha;obtain⟨l1,hl,hr⟩:=q;exact .step (m':=⟨{ah f p l with tm:=aA,todo:=.code .ret ::t',mode:=.ret},cs,h',nx'⟩) (bx rfl rfl) (.now ⟨_,_,nx',_,h',hr,rfl,rfl,⟨rfl,rfl,l1,hl,rfl,rfl⟩,rfl⟩)
 |exit id=>exact q.elim
 |pan a=>cases ha;exact .now ⟨.pan a,h',nx',_,h',q,rfl,rfl,⟨rfl,rfl,rfl⟩,rfl⟩
theorem W.ops{l:List ay}(hw:WI C (.ops l) Q tm h nx):W C (.ops l) Q tm h nx:=
 WI.to (y:=.ops l) (fun _ _ _ _ _=>rfl) hw
theorem WI.atg{l:List ay}{aA:T AV}{h':T ai}{nx':Key}(hr:lE C.orc l tm h nx=.fin aA h' nx')(hq:Q .norm aA h' nx'):WI C (.ops l) Q tm h nx:=by intro af k cs h1 h2;refine .step (m':=⟨{af with tm:=aA,todo:=k},cs,h',nx'⟩) (bx h1 ?_) (.now ⟨.norm,aA,h',nx',_,hq,rfl,rfl⟩);simp only[b9,hr]
theorem Xv{S:AM→Prop}{f:Nat}{args:List AV}{fr c:nG}{cs:List nG}{R:Out→T ai→Key→Prop}(hc:aB C f (cq (C.raw f) args h).1 (cq (C.raw f) args h).2 nx R)
  (Pz:∀v,∃fY,cT v fr=some fY) (Cg:fr.mode=.run) {m:AM} (hm:jj C m=jO C (.call f args) fr c cs h nx)
  (Fc:∀v h' nx' fY,R (.ret v) h' nx'→cT v fr=some fY→Ev C S ⟨fY,cs,h',nx'⟩)
  (apw:∀a h' nx',R (.pan a) h' nx'→Ev C S ⟨{fr with mode:=.pan a false,todo:=[],tm:=(match fr.todo with|.staged _ d _ ::_=>JX d.ds fr.tm (fun t=>t)|_=>fr.tm)},cs,h',nx'⟩):Ev C S m:=by
 rcases hc with⟨v,h',nx',hs,hr⟩|⟨hs,p,hp,gD⟩
 ·obtain⟨fY,hf⟩:=Pz v;refine .step (m':=⟨fY,cs,h',nx'⟩) ?_ (Fc v h' nx' fY hr hf);rw[hm];simp only[jO,yc,hs,hf]
 ·have hen:jj C m=.next ⟨ah f p (cq (C.raw f) args h).1,fr ::cs,(cq (C.raw f) args h).2,nx⟩:=by rw[hm];simp only[jO,yc,hs];unfold FF;have hp':(bif Nat.beq (Key.fX 12 f).toNat f then ag (Key.fX 12 f) C.fns else none)=some p:=hp;simp only[hp',CW];rfl
  refine .step hen ((gD (fr ::cs)).bind ?_);rintro m2 ⟨o,h',nx',IV,h1,hr,hfn,hdf,⟨hd,hL⟩,rfl⟩;cases o with
  |ret v=>obtain⟨NR,l,hl,rfl,rfl⟩:=hL;obtain⟨fY,hf⟩:=Pz (o5 (cq (C.mT f) l h1).1);refine .step (m':=⟨fY,cs,(cq (C.mT f) l h1).2,nx'⟩) ?_ (Fc _ _ nx' fY hr hf);unfold jj;simp only[NR];unfold Ag;simp only[hd,NR,hl,hfn,yc];unfold Lk;simp only[hdf,cond_false,hf]
  |pan a=>obtain⟨NR,rfl⟩:=hL;refine .step ?_ (apw a h' nx' hr);unfold jj;simp only[NR];unfold Ag;simp only[hd,NR,Cg];rfl
theorem WI.apx{l:List ay}{f:Nat}{args:List AV}{o:ay}{rest:List ay}{gh:T AV}{h1:T ai}{bW:Key}{R:Out→T ai→Key→Prop}(hr:lE C.orc l tm h nx=.ev (.call f args) (o ::rest) gh h1 bW)
  (hc:aB C f (cq (C.raw f) args h1).1 (cq (C.raw f) args h1).2 bW R)
  (Fc:∀v h2 aZ,R (.ret v) h2 aZ→WI C (.ops rest) Q (bT o.dst v gh) h2 aZ)
  (apw:∀a h2 aZ,R (.pan a) h2 aZ→Q (.pan a) gh h2 aZ):WI C (.ops l) Q tm h nx:=by
 intro af k cs m1 m2;have fy:jj C ⟨{af with tm:=tm,todo:=.ops l ::k},cs,h,nx⟩=jO C (.call f args) {af with tm:=gh,todo:=.ops (o ::rest) ::k} {af with tm:=gh,todo:=[]} cs h1 bW:=by refine bx m1 ?_;simp only[b9,hr]
 have hfe:∀v,cT v {af with tm:=gh,todo:=.ops (o ::rest) ::k}=some {af with tm:=bT o.dst v gh,todo:=.ops rest ::k}:=fun v=>by simp only[cT,fF]
 refine Xv (fr:={af with tm:=gh,todo:=.ops (o ::rest) ::k}) (c:={af with tm:=gh,todo:=[]}) (cs:=cs) hc (fun v=>⟨_,hfe v⟩) m1 fy ?_ ?_
 ·intro v h' nx' fY hR hf;rw[hfe]at hf;cases hf;refine(Fc v h' nx' hR {af with tm:=bT o.dst v gh} k cs m1 m2).mono ?_;rintro m ⟨e2,cE,hh2,aZ,IV,q2,a2,t2⟩;refine⟨e2,cE,hh2,aZ,IV,q2,?_,t2⟩;cases e2<;>exact a2
 ·intro a h' nx' hR;exact .now ⟨.pan a,gh,h',nx',_,apw a h' nx' hR,rfl,rfl⟩
theorem W.staged{l:List aH}{d:SD}(hw:WI C (.staged l d []) Q tm h nx):W C (.staged l d) Q tm h nx:=
 WI.to (y:=.staged l d []) (fun _ _ _ _ _=>rfl) hw
theorem W.both{l1 l2:List aH}{d1 d2:SD}(h1:WI C (.staged l1 d1 []) Q tm h nx)(h2:WI C (.staged l2 d2 []) Q tm h nx):W C (.both l1 d1 l2 d2) Q tm h nx:=by intro af k cs m1 m2;have to:∀{l:List aH} {d:SD},WI C (.staged l d []) Q tm h nx→Ev C (Stop Q af k cs) ⟨{af with tm:=tm,todo:=.staged l d [] ::k},cs,h,nx⟩:=fun hw=>hw af k cs m1 m2;exact .alt (bx m1 rfl) (to h1) (to h2)
theorem WI.ay3{l:List aH}{d:SD}{pend:List (Nat×Key×ai)}{aA:T AV}{h':T ai}{nx':Key}(hr:jg C.orc d.ke l pend tm h nx=.fin aA h' nx')(hq:Q .norm aA h' nx'):WI C (.staged l d pend) Q tm h nx:=by intro af k cs h1 h2;refine .step (m':=⟨{af with tm:=aA,todo:=k},cs,h',nx'⟩) (bx h1 ?_) (.now ⟨.norm,aA,h',nx',_,hq,rfl,rfl⟩);simp only[b9,hr]
theorem WI.ath{l:List aH}{d:SD}{pend Cr:List (Nat×Key×ai)}{f:Nat}{args:List AV}{i:Nat}{o:ay}{ad:List Nat}{rest:List aH}{gh:T AV}{h1:T ai}{bW:Key}{R:Out→T ai→Key→Prop}
  (hr:jg C.orc d.ke l pend tm h nx=.ev (.call f args) (.H i o ad ::rest) Cr gh h1 bW)
  (hc:aB C f (cq (C.raw f) args h1).1 (cq (C.raw f) args h1).2 bW R)
  (Fc:∀v h2 aZ,R (.ret v) h2 aZ→WI C (.staged rest d Cr) Q (bT o.dst v gh) h2 aZ)
  (apw:∀a h2 aZ,R (.pan a) h2 aZ→Q (.pan a) (kP d.ds gh) h2 aZ):WI C (.staged l d pend) Q tm h nx:=by
 intro af k cs m1 m2;have fy:jj C ⟨{af with tm:=tm,todo:=.staged l d pend ::k},cs,h,nx⟩=jO C (.call f args) {af with tm:=gh,todo:=.staged (.H i o ad ::rest) d Cr ::k} {af with tm:=kP d.ds gh,todo:=[]} cs h1 bW:=by refine bx m1 ?_;simp only[b9,hr,qz]
 have hfe:∀v,cT v {af with tm:=gh,todo:=.staged (.H i o ad ::rest) d Cr ::k}=some {af with tm:=bT o.dst v gh,todo:=.staged rest d Cr ::k}:=fun v=>by simp only[cT,fF]
 refine Xv (fr:={af with tm:=gh,todo:=.staged (.H i o ad ::rest) d Cr ::k}) (c:={af with tm:=kP d.ds gh,todo:=[]}) (cs:=cs) hc (fun v=>⟨_,hfe v⟩) m1 fy ?_ ?_
 ·intro v h' nx' fY hR hf;rw[hfe]at hf;cases hf;refine(Fc v h' nx' hR {af with tm:=bT o.dst v gh} k cs m1 m2).mono ?_;rintro m ⟨e2,cE,hh2,aZ,IV,q2,a2,t2⟩;refine⟨e2,cE,hh2,aZ,IV,q2,?_,t2⟩;cases e2<;>exact a2
 ·intro a h' nx' hR;simp only[qz];exact .now ⟨.pan a,kP d.ds gh,h',nx',_,apw a h' nx' hR,rfl,rfl⟩
theorem WI.ati{l:List ay}{a:AV}{rest:List ay}{gh:T AV}{h1:T ai}{bW:Key}(hr:lE C.orc l tm h nx=.ev (.pan a) rest gh h1 bW)(hq:Q (.pan a) gh h1 bW):WI C (.ops l) Q tm h nx:=by intro af k cs m1 m2;refine .step (m':=⟨{af with tm:=gh,todo:=[],mode:=.pan a false},cs,h1,bW⟩) (bx m1 ?_) (.now ⟨.pan a,gh,h1,bW,_,hq,rfl,rfl⟩);simp only[b9,hr,jO]
noncomputable def atj:List Key→List AV→T AV→Option (T AV)
 | [],[],tm=>some tm
 |k ::l,v ::m,tm=>atj l m (au k (some v) tm)
 |_,_,_=>none
theorem ac8{R:Type}:∀(l:List Key) (m:List AV) (tm:T AV) (bad:R) (c:T AV→R),XZ l m tm bad c=match atj l m tm with|some tm=>c tm|none=>bad
 | [],[],_,_,_=>rfl
 | [],_ ::_,_,_,_=>rfl
 |_ ::_,[],_,_,_=>rfl
 |k ::l,v ::m,tm,bad,c=>by show x0 k (some v) tm (fun tm=>XZ l m tm bad c)=_;rw[sTCe];exact ac8 l m _ bad c
def Kz(R:Out→T ai→Key→Prop)(l:Key)(fn:Nat)(tm:T AV)(res:List RV)(ps:List Key)(a b:aK)(d:Key):cJ:=fun e _ h nx=>(∃p,ag l h=some (.loop .busy p fn tm res ps a b d))∧match e with
 |.norm=>R (.ret (.bool true)) (au l (some (.loop .ready none fn tm res ps a b d)) h) nx
 |.ret=>R (.ret (.bool false)) (au l (some (.loop .done (some .ret) fn tm res ps a b d)) h) nx
 |.exit i=>R (.ret (.bool false)) (au l (some (.loop .done (some (.exit i)) fn tm res ps a b d)) h) nx
 |.pan _=>False
def B0(C:bH)(l:Key)(args:List AV)(h:T ai)(nx:Key)(R:Out→T ai→Key→Prop):Prop:=
 ∃fn tm res ps a b d,(∃p,ag l h=some (.loop .ready p fn tm res ps a b d))∧∃gh,atj ps args tm=some gh∧
  W C a (fun e cE h2 aZ=>e=.norm∧∃p,ag l h2=some (.loop .ready p fn tm res ps a b d)∧W C b (Kz R l fn tm res ps a b d) cE (au l (some (.loop .busy p fn tm res ps a b d)) h2) aZ) gh h nx
theorem HE{jump:Option aK}{fr c c':nG}{cs:List nG}{l:Key}{st:LS}{p:Option aK}{fn:Nat}{gh:T AV}{res:List RV}{ps:List Key}{a b:aK}{d:Key}(hr:fr.uW=some l)(hl:ag l h=some (.loop st p fn gh res ps a b d))
  (hf:cT (.bool (match jump with|none=>true|some _=>false)) c=some c'):J7 jump fr (c ::cs) h nx=.next ⟨c',cs,au l (some (.loop (match jump with|none=>.ready|some _=>.done) jump fn gh res ps a b d)) h,nx⟩:=by
 unfold J7;rw[hr];dsimp only;rw[hl];cases jump with
 |none=>have hf:cT (.bool true) c=some c':=hf;simp only[sTCe,hf]
 |some j=>have hf:cT (.bool false) c=some c':=hf;simp only[sTCe,hf]
theorem ac9{S:AM→Prop}{l:Key}{args:List AV}{fr c:nG}{cs:List nG}{R:Out→T ai→Key→Prop}(hc:B0 C l args h nx R)
  (Pz:∀v,∃fY,cT v fr=some fY) {m:AM} (hm:jj C m=jO C (.yld l args) fr c cs h nx)
  (Fc:∀v h' nx' fY,R (.ret v) h' nx'→cT v fr=some fY→Ev C S ⟨fY,cs,h',nx'⟩):Ev C S m:=by
 obtain⟨fn,tm,res,ps,a,b,d,⟨p,hl⟩,gh,hz,hw⟩:=hc;refine .step (m':=⟨{fn:=fn,tm:=gh,todo:=[.code a,.beginRound,.code b],dfs:=[],mode:=.run,FE:=false,uW:=some l,res:=res},fr ::cs,h,nx⟩) ?_ ?_
 ·rw[hm];simp only[jO,hl,ac8,hz]
 ·refine(hw {fn:=fn,tm:=gh,todo:=[],dfs:=[],mode:=.run,FE:=false,uW:=some l,res:=res} [.beginRound,.code b] (fr ::cs) rfl trivial).bind ?_;rintro m2 ⟨e,cE,h2,aZ,IV,⟨rfl,p2,PW,hw2⟩,ha,rfl⟩;cases ha;refine .step (m':=⟨{fn:=fn,tm:=cE,todo:=[.code b],dfs:=[],mode:=.run,FE:=false,uW:=some l,res:=res},fr ::cs,au l (some (.loop .busy p2 fn tm res ps a b d)) h2,aZ⟩) (bx rfl ?_) ?_
  ·simp only[b9,PW,sTCe]
  ·refine(hw2 {fn:=fn,tm:=cE,todo:=[],dfs:=[],mode:=.run,FE:=false,uW:=some l,res:=res} [] (fr ::cs) rfl trivial).bind ?_;rintro m3 ⟨e,Lo,h3,fT,fr3,⟨⟨p3,hl3⟩,q⟩,ha,rfl⟩;cases e with
   |norm=>cases ha;obtain⟨fY,hf⟩:=Pz (.bool true);refine .step (m':=⟨fY,cs,_,fT⟩) (bx rfl ?_) (Fc _ _ fT fY q hf);exact HE (jump:=none) (fr:={fn:=fn,tm:=Lo,todo:=[],dfs:=[],mode:=.run,FE:=false,uW:=some l,res:=res}) rfl hl3 hf
   |ret=>obtain⟨t,rfl⟩:=ha;obtain⟨fY,hf⟩:=Pz (.bool false);refine .step (m':=⟨fY,cs,_,fT⟩) (bx rfl ?_) (Fc _ _ fT fY q hf);exact HE (jump:=some .ret) (fr:={fn:=fn,tm:=Lo,todo:=.code .ret ::t,dfs:=[],mode:=.run,FE:=false,uW:=some l,res:=res}) rfl hl3 hf
   |exit i=>obtain⟨k2,hk,rfl⟩:=ha;obtain⟨fY,hf⟩:=Pz (.bool false);refine .step (m':=⟨fY,cs,_,fT⟩) (bx rfl ?_) (Fc _ _ fT fY q hf);have hk:nK i k2=none:=hk;simp only[b9,hk];exact HE (jump:=some (.exit i)) (fr:={fn:=fn,tm:=Lo,todo:=.code (.exit i) ::k2,dfs:=[],mode:=.run,FE:=false,uW:=some l,res:=res}) rfl hl3 hf
   |pan a=>exact q.elim
theorem WI.atk{l:List ay}{lk:Key}{args:List AV}{o:ay}{rest:List ay}{gh:T AV}{h1:T ai}{bW:Key}{R:Out→T ai→Key→Prop}(hr:lE C.orc l tm h nx=.ev (.yld lk args) (o ::rest) gh h1 bW)
  (hc:B0 C lk args h1 bW R) (Fc:∀v h2 aZ,R (.ret v) h2 aZ→WI C (.ops rest) Q (bT o.dst v gh) h2 aZ):WI C (.ops l) Q tm h nx:=by
 intro af k cs m1 m2;have fy:jj C ⟨{af with tm:=tm,todo:=.ops l ::k},cs,h,nx⟩=jO C (.yld lk args) {af with tm:=gh,todo:=.ops (o ::rest) ::k} {af with tm:=gh,todo:=[]} cs h1 bW:=by refine bx m1 ?_;simp only[b9,hr]
 have hfe:∀v,cT v {af with tm:=gh,todo:=.ops (o ::rest) ::k}=some {af with tm:=bT o.dst v gh,todo:=.ops rest ::k}:=fun v=>by simp only[cT,fF]
 refine ac9 (fr:={af with tm:=gh,todo:=.ops (o ::rest) ::k}) (c:={af with tm:=gh,todo:=[]}) (cs:=cs) hc (fun v=>⟨_,hfe v⟩) fy ?_;intro v h' nx' fY hR hf;rw[hfe]at hf;cases hf;refine(Fc v h' nx' hR {af with tm:=bT o.dst v gh} k cs m1 m2).mono ?_;rintro m ⟨e2,cE,hh2,aZ,IV,q2,a2,t2⟩;refine⟨e2,cE,hh2,aZ,IV,q2,?_,t2⟩;cases e2<;>exact a2
theorem WI.ay4{l:List aH}{d:SD}{pend Cr:List (Nat×Key×ai)}{lk:Key}{args:List AV}{i:Nat}{o:ay}{ad:List Nat}{rest:List aH}{gh:T AV}{h1:T ai}{bW:Key}{R:Out→T ai→Key→Prop}
  (hr:jg C.orc d.ke l pend tm h nx=.ev (.yld lk args) (.H i o ad ::rest) Cr gh h1 bW)
  (hc:B0 C lk args h1 bW R) (Fc:∀v h2 aZ,R (.ret v) h2 aZ→WI C (.staged rest d Cr) Q (bT o.dst v gh) h2 aZ):WI C (.staged l d pend) Q tm h nx:=by
 intro af k cs m1 m2;have fy:jj C ⟨{af with tm:=tm,todo:=.staged l d pend ::k},cs,h,nx⟩=jO C (.yld lk args) {af with tm:=gh,todo:=.staged (.H i o ad ::rest) d Cr ::k} {af with tm:=kP d.ds gh,todo:=[]} cs h1 bW:=by refine bx m1 ?_;simp only[b9,hr,qz]
 have hfe:∀v,cT v {af with tm:=gh,todo:=.staged (.H i o ad ::rest) d Cr ::k}=some {af with tm:=bT o.dst v gh,todo:=.staged rest d Cr ::k}:=fun v=>by simp only[cT,fF]
 refine ac9 (fr:={af with tm:=gh,todo:=.staged (.H i o ad ::rest) d Cr ::k}) (c:={af with tm:=kP d.ds gh,todo:=[]}) (cs:=cs) hc (fun v=>⟨_,hfe v⟩) fy ?_;intro v h' nx' fY hR hf;rw[hfe]at hf;cases hf;refine(Fc v h' nx' hR {af with tm:=bT o.dst v gh} k cs m1 m2).mono ?_;rintro m ⟨e2,cE,hh2,aZ,IV,q2,a2,t2⟩;refine⟨e2,cE,hh2,aZ,IV,q2,?_,t2⟩;cases e2<;>exact a2
end
end Go.Sx
namespace Go.Sx
def K(n:Nat):Key:=bif Nat.blt n 4095 then Key.fX 12 n else Key.fX n n
theorem sj:∀(f n:Nat),n+1<2^(f+1)→(Key.fX f n).toNat=n
 |0,n,h=>by
  have:n=0:=by omega
  subst this;rfl
 |f+1,n,h=>by
  unfold Key.fX;have hp:2^(f+1+1)=2*2^(f+1):=by rw[Nat.pow_succ,Nat.mul_comm]
  cases h0:Nat.beq n 0 with
  |true=>have:=pZ h0;subst this;rfl
  |false=>
   have hn:n≠0:=by intro e;subst e;cases h0
   simp only[cond_false];cases h1:Nat.beq (n%2) 1 with
   |true=>have h1:=pZ h1;simp only[cond_true,Key.toNat,sj f (n / 2) (by omega)];omega
   |false=>
    have h1:n%2≠1:=by intro e;rw[e]at h1;cases h1
    simp only[cond_false,Key.toNat,sj f (n / 2-1) (by omega)];omega
theorem Q0(n:Nat):(K n).toNat=n:=by
 unfold K;cases h:Nat.blt n 4095 with
 |true=>rw[bltN_eq,decide_eq_true_eq]at h;exact sj 12 n (by omega)
 |false=>refine sj n n ?_;have:n+1<2^(n+1):=Nat.lt_two_pow_self;exact this
theorem aDW{i j:Nat}(h:K i=K j):i=j:=by rw[←Q0 i,←Q0 j,h]
theorem ayk(n:Nat):(K n).succ=K (n+1):=Key.toNat_inj (by rw[kTSu,Q0,Q0])
theorem get_set_K{α:Type}(i j:Nat)(v:Option α)(t:T α):ag (K i) (au (K j) v t)=if i=j then v else ag (K i) t:=by
 by_cases h:i=j
 ·subst h;rw[if_pos rfl,gTSm]
 ·rw[if_neg h,aD _ _ _ _ (fun e=>h (aDW e))]
section
variable{orc:jK}{tm:T AV}{h:T ai}{nx:Key}
theorem at_t(k:Key):(PX.t k).at tm=ag k tm:=rfl
theorem at_v(a:AV):(PX.v a).at tm=some a:=rfl
theorem agD:lE orc [] tm h nx=.fin tm h nx:=rfl
theorem putTm_some(k:Key)(v:AV):bT (some k) v tm=au k (some v) tm:=rfl
theorem putTm_none(v:AV):bT none v tm=tm:=rfl
theorem wants_none:cz none tm=some true:=rfl
theorem wants_some(k:Key)(b:Bool):cz (some (k,b)) tm=match ag k tm with
  |some (.bool c)=>some (c==b)
  |some (.tuple [])=>some false
  |_=>none:=rfl
theorem ltI_dec(a b:Int):WJ a b=decide (a<b):=KA a b
theorem aS{n:Int}(h1:-9223372036854775808≤n)(h2:n<9223372036854775808):bG .i64 n=n:=by
 rw[dx];have:IntKind.wrap .i64 n=n:=by
  rw[←dx];simp only[bG,full,half,KA];have h3:Int.emod n 18446744073709551616=n%18446744073709551616:=rfl;rw[h3];by_cases h0:0≤n
  ·rw[show n%18446744073709551616=n by omega];have:decide (n<9223372036854775808)=true:=by simpa using h2
   rw[this];rfl
  ·rw[show n%18446744073709551616=n+18446744073709551616 by omega];have:decide (n+18446744073709551616<9223372036854775808)=false:=by simp;omega
   rw[this];show n+18446744073709551616-18446744073709551616=n;omega
 exact this
end
end Go.Sx
namespace Go.Sx
open Go.RowKit
def wpG(t:Option Bool)(A B:Prop):Prop:=match t with
 |none=>False
 |some t=>(t=true→A)∧(t=false→B)
noncomputable def qg(C:bH)(Q:cJ):List ay→T AV→T ai→Key→Prop
 | [],tm,h,nx=>Q .norm tm h nx
 |o ::l,tm,h,nx=>wpG (cz o.guard tm)
   (match aOp C.orc o.op tm h nx with
   |.val v h nx=>qg C Q l (bT o.dst v tm) h nx
   |.call f args=>aB C f (cq (C.raw f) args h).1 (cq (C.raw f) args h).2 nx (fun out h nx=>match out with
    |.ret v=>qg C Q l (bT o.dst v tm) h nx
    |.pan a=>Q (.pan a) tm h nx)
   |.yld k args=>B0 C k args h nx (fun out h nx=>match out with
    |.ret v=>qg C Q l (bT o.dst v tm) h nx
    |.pan a=>Q (.pan a) tm h nx)
   |.pan a=>Q (.pan a) tm h nx
   |_=>False)
   (qg C Q l (bT o.dst (.tuple []) tm) h nx)
noncomputable def wpS(C:bH)(Q:cJ)(d:SD):List aH→List (Nat×Key×ai)→T AV→T ai→Key→Prop
 | [],pend,tm,h,nx=>Q .norm tm (di pend h) nx
 |.L i o ::l,pend,tm,h,nx=>wpG (cz o.guard tm)
   (match lightOp C.orc o.op tm (yx (ES i d.ke) pend h)with
   |some v=>wpS C Q d l pend (bT o.dst v tm) h nx
   |none=>False)
   (wpS C Q d l pend (bT o.dst (.tuple []) tm) h nx)
 |.A i o ::l,pend,tm,h,nx=>wpG (cz o.guard tm)
   (match allocOp o.op tm with
   |some (v,b)=>wpS C Q d l ((i,nx,b) ::pend) (bT o.dst (v nx) tm) h nx.succ
   |none=>False)
   (wpS C Q d l pend (bT o.dst (.tuple []) tm) h nx)
 |.H i o ad ::l,pend,tm,h,nx=>wpG (cz o.guard tm)
   (match aOp C.orc o.op tm (di (pend.filter fun x=>memN x.1 ad) h) nx with
   |.val v h nx=>wpS C Q d l (pend.filter fun x=>!(memN x.1 ad)) (bT o.dst v tm) h nx
   |.call f args=>aB C f (cq (C.raw f) args (di (pend.filter fun x=>memN x.1 ad) h)).1 (cq (C.raw f) args (di (pend.filter fun x=>memN x.1 ad) h)).2 nx (fun out h nx=>match out with
    |.ret v=>wpS C Q d l (pend.filter fun x=>!(memN x.1 ad)) (bT o.dst v tm) h nx
    |.pan a=>Q (.pan a) (kP d.ds tm) h nx)
   |.yld k args=>B0 C k args (di (pend.filter fun x=>memN x.1 ad) h) nx (fun out h nx=>match out with
    |.ret v=>wpS C Q d l (pend.filter fun x=>!(memN x.1 ad)) (bT o.dst v tm) h nx
    |.pan a=>Q (.pan a) (kP d.ds tm) h nx)
   |.pan a=>Q (.pan a) (kP d.ds tm) (di (pend.filter fun x=>memN x.1 ad) h) nx
   |_=>False)
   (wpS C Q d l (pend.filter fun x=>!(memN x.1 ad)) (bT o.dst (.tuple []) tm) (di (pend.filter fun x=>memN x.1 ad) h) nx)
 |.R os ::l,pend,tm,h,nx=>recheck C.orc d.ke pend tm h os=true∧wpS C Q d l pend tm h nx
def bO(W:T AV→T ai→Key→Prop)(Q:cJ):cJ:=fun e tm h nx=>match e with
 |.norm=>W tm h nx
 |e=>Q e tm h nx
def aP(id:Nat)(Q:cJ):cJ:=fun e tm h nx=>match e with
 |.exit j=>if j=id then Q .norm tm h nx else Q (.exit j) tm h nx
 |e=>Q e tm h nx
noncomputable def mE(C:bH):aK→cJ→T AV→T ai→Key→Prop
 |.skip,Q,tm,h,nx=>Q .norm tm h nx
 |.ops l,Q,tm,h,nx=>qg C Q l tm h nx
 |.staged l d,Q,tm,h,nx=>wpS C Q d l [] tm h nx
 |.both l1 d1 l2 d2,Q,tm,h,nx=>wpS C Q d1 l1 [] tm h nx∧wpS C Q d2 l2 [] tm h nx
 |.seq a b,Q,tm,h,nx=>mE C a (bO (mE C b Q) Q) tm h nx
 |.cond x a b,Q,tm,h,nx=>match x.at tm with
  |some (.bool t)=>(t=true→mE C a Q tm h nx)∧(t=false→mE C b Q tm h nx)
  |_=>False
 |.block id c,Q,tm,h,nx=>mE C c (aP id Q) tm h nx
 |.loop c,Q,tm,h,nx=>W C (.loop c) Q tm h nx
 |.rangeF f ps a b,Q,tm,h,nx=>W C (.rangeF f ps a b) Q tm h nx
 |.exit id,Q,tm,h,nx=>Q (.exit id) tm h nx
 |.ret,Q,tm,h,nx=>Q .ret tm h nx
section
variable{C:bH}{Q:cJ}
theorem WI.same{x y:db}{tm cE:T AV}{h h2:T ai}{nx aZ:Key}(hy:∀i,y≠.code (Lv i))(hs:∀(af:nG) (k:List db) (cs:List nG),af.mode=.run→b9 C {af with tm:=tm,todo:=x ::k} cs h nx=b9 C {af with tm:=cE,todo:=y ::k} cs h2 aZ)
  (hw:WI C y Q cE h2 aZ):WI C x Q tm h nx:=by
 intro af k cs h1 DF;exact Ev.same (by rw[bx (m:=⟨{af with tm:=cE,todo:=y ::k},cs,h2,aZ⟩) h1 rfl,bx (m:=⟨{af with tm:=tm,todo:=x ::k},cs,h,nx⟩) h1 rfl];exact hs af k cs h1)
  (Stop.not hy h1) (hw af k cs h1 DF)
theorem Cs:∀{l:List ay} {tm:T AV} {h:T ai} {nx:Key},qg C Q l tm h nx→WI C (.ops l) Q tm h nx
 | [],tm,h,nx,hw=>WI.atg agD hw
 |o ::l,tm,h,nx,hw=>by
  unfold qg at hw;cases hg:cz o.guard tm with
  |none=>rw[hg]at hw;exact hw.elim
  |some t=>
   rw[hg]at hw;have Jw:∀{cE:T AV} {h2:T ai} {aZ:Key},lE C.orc (o ::l) tm h nx=lE C.orc l cE h2 aZ→qg C Q l cE h2 aZ→WI C (.ops (o ::l)) Q tm h nx:=by intro cE h2 aZ he hw2;refine WI.same (y:=.ops l) (fun i e=>by cases i<;>cases e) ?_ (Cs hw2);intro af k cs _;show(match lE C.orc (o ::l) tm h nx with|.fin tm h nx=>_|.ev r rest tm h nx=>_)=(match lE C.orc l cE h2 aZ with|.fin tm h nx=>_|.ev r rest tm h nx=>_);rw[he]
   cases t with
   |false=>refine Jw ?_ (hw.2 rfl);rw[qK,hg];simp only[fF]
   |true=>
    have hw:=hw.1 rfl;cases ha:aOp C.orc o.op tm h nx with
    |val v h' nx'=>rw[ha]at hw;refine Jw ?_ hw;rw[qK,hg,ha];simp only[fF]
    |call f args=>rw[ha]at hw;refine WI.apx (by rw[qK,hg,ha]) hw (fun v h2 aZ hr=>Cs hr) (fun a h2 aZ hr=>hr)
    |pan a=>rw[ha]at hw;exact WI.ati (by rw[qK,hg,ha]) hw
    |yld k args=>rw[ha]at hw;exact WI.atk (by rw[qK,hg,ha]) hw (fun v h2 aZ hr=>Cs hr)
    |dfr f args=>rw[ha]at hw;exact hw.elim
    |recover=>rw[ha]at hw;exact hw.elim
    |bad n=>rw[ha]at hw;exact hw.elim
theorem uo{d:SD}:∀{l:List aH} {pend:List (Nat×Key×ai)} {tm:T AV} {h:T ai} {nx:Key},wpS C Q d l pend tm h nx→WI C (.staged l d pend) Q tm h nx
 | [],pend,tm,h,nx,hw=>WI.ay3 (by show FU pend h (fun h=>RS.fin tm h nx)=_;rw[HG]) hw
 |x ::l,pend,tm,h,nx,hw=>by
  have Jw:∀{pend2:List (Nat×Key×ai)} {cE:T AV} {h2:T ai} {aZ:Key},jg C.orc d.ke (x ::l) pend tm h nx=jg C.orc d.ke l pend2 cE h2 aZ→wpS C Q d l pend2 cE h2 aZ→WI C (.staged (x ::l) d pend) Q tm h nx:=by intro pend2 cE h2 aZ he hw2;refine WI.same (y:=.staged l d pend2) (fun i e=>by cases i<;>cases e) ?_ (uo hw2);intro af k cs _;show(match jg C.orc d.ke (x ::l) pend tm h nx with|.fin tm h nx=>_|.ev r rest pend tm h nx=>_)=(match jg C.orc d.ke l pend2 cE h2 aZ with|.fin tm h nx=>_|.ev r rest pend tm h nx=>_);rw[he]
  cases x with
  |L i o=>
   unfold wpS at hw;cases hg:cz o.guard tm with
   |none=>rw[hg]at hw;exact hw.elim
   |some t=>
    rw[hg]at hw;cases t with
    |false=>refine Jw ?_ (hw.2 rfl);rw[Zs,hg];simp only[fF]
    |true=>
     have hw:=hw.1 rfl;cases hl:lightOp C.orc o.op tm (yx (ES i d.ke) pend h)with
     |none=>rw[hl]at hw;exact hw.elim
     |some v=>rw[hl]at hw;refine Jw ?_ hw;rw[Zs,hg,hl];simp only[fF]
  |A i o=>
   unfold wpS at hw;cases hg:cz o.guard tm with
   |none=>rw[hg]at hw;exact hw.elim
   |some t=>
    rw[hg]at hw;cases t with
    |false=>refine Jw ?_ (hw.2 rfl);rw[Zt,hg];simp only[fF]
    |true=>
     have hw:=hw.1 rfl;cases hl:allocOp o.op tm with
     |none=>rw[hl]at hw;exact hw.elim
     |some vb=>obtain⟨v,b⟩:=vb;rw[hl]at hw;refine Jw ?_ hw;rw[Zt,hg,hl];simp only[fF]
  |H i o ad=>
   unfold wpS at hw;cases hg:cz o.guard tm with
   |none=>rw[hg]at hw;exact hw.elim
   |some t=>
    rw[hg]at hw;cases t with
    |false=>refine Jw ?_ (hw.2 rfl);rw[Zu,yY,hg];simp only[fF]
    |true=>
     have hw:=hw.1 rfl;have gD:jg C.orc d.ke (.H i o ad ::l) pend tm h nx=(match aOp C.orc o.op tm (di (pend.filter fun x=>memN x.1 ad) h) nx with
       |.val v h nx=>yw o.dst (some v) tm fun tm=>jg C.orc d.ke l (pend.filter fun x=>!(memN x.1 ad)) tm h nx
       |r=>.ev r (.H i o ad ::l) (pend.filter fun x=>!(memN x.1 ad)) tm (di (pend.filter fun x=>memN x.1 ad) h) nx):=by
      rw[Zu,yY,hg];rfl
     cases ha:aOp C.orc o.op tm (di (pend.filter fun x=>memN x.1 ad) h) nx with
     |val v h' nx'=>rw[ha]at hw gD;refine Jw ?_ hw;rw[gD];simp only[fF]
     |call f args=>rw[ha]at hw gD;exact WI.ath gD hw (fun v h2 aZ hr=>uo hr) (fun a h2 aZ hr=>hr)
     |pan a=>rw[ha]at hw gD;intro af k cs m1 m2;refine .step (m':=⟨{af with tm:=kP d.ds tm,todo:=[],mode:=.pan a false},cs,_,nx⟩) (bx m1 ?_) (.now ⟨.pan a,kP d.ds tm,_,nx,_,hw,rfl,rfl⟩);simp only[b9,gD,qz,jO]
     |yld k args=>rw[ha]at hw gD;exact WI.ay4 gD hw (fun v h2 aZ hr=>uo hr)
     |dfr f args=>rw[ha]at hw;exact hw.elim
     |recover=>rw[ha]at hw;exact hw.elim
     |bad n=>rw[ha]at hw;exact hw.elim
  |R os=>unfold wpS at hw;refine Jw ?_ hw.2;rw[YH,hw.1];rfl
theorem nV:∀{c:aK} {Q:cJ} {tm:T AV} {h:T ai} {nx:Key},mE C c Q tm h nx→W C c Q tm h nx
 |.skip,Q,tm,h,nx,hw=>W.skip hw
 |.ops l,Q,tm,h,nx,hw=>W.ops (Cs hw)
 |.staged l d,Q,tm,h,nx,hw=>W.staged (uo hw)
 |.both l1 d1 l2 d2,Q,tm,h,nx,hw=>W.both (uo hw.1) (uo hw.2)
 |.seq a b,Q,tm,h,nx,hw=>by
  have hw:mE C a (bO (mE C b Q) Q) tm h nx:=hw;refine W.seq ((nV hw).mono fun e tm h nx hq=>?_);cases e with
  |norm=>exact nV hq
  |_=>exact hq
 |.cond x a b,Q,tm,h,nx,hw=>by
  unfold mE at hw;split at hw
  ·rename_i t hx;refine W.cond hx ?_;cases t with
   |true=>exact nV (hw.1 rfl)
   |false=>exact nV (hw.2 rfl)
  ·exact hw.elim
 |.block id c,Q,tm,h,nx,hw=>by
  have hw:mE C c (aP id Q) tm h nx:=hw;refine W.block ((nV hw).mono fun e tm h nx hq=>?_);cases e with
  |exit j=>exact hq
  |_=>exact hq
 |.loop c,Q,tm,h,nx,hw=>hw
 |.rangeF f ps a b,Q,tm,h,nx,hw=>hw
 |.exit id,Q,tm,h,nx,hw=>W.exit hw
 |.ret,Q,tm,h,nx,hw=>W.ret hw
theorem aB.of_wp{f:Nat}{p:fN}{l:List AV}{h:T ai}{nx:Key}{R:Out→T ai→Key→Prop}(hs:C.sum f l h nx=none)(hp:GX C f=some p)(hw:mE C p.body (Ch C f p.res R) (iG l .z .nil) h nx):aB C f l h nx R:=
 aB.ac6 hs hp (nV hw)
end
end Go.Sx
namespace Go.Sx
noncomputable def A(b:Key):Nat→Key
 |0=>b
 |i+1=>(A b i).succ
theorem ahN(b:Key):∀i,(A b i).toNat=b.toNat+i
 |0=>rfl
 |i+1=>by simp only[A,kTSu,ahN b i];omega
@[simp] theorem aKV(b:Key)(i:Nat):(A b i).succ=A b (i+1):=rfl
@[simp] theorem aAa{α:Type}(b:Key)(i j:Nat)(v:Option α)(t:T α):ag (A b i) (au (A b j) v t)=if i=j then v else ag (A b i) t:=by
 by_cases h:i=j
 ·subst h;rw[if_pos rfl,gTSm]
 ·rw[if_neg h,aD];intro e;have:=congrArg Key.toNat e;simp only[ahN]at this;omega
theorem abt{α:Type}{b:Key}{c:Key}(v:Option α)(t:T α)(h:b.toNat<c.toNat):ag b (au c v t)=ag b t:=
 aD _ _ _ _ (fun e=>by rw[e]at h;exact absurd h (Nat.lt_irrefl _))
attribute [simp] get_set_K at_t at_v putTm_some putTm_none wants_none wants_some okV sTCe
@[simp] theorem C6(W:T AV→T ai→Key→Prop)(Q:cJ)(tm:T AV)(h:T ai)(nx:Key):bO W Q .norm tm h nx=W tm h nx:=propext Iff.rfl
@[simp] theorem auZ(W:T AV→T ai→Key→Prop)(Q:cJ)(tm:T AV)(h:T ai)(nx:Key):bO W Q .ret tm h nx=Q .ret tm h nx:=propext Iff.rfl
@[simp] theorem ar7(W:T AV→T ai→Key→Prop)(Q:cJ)(i:Nat)(tm:T AV)(h:T ai)(nx:Key):bO W Q (.exit i) tm h nx=Q (.exit i) tm h nx:=propext Iff.rfl
@[simp] theorem au0(W:T AV→T ai→Key→Prop)(Q:cJ)(a:AV)(tm:T AV)(h:T ai)(nx:Key):bO W Q (.pan a) tm h nx=Q (.pan a) tm h nx:=propext Iff.rfl
@[simp] theorem anL(j:Nat)(Q:cJ)(tm:T AV)(h:T ai)(nx:Key):aP j Q .norm tm h nx=Q .norm tm h nx:=propext Iff.rfl
@[simp] theorem aqj(j:Nat)(Q:cJ)(tm:T AV)(h:T ai)(nx:Key):aP j Q .ret tm h nx=Q .ret tm h nx:=propext Iff.rfl
@[simp] theorem anM(j:Nat)(Q:cJ)(i:Nat)(tm:T AV)(h:T ai)(nx:Key):aP j Q (.exit i) tm h nx=if i=j then Q .norm tm h nx else Q (.exit i) tm h nx:=propext Iff.rfl
@[simp] theorem aqk(j:Nat)(Q:cJ)(a:AV)(tm:T AV)(h:T ai)(nx:Key):aP j Q (.pan a) tm h nx=Q (.pan a) tm h nx:=propext Iff.rfl
theorem xU{p q:Prop}(h:p↔q):p=q:=propext h
section
variable(C:bH)(Q:cJ)(tm:T AV)(h:T ai)(nx:Key)(d:SD)(pend:List (Nat×Key×ai))
@[simp] theorem abu(t:Bool)(A B:Prop):wpG (some t) A B=((t=true→A)∧(t=false→B)):=xU Iff.rfl
@[simp] theorem aCB(A B:Prop):wpG none A B=False:=xU Iff.rfl
@[simp] theorem aCC:mE C .skip Q tm h nx=Q .norm tm h nx:=xU Iff.rfl
@[simp] theorem lX(l:List ay):mE C (.ops l) Q tm h nx=qg C Q l tm h nx:=xU Iff.rfl
@[simp] theorem tP(l:List aH)(d:SD):mE C (.staged l d) Q tm h nx=wpS C Q d l [] tm h nx:=xU Iff.rfl
@[simp] theorem aCD(l1 l2:List aH)(d1 d2:SD):mE C (.both l1 d1 l2 d2) Q tm h nx=(wpS C Q d1 l1 [] tm h nx∧wpS C Q d2 l2 [] tm h nx):=xU Iff.rfl
@[simp] theorem ji(a b:aK):mE C (.seq a b) Q tm h nx=mE C a (bO (mE C b Q) Q) tm h nx:=xU Iff.rfl
@[simp] theorem La(x:PX)(a b:aK):mE C (.cond x a b) Q tm h nx=(match x.at tm with
  |some (.bool t)=>(t=true→mE C a Q tm h nx)∧(t=false→mE C b Q tm h nx)
  |_=>False):=xU Iff.rfl
@[simp] theorem qA(id:Nat)(c:aK):mE C (.block id c) Q tm h nx=mE C c (aP id Q) tm h nx:=xU Iff.rfl
@[simp] theorem aCE(c:aK):mE C (.loop c) Q tm h nx=W C (.loop c) Q tm h nx:=xU Iff.rfl
@[simp] theorem aCF(id:Nat):mE C (.exit id) Q tm h nx=Q (.exit id) tm h nx:=xU Iff.rfl
@[simp] theorem ar8:mE C .ret Q tm h nx=Q .ret tm h nx:=xU Iff.rfl
@[simp] theorem arj:qg C Q [] tm h nx=Q .norm tm h nx:=xU Iff.rfl
def KO(o:ay)(l:List ay):Out→T ai→Key→Prop:=fun out h nx=>match out with
 |.ret v=>qg C Q l (bT o.dst v tm) h nx
 |.pan a=>Q (.pan a) tm h nx
def KS(o:ay)(l:List aH):Out→T ai→Key→Prop:=fun out h nx=>match out with
 |.ret v=>wpS C Q d l pend (bT o.dst v tm) h nx
 |.pan a=>Q (.pan a) (kP d.ds tm) h nx
@[simp] theorem aKW(o:ay)(l:List ay)(v:AV):KO C Q tm o l (.ret v) h nx=qg C Q l (bT o.dst v tm) h nx:=xU Iff.rfl
@[simp] theorem aKX(o:ay)(l:List ay)(a:AV):KO C Q tm o l (.pan a) h nx=Q (.pan a) tm h nx:=xU Iff.rfl
@[simp] theorem aKY(o:ay)(l:List aH)(v:AV):KS C Q tm d pend o l (.ret v) h nx=wpS C Q d l pend (bT o.dst v tm) h nx:=xU Iff.rfl
@[simp] theorem aKZ(o:ay)(l:List aH)(a:AV):KS C Q tm d pend o l (.pan a) h nx=Q (.pan a) (kP d.ds tm) h nx:=xU Iff.rfl
def Vv(o:ay)(l:List ay)(t:Option Bool):Prop:=wpG t
   (match aOp C.orc o.op tm h nx with
   |.val v h nx=>qg C Q l (bT o.dst v tm) h nx
   |.call f args=>aB C f (cq (C.raw f) args h).1 (cq (C.raw f) args h).2 nx (KO C Q tm o l)
   |.yld k args=>B0 C k args h nx (KO C Q tm o l)
   |.pan a=>Q (.pan a) tm h nx
   |_=>False)
   (qg C Q l (bT o.dst (.tuple []) tm) h nx)
@[simp] theorem aaB(o:ay)(l:List ay):qg C Q (o ::l) tm h nx=Vv C Q tm h nx o l (cz o.guard tm):=xU (by rw[qg];exact Iff.rfl)
@[simp] theorem WR(o:ay)(l:List ay):Vv C Q tm h nx o l (some true)=(match aOp C.orc o.op tm h nx with
   |.val v h nx=>qg C Q l (bT o.dst v tm) h nx
   |.call f args=>aB C f (cq (C.raw f) args h).1 (cq (C.raw f) args h).2 nx (KO C Q tm o l)
   |.yld k args=>B0 C k args h nx (KO C Q tm o l)
   |.pan a=>Q (.pan a) tm h nx
   |_=>False):=by simp[Vv]
@[simp] theorem axV(o:ay)(l:List ay):Vv C Q tm h nx o l (some false)=qg C Q l (bT o.dst (.tuple []) tm) h nx:=by simp[Vv]
@[simp] theorem aAb(o:ay)(l:List ay):Vv C Q tm h nx o l none=False:=by simp[Vv]
@[simp low] theorem aCG(o:ay)(l:List ay)(t:Bool):Vv C Q tm h nx o l (some t)=((t=true→Vv C Q tm h nx o l (some true))∧(t=false→Vv C Q tm h nx o l (some false))):=by cases t<;>simp
@[simp] theorem aFj:wpS C Q d [] pend tm h nx=Q .norm tm (di pend h) nx:=xU Iff.rfl
def Vw(i:Nat)(o:ay)(l:List aH)(t:Option Bool):Prop:=wpG t
   (match lightOp C.orc o.op tm (yx (ES i d.ke) pend h)with
   |some v=>wpS C Q d l pend (bT o.dst v tm) h nx
   |none=>False)
   (wpS C Q d l pend (bT o.dst (.tuple []) tm) h nx)
@[simp] theorem aP9(i:Nat)(o:ay)(l:List aH):wpS C Q d (.L i o ::l) pend tm h nx=Vw C Q tm h nx d pend i o l (cz o.guard tm):=xU (by rw[wpS];exact Iff.rfl)
@[simp] theorem aAc(i:Nat)(o:ay)(l:List aH):Vw C Q tm h nx d pend i o l (some true)=(match lightOp C.orc o.op tm (yx (ES i d.ke) pend h)with
   |some v=>wpS C Q d l pend (bT o.dst v tm) h nx
   |none=>False):=by simp[Vw]
@[simp] theorem axW(i:Nat)(o:ay)(l:List aH):Vw C Q tm h nx d pend i o l (some false)=wpS C Q d l pend (bT o.dst (.tuple []) tm) h nx:=by simp[Vw]
@[simp] theorem aAd(i:Nat)(o:ay)(l:List aH):Vw C Q tm h nx d pend i o l none=False:=by simp[Vw]
@[simp low] theorem aCH(i:Nat)(o:ay)(l:List aH)(t:Bool):Vw C Q tm h nx d pend i o l (some t)=((t=true→Vw C Q tm h nx d pend i o l (some true))∧(t=false→Vw C Q tm h nx d pend i o l (some false))):=by cases t<;>simp
def Vx(i:Nat)(o:ay)(l:List aH)(t:Option Bool):Prop:=wpG t
   (match allocOp o.op tm with
   |some (v,b)=>wpS C Q d l ((i,nx,b) ::pend) (bT o.dst (v nx) tm) h nx.succ
   |none=>False)
   (wpS C Q d l pend (bT o.dst (.tuple []) tm) h nx)
@[simp] theorem aQa(i:Nat)(o:ay)(l:List aH):wpS C Q d (.A i o ::l) pend tm h nx=Vx C Q tm h nx d pend i o l (cz o.guard tm):=xU (by rw[wpS];exact Iff.rfl)
@[simp] theorem aAe(i:Nat)(o:ay)(l:List aH):Vx C Q tm h nx d pend i o l (some true)=(match allocOp o.op tm with
   |some (v,b)=>wpS C Q d l ((i,nx,b) ::pend) (bT o.dst (v nx) tm) h nx.succ
   |none=>False):=by simp[Vx]
@[simp] theorem axX(i:Nat)(o:ay)(l:List aH):Vx C Q tm h nx d pend i o l (some false)=wpS C Q d l pend (bT o.dst (.tuple []) tm) h nx:=by simp[Vx]
@[simp] theorem aAf(i:Nat)(o:ay)(l:List aH):Vx C Q tm h nx d pend i o l none=False:=by simp[Vx]
@[simp low] theorem aCI(i:Nat)(o:ay)(l:List aH)(t:Bool):Vx C Q tm h nx d pend i o l (some t)=((t=true→Vx C Q tm h nx d pend i o l (some true))∧(t=false→Vx C Q tm h nx d pend i o l (some false))):=by cases t<;>simp
def Vy(o:ay)(ad:List Nat)(l:List aH)(t:Option Bool):Prop:=wpG t
   (match aOp C.orc o.op tm (di (pend.filter fun x=>memN x.1 ad) h) nx with
   |.val v h nx=>wpS C Q d l (pend.filter fun x=>!(memN x.1 ad)) (bT o.dst v tm) h nx
   |.call f args=>aB C f (cq (C.raw f) args (di (pend.filter fun x=>memN x.1 ad) h)).1 (cq (C.raw f) args (di (pend.filter fun x=>memN x.1 ad) h)).2 nx (KS C Q tm d (pend.filter fun x=>!(memN x.1 ad)) o l)
   |.yld k args=>B0 C k args (di (pend.filter fun x=>memN x.1 ad) h) nx (KS C Q tm d (pend.filter fun x=>!(memN x.1 ad)) o l)
   |.pan a=>Q (.pan a) (kP d.ds tm) (di (pend.filter fun x=>memN x.1 ad) h) nx
   |_=>False)
   (wpS C Q d l (pend.filter fun x=>!(memN x.1 ad)) (bT o.dst (.tuple []) tm) (di (pend.filter fun x=>memN x.1 ad) h) nx)
@[simp] theorem aQb(i:Nat)(o:ay)(ad:List Nat)(l:List aH):wpS C Q d (.H i o ad ::l) pend tm h nx=Vy C Q tm h nx d pend o ad l (cz o.guard tm):=xU (by rw[wpS];exact Iff.rfl)
@[simp] theorem aAg(o:ay)(ad:List Nat)(l:List aH):Vy C Q tm h nx d pend o ad l (some true)=(match aOp C.orc o.op tm (di (pend.filter fun x=>memN x.1 ad) h) nx with
   |.val v h nx=>wpS C Q d l (pend.filter fun x=>!(memN x.1 ad)) (bT o.dst v tm) h nx
   |.call f args=>aB C f (cq (C.raw f) args (di (pend.filter fun x=>memN x.1 ad) h)).1 (cq (C.raw f) args (di (pend.filter fun x=>memN x.1 ad) h)).2 nx (KS C Q tm d (pend.filter fun x=>!(memN x.1 ad)) o l)
   |.yld k args=>B0 C k args (di (pend.filter fun x=>memN x.1 ad) h) nx (KS C Q tm d (pend.filter fun x=>!(memN x.1 ad)) o l)
   |.pan a=>Q (.pan a) (kP d.ds tm) (di (pend.filter fun x=>memN x.1 ad) h) nx
   |_=>False):=by unfold Vy;simp only[abu,true_implies,Bool.true_eq_false,false_implies,and_true]
@[simp] theorem axY(o:ay)(ad:List Nat)(l:List aH):Vy C Q tm h nx d pend o ad l (some false)=wpS C Q d l (pend.filter fun x=>!(memN x.1 ad)) (bT o.dst (.tuple []) tm) (di (pend.filter fun x=>memN x.1 ad) h) nx:=by unfold Vy;simp only[abu,true_implies,WA,false_implies,true_and]
@[simp] theorem aAh(o:ay)(ad:List Nat)(l:List aH):Vy C Q tm h nx d pend o ad l none=False:=by simp[Vy]
@[simp low] theorem aCJ(o:ay)(ad:List Nat)(l:List aH)(t:Bool):Vy C Q tm h nx d pend o ad l (some t)=((t=true→Vy C Q tm h nx d pend o ad l (some true))∧(t=false→Vy C Q tm h nx d pend o ad l (some false))):=by cases t<;>simp only[true_implies,Bool.true_eq_false,WA,false_implies,and_true,true_and]
@[simp] theorem aQc(os:List (Nat×ay))(l:List aH):wpS C Q d (.R os ::l) pend tm h nx=(recheck C.orc d.ke pend tm h os=true∧wpS C Q d l pend tm h nx):=xU (by rw[wpS])
@[simp] theorem axZ:di [] h=h:=rfl
@[simp] theorem au1(x:Nat×Key×ai)(p:List (Nat×Key×ai)):di (x ::p) h=di p (au x.2.1 (some x.2.2) h):=rfl
@[simp] theorem au2(orc:jK)(ke:List (Nat×List Nat)):recheck orc ke pend tm h []=true:=rfl
@[simp] theorem ar9(orc:jK)(ke:List (Nat×List Nat))(i:Nat)(o:ay)(l:List (Nat×ay)):recheck orc ke pend tm h ((i,o) ::l)=(match cz o.guard tm with
  |some false=>match o.dst with
   |none=>false
   |some d=>match ag d tm with
    |some (.tuple [])=>recheck orc ke pend tm h l
    |_=>false
  |some true=>match o.dst with
   |none=>false
   |some d=>match ag d tm,lightOp orc o.op tm (yx (ES i ke) pend h)with
    |some v,some u=>bif AV.beq v u then recheck orc ke pend tm h l else false
    |_,_=>false
  |none=>false):=rfl
end
attribute [simp] memN
def gC(res:List RV)(R:Out→T ai→Key→Prop):cJ:=fun e tm h nx=>match e with
 |.norm|.ret=>∃l,resultsA h tm res=some l∧R (.ret (o5 (aY (aO 9999) l h).1)) (aY (aO 9999) l h).2 nx
 |.pan a=>R (.pan a) h nx
 |.exit _=>False
theorem aB.of{C:bH}{f:Nat}{p:fN}{l:List AV}{h:T ai}{nx:Key}{R:Out→T ai→Key→Prop}(hs:C.sum f l h nx=none)(hp:GX C f=some p)(hr:C.mT f=false)(hw:mE C p.body (gC p.res R) (iG l (K 0) .nil) h nx):aB C f l h nx R:=by
 refine aB.of_wp hs hp ?_;have e:Ch C f p.res R=gC p.res R:=by funext e tm h nx;cases e<;>simp only[Ch,gC,hr]<;>rfl
 rw[e];exact hw
section
variable(res:List RV)(R:Out→T ai→Key→Prop)(tm:T AV)(h:T ai)(nx:Key)
@[simp] theorem aAi:gC res R .ret tm h nx=∃l,resultsA h tm res=some l∧R (.ret (o5 (aY (aO 9999) l h).1)) (aY (aO 9999) l h).2 nx:=xU Iff.rfl
@[simp] theorem ax0:gC res R .norm tm h nx=∃l,resultsA h tm res=some l∧R (.ret (o5 (aY (aO 9999) l h).1)) (aY (aO 9999) l h).2 nx:=xU Iff.rfl
@[simp] theorem aAj(a:AV):gC res R (.pan a) tm h nx=R (.pan a) h nx:=xU Iff.rfl
end
attribute [simp] aOp lightOp allocOp newB atAll loadB isCmp beqKind arith
attribute [simp] nth_eq dropL_eq takeC_eq putC_eq appC_eq lenL_eq beqN_eq bltN_eq ltI_dec eqI_eq
@[simp] theorem aFk(a b:Nat):Nat.ble a b=decide (a≤b):=by rw[Bool.eq_iff_iff];simp
@[simp] theorem aFl(a b:Int):Int.add a b=a+b:=rfl
@[simp] theorem aFm(a b:Int):Int.sub a b=a-b:=rfl
@[simp] theorem aFn(a b:Int):Int.mul a b=a*b:=rfl
@[simp] theorem aAk(k:IntKind)(m:Nat):rj (.int k (.lit (m:Int)))=some m:=rfl
@[simp] theorem ax1(k:IntKind):rj (.int k (.lit 0))=some 0:=rfl
@[simp] theorem aAl(k:IntKind):rj (.int k (.lit 1))=some 1:=rfl
@[simp] theorem aAm(k:IntKind)(n:Nat):rj (.int k (.lit (OfNat.ofNat (n+2):Int)))=some (n+2):=rfl
@[simp] theorem ax2(tm:T AV)(d:Nat):nJ tm d none=some d:=rfl
@[simp] theorem ax3(tm:T AV)(d:Nat)(x:PX):nJ tm d (some x)=match x.at tm with|none=>none|some v=>rj v:=rfl
@[simp] theorem aFo(orc:jK)(op:BinOp)(x y:Int):Is orc op (.lit x) (.lit y)=(match op with
  |.eql=>some (x==y)
  |.neq=>some (!(x==y))
  |.lss=>some (decide (x<y))
  |.leq=>some (!(decide (y<x)))
  |.gtr=>some (decide (y<x))
  |.geq=>some (!(decide (x<y)))
  |_=>none):=by
 cases op<;>simp[Is]
@[simp] theorem aCK(tm:T AV)(cs:List AV):Lj tm [] cs=some cs:=rfl
@[simp] theorem aAn(tm:T AV)(off size:Nat)(x:PX)(r:List (Nat×Nat×PX))(cs:List AV):Lj tm ((off,size,x) ::r) cs =
  (match x.at tm with
  |none=>none
  |some v=>bif Nat.beq (lenL v.cells) size then aaw v.cells off cs none (fun cs=>Lj tm r cs)else none):=rfl
@[simp] theorem aAo(off n:Nat)(l:List AV):yl true off n l=if n≤(l.drop off).length then some (.agg ((l.drop off).take n))else none:=by simp[yl]
@[simp] theorem ax4(off n:Nat)(l:List AV):yl false off n l=l[off]?:=by simp[yl]
@[simp] theorem au3(b:Bool):AV.aQ (.bool b)=true:=rfl
@[simp] theorem ax5(b:Bool):AV.cells (.bool b)=[.bool b]:=rfl
@[simp] theorem ax6(k:IntKind)(n:SI):AV.aQ (.int k n)=true:=rfl
@[simp] theorem aAp(k:IntKind)(n:SI):AV.cells (.int k n)=[.int k n]:=rfl
@[simp] theorem ax7(n c:Nat):AV.aQ (.str n c)=true:=rfl
@[simp] theorem aAq(n c:Nat):AV.cells (.str n c)=[.str n c]:=rfl
@[simp] theorem ax8(b:Key)(off:Nat):AV.aQ (.ptr b off)=true:=rfl
@[simp] theorem aAr(b:Key)(off:Nat):AV.cells (.ptr b off)=[.ptr b off]:=rfl
@[simp] theorem au4:AV.aQ (.nilp)=true:=rfl
@[simp] theorem ax9:AV.cells (.nilp)=[.nilp]:=rfl
@[simp] theorem asa(b:Key)(off len sz:Nat):AV.aQ (.slice b off len sz)=true:=rfl
@[simp] theorem au5(b:Key)(off len sz:Nat):AV.cells (.slice b off len sz)=[.slice b off len sz]:=rfl
@[simp] theorem au6:AV.aQ (.nils)=true:=rfl
@[simp] theorem aya:AV.cells (.nils)=[.nils]:=rfl
@[simp] theorem ayb(b:Key):AV.aQ (.map b)=true:=rfl
@[simp] theorem aAs(b:Key):AV.cells (.map b)=[.map b]:=rfl
@[simp] theorem au7:AV.aQ (.nilm)=true:=rfl
@[simp] theorem ayc:AV.cells (.nilm)=[.nilm]:=rfl
@[simp] theorem aAt(f:Nat)(first cap:List AV):AV.aQ (.fn f first cap)=true:=rfl
@[simp] theorem aCL(f:Nat)(first cap:List AV):AV.cells (.fn f first cap)=[.fn f first cap]:=rfl
@[simp] theorem au8:AV.aQ (.nilf)=true:=rfl
@[simp] theorem ayd:AV.cells (.nilf)=[.nilf]:=rfl
@[simp] theorem asb(t:Nat)(v:AV):AV.aQ (.iface t v)=true:=rfl
@[simp] theorem au9(t:Nat)(v:AV):AV.cells (.iface t v)=[.iface t v]:=rfl
@[simp] theorem ava:AV.aQ (.nili)=true:=rfl
@[simp] theorem aye:AV.cells (.nili)=[.nili]:=rfl
@[simp] theorem aAu(l:List AV)(len sz:Nat)(fl:SF):AV.aQ (.sl l len sz fl)=true:=rfl
@[simp] theorem aCM(l:List AV)(len sz:Nat)(fl:SF):AV.cells (.sl l len sz fl)=[.sl l len sz fl]:=rfl
@[simp] theorem avb(l:List AV):AV.aQ (.cref l)=true:=rfl
@[simp] theorem ayf(l:List AV):AV.cells (.cref l)=[.cref l]:=rfl
@[simp] theorem ayg(l:List AV):AV.aQ (.agg l)=false:=rfl
@[simp] theorem aAv(l:List AV):AV.cells (.agg l)=l:=rfl
@[simp] theorem asc(l:List AV)(h:T ai):cq false l h=aY (aO 9999) l h:=rfl
@[simp] theorem avc(l:List AV)(h:T ai):cq true l h=(l,h):=rfl
@[simp] theorem aAw(g:AV→T ai→AV×T ai)(h:T ai):aY g [] h=([],h):=rfl
@[simp] theorem ayh(g:AV→T ai→AV×T ai)(v:AV)(l:List AV)(h:T ai):aY g (v ::l) h=((g v h).1 ::(aY g l (g v h).2).1,(aY g l (g v h).2).2):=rfl
section
variable(n:Nat)(h:T ai)
@[simp] theorem aCN(k:IntKind)(i:SI):aO n (.int k i) h=(.int k i,h):=by cases n<;>rfl
@[simp] theorem aAx(b:Bool):aO n (.bool b) h=(.bool b,h):=by cases n<;>rfl
@[simp] theorem aCO(a b:Nat):aO n (.str a b) h=(.str a b,h):=by cases n<;>rfl
@[simp] theorem aCP(b:Key)(o:Nat):aO n (.ptr b o) h=(.ptr b o,h):=by cases n<;>rfl
@[simp] theorem aAy:aO n .nilp h=(.nilp,h):=by cases n<;>rfl
@[simp] theorem aAz:aO n .nils h=(.nils,h):=by cases n<;>rfl
@[simp] theorem aCQ(b:Key):aO n (.map b) h=(.map b,h):=by cases n<;>rfl
@[simp] theorem aAA:aO n .nilm h=(.nilm,h):=by cases n<;>rfl
@[simp] theorem asd(f:Nat)(a c:List AV):aO n (.fn f a c) h=(.fn f a c,h):=by cases n<;>rfl
@[simp] theorem aAB:aO n .nilf h=(.nilf,h):=by cases n<;>rfl
@[simp] theorem ayi(t:Nat)(v:AV):aO n (.iface t v) h=(.iface t v,h):=by cases n<;>rfl
@[simp] theorem aAC:aO n .nili h=(.nili,h):=by cases n<;>rfl
@[simp] theorem aAD(l:List AV):aO n (.cref l) h=(.cref l,h):=by cases n<;>rfl
@[simp] theorem ayj(l:List AV):aO n (.tuple l) h=(.tuple l,h):=by cases n<;>rfl
@[simp] theorem aFp(l:List AV)(m z:Nat)(f:SF):aO (n+1) (.sl l m z f) h=(.sl l m z .any,h):=rfl
@[simp] theorem aCR(l:List AV)(m z:Nat)(f:SF):aO 9999 (.sl l m z f) h=(.sl l m z .any,h):=rfl
@[simp] theorem aCS(l:List AV)(m z:Nat)(f:SF):aO 9998 (.sl l m z f) h=(.sl l m z .any,h):=rfl
@[simp] theorem ajC(l:List AV):aO 9999 (.agg l) h=(.agg (aY (aO 9998) l h).1,(aY (aO 9998) l h).2):=rfl
end
@[simp] theorem avd(k:Key)(tm:T AV):iG [] k tm=tm:=rfl
@[simp] theorem ase(v:AV)(l:List AV)(i:Nat)(tm:T AV):iG (v ::l) (K i) tm=iG l (K (i+1)) (au (K i) (some v) tm):=by simp only[iG,ayk]
@[simp] theorem ayl(v:AV):o5 [v]=v:=rfl
@[simp] theorem aym(v u:AV)(l:List AV):o5 (v ::u ::l)=.tuple (v ::u ::l):=rfl
attribute [simp] resultsA
@[simp] theorem AV.all_nil:([]:List AV).all AV.aQ=true:=rfl
attribute [simp] gTSm setK findK keyEq kTSu
theorem aw{α:Type}{b c:Key}{v:Option α}{t:T α}(h:b.toNat<c.toNat):ag b (au c v t)=ag b t:=abt v t h
@[simp] theorem set_set{α:Type}(k:Key)(v u:Option α):∀(t:T α),au k v (au k u t)=au k v t:=by
 induction k with
 |z=>intro t;cases t<;>rfl
 |o k ih=>intro t;cases t<;>simp only[T.anN,T.NP,ih]
 |e k ih=>intro t;cases t<;>simp only[T.anO,T.NQ,ih]
structure Ext(h:T ai)(nx:Key)(h':T ai)(nx':Key):Prop where
 n:nx.toNat≤nx'.toNat
 g:∀b:Key,b.toNat<nx.toNat→ag b h'=ag b h
theorem Ext.refl(h:T ai)(nx:Key):Ext h nx h nx:=⟨gi _,fun _ _=>rfl⟩
theorem Ext.trans{h1 h2 h3:T ai}{n1 n2 n3:Key}(a:Ext h1 n1 h2 n2)(b:Ext h2 n2 h3 n3):Ext h1 n1 h3 n3:=
 ⟨Nat.le_trans a.n b.n,fun k hk=>(b.g k (Ou hk a.n)).trans (a.g k hk)⟩
@[simp] theorem ayn(a b:Bool):AV.beq (.bool a) (.bool b)=(a==b):=rfl
@[simp] theorem aFq(orc:jK)(a b:Bool):kq orc .bool (.bool a) (.bool b)=some (a==b):=by simp[kq]
@[simp] theorem eq_int(orc:jK)(k:IntKind)(a b:SI):kq orc .int (.int k a) (.int k b)=Is orc .eql a b:=by cases k<;>simp[kq]
@[simp] theorem aCT(orc:jK)(l:List (Nat×MV))(a b:List AV):kq orc (.parts l) (.agg a) (.agg b)=c9 orc l a b:=by simp[kq]
@[simp] theorem ave(orc:jK)(a b:List AV):c9 orc [] a b=some true:=by simp[c9]
@[simp] theorem asf(orc:jK)(off:Nat)(p:MV)(l:List (Nat×MV))(a b:List AV):c9 orc ((off,p) ::l) a b=(match nth off a,nth off b with
  |some x,some y=>match kq orc p x y with
   |some true=>c9 orc l a b
   |some false=>some false
   |none=>none
  |_,_=>none):=by rw[c9];rfl
section
variable{C:bH}{Q:cJ}{tm:T AV}{h:T ai}{nx:Key}
theorem W.iM{c:aK}(Inv:Nat→T AV→T ai→Key→Prop){n:Nat}(hi:Inv n tm h nx)(hw:∀n tm h nx,Inv n tm h nx→W C c (bO (fun tm h nx=>∃m,m<n∧Inv m tm h nx) Q) tm h nx):W C (.loop c) Q tm h nx:=
 W.loop Inv (fun n tm h nx hi=>WI.mono (hw n tm h nx hi) fun e tm h nx hq=>by cases e<;>exact hq) hi
theorem W.ju{c:aK}(h1:W C c (bO (W C (.loop c) Q) Q) tm h nx):W C (.loop c) Q tm h nx:=by
 intro af k cs m1 m2;refine .step (m':=⟨{af with tm:=tm,todo:=.code c ::.inLoop c ::k},cs,h,nx⟩) (bx m1 rfl) ((h1 af (.inLoop c ::k) cs m1 m2).bind ?_);rintro m ⟨e,aA,h',nx',fr,q,ha,rfl⟩;cases e with
 |norm=>cases ha;have q2:WI C (.inLoop c) Q aA h' nx':=WI.same (y:=.code (.loop c)) (fun i e=>by cases i<;>cases e) (fun _ _ _ _=>rfl) q;refine(q2 {af with tm:=aA} k cs m1 m2).mono ?_;rintro m ⟨e2,cE,hh2,aZ,IV,q2,a2,t2⟩;refine⟨e2,cE,hh2,aZ,IV,q2,?_,t2⟩;cases e2<;>exact a2
 |ret=>exact .now ⟨.ret,aA,h',nx',fr,q,ha,rfl⟩
 |exit id=>obtain⟨k2,e1,e2⟩:=ha;exact .now ⟨.exit id,aA,h',nx',fr,q,⟨k2,e1,e2⟩,rfl⟩
 |pan a=>exact .now ⟨.pan a,aA,h',nx',fr,q,ha,rfl⟩
theorem W.of{c:aK}(h1:mE C c Q tm h nx):W C c Q tm h nx:=nV h1
end
@[simp] theorem aCU{R:Type}(l:List AV)(h:T ai)(c:List AV→T ai→R):K1 (QB 9999) l h c=c (aY (aO 9999) l h).1 (aY (aO 9999) l h).2:=xK (FC 9999) l h c
attribute [simp] appendTo repL_eq
@[simp] theorem aCV(i:Nat):ES i []=[]:=rfl
@[simp] theorem aAE(i j:Nat)(l:List Nat)(r:List (Nat×List Nat)):ES i ((j,l) ::r)=if i=j then l else ES i r:=by simp[ES]
@[simp] theorem aAF(p:List (Nat×Key×ai))(h:T ai):yx [] p h=h:=rfl
@[simp] theorem ayo(a:Nat)(l:List Nat)(p:List (Nat×Key×ai))(h:T ai):yx (a ::l) p h=di (p.filter fun x=>memN x.1 (a ::l)) h:=by show Fm (a ::l) p h (fun _ h=>h)=_;rw[yY]
theorem bF{k:Key}{n:Nat}(h:Key.beq k (K n)=true):k=K n:=Key.eq_of_beq h
def k0:Key:=.z
def k1:=Key.o k0
def k2:=Key.e k0
def k3:=Key.o k1
def k4:=Key.e k1
def k5:=Key.o k2
def k6:=Key.e k2
def k7:=Key.o k3
def k8:=Key.e k3
def k9:=Key.o k4
def cY:=Key.e k4
def dw:=Key.o k5
def dF:=Key.e k5
def cZ:=Key.o k6
def eP:=Key.e k6
def dq:=Key.o k7
def gy:=Key.e k7
def iQ:=Key.o k8
def js:=Key.e k8
def iI:=Key.o k9
def iD:=Key.e k9
def jW:=Key.o cY
def jL:=Key.e cY
def lq:=Key.o dw
def ov:=Key.e dw
def nH:=Key.o dF
def nQ:=Key.e dF
def qi:=Key.o cZ
def mF:=Key.e cZ
def sE:=Key.o eP
def mI:=Key.e eP
def pC:=Key.o dq
def sF:=Key.e dq
def uN:=Key.o gy
def sI:=Key.e gy
def sJ:=Key.o iQ
def vm:=Key.e iQ
def uO:=Key.o js
def sK:=Key.e js
def xT:=Key.o iI
def bz:=Key.e iI
def uM:=Key.o iD
def sD:=Key.e iD
def wF:=Key.o jW
def Bl:=Key.e jW
def AD:=Key.o jL
def AE:=Key.e jL
def CT:=Key.o lq
def Bm:=Key.e lq
def Df:=Key.o ov
def xZ:=Key.e ov
def Dg:=Key.o nH
def zK:=Key.e nH
def Bz:=Key.o nQ
def AF:=Key.e nQ
def yR:=Key.o qi
def Dh:=Key.e qi
def B8:=Key.o mF
def B9:=Key.e mF
def Bn:=Key.o sE
def Ca:=Key.e sE
def Cb:=Key.o mI
def Di:=Key.e mI
def GI:=Key.o pC
def CU:=Key.e pC
def GJ:=Key.o sF
def Ie:=Key.e sF
def Iv:=Key.o uN
def Dj:=Key.e uN
def Iw:=Key.o sI
def Kf:=Key.e sI
def KP:=Key.o sJ
def MS:=Key.e sJ
def Kg:=Key.o vm
def Ix:=Key.e vm
def PZ:=Key.o uO
def P0:=Key.e uO
def MT:=Key.o sK
def GK:=Key.e sK
def OU:=Key.o xT
def QQ:=Key.e xT
def OV:=Key.o bz
def L3:=Key.e bz
def P1:=Key.o uM
def QR:=Key.e uM
def S6:=Key.o sD
def S7:=Key.e sD
def S8:=Key.o wF
def UO:=Key.e wF
def NG:=Key.o Bl
def QS:=Key.e Bl
def UP:=Key.o AD
def UQ:=Key.e AD
def UR:=Key.o AE
def QU:=Key.e AE
def Xd:=Key.o CT
def Xe:=Key.e CT
def Yu:=Key.o Bm
def Yv:=Key.e Bm
def Yw:=Key.o Df
def EV:=Key.e Df
def EW:=Key.o xZ
def GM:=Key.e xZ
def Iy:=Key.o Dg
def Iz:=Key.e Dg
def L4:=Key.o zK
def Kh:=Key.e zK
def IA:=Key.o Bz
def L5:=Key.e Bz
def L6:=Key.o AF
def P2:=Key.e AF
def NH:=Key.o yR
def P3:=Key.e yR
def P4:=Key.o Dh
def P5:=Key.e Dh
def GN:=Key.o B8
def L7:=Key.e B8
def L8:=Key.o B9
def NI:=Key.e B9
def S9:=Key.o Bn
def P6:=Key.e Bn
def Ta:=Key.o Ca
def NJ:=Key.e Ca
def Tb:=Key.o Cb
def Tc:=Key.e Cb
def L9:=Key.o Di
def Td:=Key.e Di
def Yx:=Key.o GI
def Yy:=Key.e GI
def NK:=Key.o CU
def NL:=Key.e CU
def Yz:=Key.o GJ
def YA:=Key.e GJ
def YB:=Key.o Ie
def YC:=Key.e Ie
def aa0:=Key.o Iv
def aa1:=Key.e Iv
def Vs:=Key.o Dj
def YD:=Key.e Dj
def YE:=Key.o Iw
def aa2:=Key.e Iw
def Ki:=Key.o Kf
def aa3:=Key.e Kf
def aa4:=Key.o KP
def aa5:=Key.e KP
def Te:=Key.o MS
def Tf:=Key.e MS
def aa6:=Key.o Kg
def P7:=Key.e Kg
def aa7:=Key.o Ix
def aa8:=Key.e Ix
def aa9:=Key.o PZ
def aba:=Key.e PZ
def ani:=Key.o P0
def YF:=Key.e P0
def anj:=Key.o MT
def ank:=Key.e MT
def anl:=Key.o GK
def anm:=Key.e GK
def axb:=Key.o OU
def axc:=Key.e OU
def axd:=Key.o QQ
def axe:=Key.e QQ
def axf:=Key.o OV
def axg:=Key.e OV
def axh:=Key.o L3
def axi:=Key.e L3
def axj:=Key.o P1
def axk:=Key.e P1
def axl:=Key.o QR
def axm:=Key.e QR
def axn:=Key.o S6
def axo:=Key.e S6
def axp:=Key.o S7
def axq:=Key.e S7
def axr:=Key.o S8
def axs:=Key.e S8
def axt:=Key.o UO
def axu:=Key.e UO
def axv:=Key.o NG
def ajt:=Key.e NG
def aju:=Key.o QS
def ann:=Key.e QS
def arK:=Key.o UP
def arL:=Key.e UP
def arM:=Key.o UQ
def arN:=Key.e UQ
def arO:=Key.o UR
def arP:=Key.e UR
def arQ:=Key.o QU
def axw:=Key.e QU
def axx:=Key.o Xd
def ajv:=Key.e Xd
def axy:=Key.o Xe
def axz:=Key.e Xe
def axA:=Key.o Yu
def axB:=Key.e Yu
def aer:=Key.o Yv
def axC:=Key.e Yv
def axD:=Key.o Yw
def axE:=Key.e Yw
def axF:=Key.o EV
def axG:=Key.e EV
def arR:=Key.o EW
def axH:=Key.e EW
def axI:=Key.o GM
def aHY:=Key.o Iz
def aHZ:=Key.o ann
def aHW:=Key.e aHY
def aHX:=Key.e aHZ
@[simp] theorem aTn:k0=K 0:=bF rfl
@[simp] theorem aG7:k1=K 1:=bF rfl
@[simp] theorem aTo:k2=K 2:=bF rfl
@[simp] theorem aTp:k3=K 3:=bF rfl
@[simp] theorem aTq:k4=K 4:=bF rfl
@[simp] theorem aTr:k5=K 5:=bF rfl
@[simp] theorem aTs:k6=K 6:=bF rfl
@[simp] theorem aTt:k7=K 7:=bF rfl
@[simp] theorem aTu:k8=K 8:=bF rfl
@[simp] theorem aTv:k9=K 9:=bF rfl
@[simp] theorem aOt:cY=K 10:=bF rfl
@[simp] theorem aOu:dw=K 11:=bF rfl
@[simp] theorem aOv:dF=K 12:=bF rfl
@[simp] theorem aOw:cZ=K 13:=bF rfl
@[simp] theorem aOx:eP=K 14:=bF rfl
@[simp] theorem aOy:dq=K 15:=bF rfl
@[simp] theorem aOz:gy=K 16:=bF rfl
@[simp] theorem aOA:iQ=K 17:=bF rfl
@[simp] theorem aBU:js=K 18:=bF rfl
@[simp] theorem aBV:iI=K 19:=bF rfl
@[simp] theorem aOB:iD=K 20:=bF rfl
@[simp] theorem aOC:jW=K 21:=bF rfl
@[simp] theorem aOD:jL=K 22:=bF rfl
@[simp] theorem aOE:lq=K 23:=bF rfl
@[simp] theorem aOF:ov=K 24:=bF rfl
@[simp] theorem aOG:nH=K 25:=bF rfl
@[simp] theorem aOH:nQ=K 26:=bF rfl
@[simp] theorem aOI:qi=K 27:=bF rfl
@[simp] theorem aOJ:mF=K 28:=bF rfl
@[simp] theorem aOK:sE=K 29:=bF rfl
@[simp] theorem aOL:mI=K 30:=bF rfl
@[simp] theorem aOM:pC=K 31:=bF rfl
@[simp] theorem aON:sF=K 32:=bF rfl
@[simp] theorem aOO:uN=K 33:=bF rfl
@[simp] theorem aOP:sI=K 34:=bF rfl
@[simp] theorem aOQ:sJ=K 35:=bF rfl
@[simp] theorem aOR:vm=K 36:=bF rfl
@[simp] theorem aOS:uO=K 37:=bF rfl
@[simp] theorem aOT:sK=K 38:=bF rfl
@[simp] theorem aOU:xT=K 39:=bF rfl
@[simp] theorem aOV:bz=K 40:=bF rfl
@[simp] theorem aOW:uM=K 41:=bF rfl
@[simp] theorem aOX:sD=K 42:=bF rfl
@[simp] theorem aOY:wF=K 43:=bF rfl
@[simp] theorem aOZ:Bl=K 44:=bF rfl
@[simp] theorem aO0:AD=K 45:=bF rfl
@[simp] theorem aO1:AE=K 46:=bF rfl
@[simp] theorem aO2:CT=K 47:=bF rfl
@[simp] theorem aO3:Bm=K 48:=bF rfl
@[simp] theorem aO4:Df=K 49:=bF rfl
@[simp] theorem aO5:xZ=K 50:=bF rfl
@[simp] theorem aO6:Dg=K 51:=bF rfl
@[simp] theorem aO7:zK=K 52:=bF rfl
@[simp] theorem aO8:Bz=K 53:=bF rfl
@[simp] theorem aO9:AF=K 54:=bF rfl
@[simp] theorem aPa:yR=K 55:=bF rfl
@[simp] theorem aPb:Dh=K 56:=bF rfl
@[simp] theorem aPc:B8=K 57:=bF rfl
@[simp] theorem aPd:B9=K 58:=bF rfl
@[simp] theorem aPe:Bn=K 59:=bF rfl
@[simp] theorem aPf:Ca=K 60:=bF rfl
@[simp] theorem aPg:Cb=K 61:=bF rfl
@[simp] theorem aPh:Di=K 62:=bF rfl
@[simp] theorem aPi:GI=K 63:=bF rfl
@[simp] theorem aPj:CU=K 64:=bF rfl
@[simp] theorem aPk:GJ=K 65:=bF rfl
@[simp] theorem aPl:Ie=K 66:=bF rfl
@[simp] theorem aPm:Iv=K 67:=bF rfl
@[simp] theorem aPn:Dj=K 68:=bF rfl
@[simp] theorem aPo:Iw=K 69:=bF rfl
@[simp] theorem aPp:Kf=K 70:=bF rfl
@[simp] theorem aPq:KP=K 71:=bF rfl
@[simp] theorem aPr:MS=K 72:=bF rfl
@[simp] theorem aPs:Kg=K 73:=bF rfl
@[simp] theorem aPt:Ix=K 74:=bF rfl
@[simp] theorem aPu:PZ=K 75:=bF rfl
@[simp] theorem aPv:P0=K 76:=bF rfl
@[simp] theorem aPw:MT=K 77:=bF rfl
@[simp] theorem aPx:GK=K 78:=bF rfl
@[simp] theorem aPy:OU=K 79:=bF rfl
@[simp] theorem aPz:QQ=K 80:=bF rfl
@[simp] theorem aPA:OV=K 81:=bF rfl
@[simp] theorem aPB:L3=K 82:=bF rfl
@[simp] theorem aPC:P1=K 83:=bF rfl
@[simp] theorem aPD:QR=K 84:=bF rfl
@[simp] theorem aPE:S6=K 85:=bF rfl
@[simp] theorem aPF:S7=K 86:=bF rfl
@[simp] theorem aPG:S8=K 87:=bF rfl
@[simp] theorem aPH:UO=K 88:=bF rfl
@[simp] theorem aPI:NG=K 89:=bF rfl
@[simp] theorem aPJ:QS=K 90:=bF rfl
@[simp] theorem aPK:UP=K 91:=bF rfl
@[simp] theorem aPL:UQ=K 92:=bF rfl
@[simp] theorem aPM:UR=K 93:=bF rfl
@[simp] theorem aPN:QU=K 94:=bF rfl
@[simp] theorem aPO:Xd=K 95:=bF rfl
@[simp] theorem aPP:Xe=K 96:=bF rfl
@[simp] theorem aPQ:Yu=K 97:=bF rfl
@[simp] theorem aPR:Yv=K 98:=bF rfl
@[simp] theorem aPS:Yw=K 99:=bF rfl
@[simp] theorem aH0:EV=K 100:=bF rfl
@[simp] theorem aH1:EW=K 101:=bF rfl
@[simp] theorem aH2:GM=K 102:=bF rfl
@[simp] theorem aH3:Iy=K 103:=bF rfl
@[simp] theorem aH4:Iz=K 104:=bF rfl
@[simp] theorem aH5:L4=K 105:=bF rfl
@[simp] theorem aH6:Kh=K 106:=bF rfl
@[simp] theorem aH7:IA=K 107:=bF rfl
@[simp] theorem aH8:L5=K 108:=bF rfl
@[simp] theorem aH9:L6=K 109:=bF rfl
@[simp] theorem aIa:P2=K 110:=bF rfl
@[simp] theorem aIb:NH=K 111:=bF rfl
@[simp] theorem aIc:P3=K 112:=bF rfl
@[simp] theorem aId:P4=K 113:=bF rfl
@[simp] theorem aIe:P5=K 114:=bF rfl
@[simp] theorem aIf:GN=K 115:=bF rfl
@[simp] theorem aIg:L7=K 116:=bF rfl
@[simp] theorem aIh:L8=K 117:=bF rfl
@[simp] theorem aIi:NI=K 118:=bF rfl
@[simp] theorem aIj:S9=K 119:=bF rfl
@[simp] theorem aIk:P6=K 120:=bF rfl
@[simp] theorem aIl:Ta=K 121:=bF rfl
@[simp] theorem aIm:NJ=K 122:=bF rfl
@[simp] theorem aIn:Tb=K 123:=bF rfl
@[simp] theorem aIo:Tc=K 124:=bF rfl
@[simp] theorem aIp:L9=K 125:=bF rfl
@[simp] theorem aIq:Td=K 126:=bF rfl
@[simp] theorem aIr:Yx=K 127:=bF rfl
@[simp] theorem aIs:Yy=K 128:=bF rfl
@[simp] theorem aIt:NK=K 129:=bF rfl
@[simp] theorem aIu:NL=K 130:=bF rfl
@[simp] theorem aIv:Yz=K 131:=bF rfl
@[simp] theorem aIw:YA=K 132:=bF rfl
@[simp] theorem aIx:YB=K 133:=bF rfl
@[simp] theorem aIy:YC=K 134:=bF rfl
@[simp] theorem aIz:aa0=K 135:=bF rfl
@[simp] theorem aIA:aa1=K 136:=bF rfl
@[simp] theorem aIB:Vs=K 137:=bF rfl
@[simp] theorem aIC:YD=K 138:=bF rfl
@[simp] theorem aID:YE=K 139:=bF rfl
@[simp] theorem aIE:aa2=K 140:=bF rfl
@[simp] theorem aIF:Ki=K 141:=bF rfl
@[simp] theorem aIG:aa3=K 142:=bF rfl
@[simp] theorem aIH:aa4=K 143:=bF rfl
@[simp] theorem aII:aa5=K 144:=bF rfl
@[simp] theorem aIJ:Te=K 145:=bF rfl
@[simp] theorem aIK:Tf=K 146:=bF rfl
@[simp] theorem aIL:aa6=K 147:=bF rfl
@[simp] theorem aIN:P7=K 148:=bF rfl
@[simp] theorem aIO:aa7=K 149:=bF rfl
@[simp] theorem aIP:aa8=K 150:=bF rfl
@[simp] theorem aIQ:aa9=K 151:=bF rfl
@[simp] theorem aIR:aba=K 152:=bF rfl
@[simp] theorem aIT:ani=K 153:=bF rfl
@[simp] theorem aIU:YF=K 154:=bF rfl
@[simp] theorem aIV:anj=K 155:=bF rfl
@[simp] theorem aIW:ank=K 156:=bF rfl
@[simp] theorem aIX:anl=K 157:=bF rfl
@[simp] theorem aIY:anm=K 158:=bF rfl
@[simp] theorem aIZ:axb=K 159:=bF rfl
@[simp] theorem aI0:axc=K 160:=bF rfl
@[simp] theorem aI1:axd=K 161:=bF rfl
@[simp] theorem aI2:axe=K 162:=bF rfl
@[simp] theorem aI3:axf=K 163:=bF rfl
@[simp] theorem aI4:axg=K 164:=bF rfl
@[simp] theorem aI5:axh=K 165:=bF rfl
@[simp] theorem aI6:axi=K 166:=bF rfl
@[simp] theorem aI7:axj=K 167:=bF rfl
@[simp] theorem aI8:axk=K 168:=bF rfl
@[simp] theorem aI9:axl=K 169:=bF rfl
@[simp] theorem aJa:axm=K 170:=bF rfl
@[simp] theorem aJb:axn=K 171:=bF rfl
@[simp] theorem aJc:axo=K 172:=bF rfl
@[simp] theorem aJd:axp=K 173:=bF rfl
@[simp] theorem aJe:axq=K 174:=bF rfl
@[simp] theorem aJf:axr=K 175:=bF rfl
@[simp] theorem aJg:axs=K 176:=bF rfl
@[simp] theorem aJh:axt=K 177:=bF rfl
@[simp] theorem aJi:axu=K 178:=bF rfl
@[simp] theorem aJj:axv=K 179:=bF rfl
@[simp] theorem aJk:ajt=K 180:=bF rfl
@[simp] theorem aJl:aju=K 181:=bF rfl
@[simp] theorem aJm:ann=K 182:=bF rfl
@[simp] theorem aJn:arK=K 183:=bF rfl
@[simp] theorem aJo:arL=K 184:=bF rfl
@[simp] theorem aJp:arM=K 185:=bF rfl
@[simp] theorem aJq:arN=K 186:=bF rfl
@[simp] theorem aJr:arO=K 187:=bF rfl
@[simp] theorem aJs:arP=K 188:=bF rfl
@[simp] theorem aJt:arQ=K 189:=bF rfl
@[simp] theorem aJu:axw=K 190:=bF rfl
@[simp] theorem aJv:axx=K 191:=bF rfl
@[simp] theorem aJw:ajv=K 192:=bF rfl
@[simp] theorem aJx:axy=K 193:=bF rfl
@[simp] theorem aJy:axz=K 194:=bF rfl
@[simp] theorem aJz:axA=K 195:=bF rfl
@[simp] theorem aJA:axB=K 196:=bF rfl
@[simp] theorem aJB:aer=K 197:=bF rfl
@[simp] theorem aJC:axC=K 198:=bF rfl
@[simp] theorem aJD:axD=K 199:=bF rfl
@[simp] theorem aJE:axE=K 200:=bF rfl
@[simp] theorem aJF:axF=K 201:=bF rfl
@[simp] theorem aJG:axG=K 202:=bF rfl
@[simp] theorem aJH:arR=K 203:=bF rfl
@[simp] theorem aJI:axH=K 204:=bF rfl
@[simp] theorem aJJ:axI=K 205:=bF rfl
theorem hide{α:Type}{a b:α}(h:a=b):a=b:=h
abbrev I(n:Int):AV:=.int .i64 (.lit n)
def oM(d s:Key):ay:=⟨some d,.mov (.t s),none⟩
def oL(d:Key)(n:Nat)(s:Key):ay:=⟨some d,.load false n (.t s),none⟩
def oA(d:Key)(n:Nat)(s:Key):ay:=⟨some d,.load true n (.t s),none⟩
def oF(d:Key)(n:Nat)(s:Key):ay:=⟨some d,.fieldA n (.t s),none⟩
def oS(n:Nat)(a s:Key):ay:=⟨none,.store n (.t a) (.t s),none⟩
def oN(d s:Key):ay:=⟨some d,.nilc (.t s),none⟩
def oZ(d s:Key):ay:=⟨some d,.lenL (.t s),none⟩
def oE(d s:Key)(n:Int):ay:=⟨some d,.bin .eql (.t s) (.v (I n)),none⟩
def oI(d:Key)(n:Nat)(s i:Key):ay:=⟨some d,.indexL n (.t s) (.t i),none⟩
def oX(d s:Key)(n:Nat):ay:=⟨some d,.extract (.t s) n,none⟩
def oB(d s:Key):ay:=⟨some d,.box (.t s),none⟩
def oJ(d:Key)(v:AV):ay:=⟨some d,.mov (.v v),none⟩
@[simp] theorem kj(d s:Key):oM d s=⟨some d,.mov (.t s),none⟩:=hide rfl
@[simp] theorem kl(d:Key)(n:Nat)(s:Key):oL d n s=⟨some d,.load false n (.t s),none⟩:=hide rfl
@[simp] theorem lZ(d:Key)(n:Nat)(s:Key):oA d n s=⟨some d,.load true n (.t s),none⟩:=hide rfl
@[simp] theorem l7(d:Key)(n:Nat)(s:Key):oF d n s=⟨some d,.fieldA n (.t s),none⟩:=hide rfl
@[simp] theorem l9(n:Nat)(a s:Key):oS n a s=⟨none,.store n (.t a) (.t s),none⟩:=hide rfl
@[simp] theorem mc(d s:Key):oN d s=⟨some d,.nilc (.t s),none⟩:=hide rfl
@[simp] theorem mb(d s:Key):oZ d s=⟨some d,.lenL (.t s),none⟩:=hide rfl
@[simp] theorem ma(d s:Key)(n:Int):oE d s n=⟨some d,.bin .eql (.t s) (.v (I n)),none⟩:=hide rfl
@[simp] theorem lY(d:Key)(n:Nat)(s i:Key):oI d n s i=⟨some d,.indexL n (.t s) (.t i),none⟩:=hide rfl
@[simp] theorem me(d s:Key)(n:Nat):oX d s n=⟨some d,.extract (.t s) n,none⟩:=hide rfl
@[simp] theorem aPT(d s:Key):oB d s=⟨some d,.box (.t s),none⟩:=hide rfl
@[simp] theorem km(d:Key)(v:AV):oJ d v=⟨some d,.mov (.v v),none⟩:=hide rfl
abbrev Rw:=List ay
def oO(d:Key)(o:BinOp)(a b:Key):ay:=⟨some d,.bin o (.t a) (.t b),none⟩
@[simp] theorem kn(d:Key)(o:BinOp)(a b:Key):oO d o a b=⟨some d,.bin o (.t a) (.t b),none⟩:=hide rfl
def oK(d:Key)(o:BinOp)(a:Key)(i:Int):ay:=⟨some d,.bin o (.t a) (.v (I i)),none⟩
@[simp] theorem ko(d:Key)(o:BinOp)(a:Key)(i:Int):oK d o a i=⟨some d,.bin o (.t a) (.v (I i)),none⟩:=hide rfl
instance:Coe Key PX:=⟨.t⟩
instance:Coe AV PX:=⟨.v⟩
instance:Coe (List ay) aK:=⟨.ops⟩
def oC(d:Key)(f:Nat)(l:List PX):ay:=⟨some d,.callF f l,none⟩
@[simp] theorem l8(d:Key)(f:Nat)(l:List PX):oC d f l=⟨some d,.callF f l,none⟩:=hide rfl
def oT(d s g:Key):ay:=⟨some d,.mov (.t s),some (g,true)⟩
@[simp] theorem aPU(d s g:Key):oT d s g=⟨some d,.mov (.t s),some (g,true)⟩:=hide rfl
def oQ(d s g:Key):ay:=⟨some d,.mov (.t s),some (g,false)⟩
@[simp] theorem aPV(d s g:Key):oQ d s g=⟨some d,.mov (.t s),some (g,false)⟩:=hide rfl
def oP(d a b:Key):ay:=⟨some d,.pick (.t a) (.t b) (.v (.bool false)),none⟩
@[simp] theorem aPW(d a b:Key):oP d a b=⟨some d,.pick (.t a) (.t b) (.v (.bool false)),none⟩:=hide rfl
@[simp] abbrev Qz(l:List AV):Option ai:=some (.cells l .fix)
end Go.Sx
namespace Go.Sx
open Go.RowKit
mutual
def AV.kf:AV→Bool
 |.bool _|.int _ _|.str _ _|.nilp|.nils|.nilm|.nilf|.nili=>true
 |.iface _ v=>AV.kf v
 |.agg l=>AV.Bb l
 |.tuple l=>AV.Bb l
 |.sl l _ _ .any=>AV.Bb l
 |.cref l=>AV.Bb l
 |.fn _ a c=>AV.Bb a&&AV.Bb c
 |_=>false
def AV.Bb:List AV→Bool
 | []=>true
 |a ::l=>AV.kf a&&AV.Bb l
end
mutual
theorem aU.kf{ρ:Nat→Int}{μ μ':Mu}(hf:∀c i v,μ.fz c i=some v→μ'.fz c i=some v):∀{a:AV} {v:Value},aU ρ μ a v→a.kf=true→aU ρ μ' a v
 |_,_,.bool b,_=>.bool b
 |_,_,.int k s n h,_=>.int k s n h
 |_,_,.str n c s h h',_=>.str n c s h h'
 |_,_,.ptr b off l a h ha,hk=>by simp[AV.kf]at hk
 |_,_,.nilp,_=>.nilp
 |_,_,.slice b off len sz cap l a h hc hl ha,hk=>by simp[AV.kf]at hk
 |_,_,.nils,_=>.nils
 |_,_,.map b l r h hr,hk=>by simp[AV.kf]at hk
 |_,_,.nilm,_=>.nilm
 |_,_,.fn f first cap vs ws h h',hk=>by simp only[AV.kf,kW]at hk;exact .fn f first cap vs ws (ax.kf hf h hk.1) (ax.kf hf h' hk.2)
 |_,_,.yld b l r h hr,hk=>by simp[AV.kf]at hk
 |_,_,.nilf,_=>.nilf
 |_,_,.iface t a v h,hk=>.iface t a v (aU.kf hf h (by simpa[AV.kf]using hk))
 |_,_,.nili,_=>.nili
 |_,_,.agg l vs h,hk=>.agg l vs (ax.kf hf h (by simpa[AV.kf]using hk))
 |_,_,.tuple l vs h,hk=>.tuple l vs (ax.kf hf h (by simpa[AV.kf]using hk))
 |_,_,.sl l len sz fl cap c o a vs h hn hl ha hff hg,hk=>by
  cases fl with
  |any=>exact .sl l len sz .any cap c o a vs (ax.kf hf h (by simpa[AV.kf]using hk)) hn hl ha (fun i v e=>hf _ _ _ (hff i v e)) trivial
  |tok b=>simp[AV.kf]at hk
 |_,_,.cref l c o a vs h ha hff,hk=>.cref l c o a vs (ax.kf hf h (by simpa[AV.kf]using hk)) ha (fun i v e=>hf _ _ _ (hff i v e))
theorem ax.kf{ρ:Nat→Int}{μ μ':Mu}(hf:∀c i v,μ.fz c i=some v→μ'.fz c i=some v):∀{l:List AV} {vs:List Value},ax ρ μ l vs→AV.Bb l=true→ax ρ μ' l vs
 |_,_,.nil,_=>.nil
 |_,_,.cons a l v vs h h',hk=>by simp only[AV.Bb,kW]at hk;exact .cons a l v vs (aU.kf hf h hk.1) (ax.kf hf h' hk.2)
end
structure jI(P:Program)(heap0:T ai)(w0:W0):Prop where
 size:P.globals.size≤w0.heap.size
 at_:∀b B,ag b heap0=some B→b.toNat<P.globals.size∧∃L arr elem f,B=.cells L .ro∧w0.heap[b.toNat]?=some (.cells arr elem f)∧(∀(ρ:Nat→Int) (μ:Mu),ax ρ μ L arr.toList)∧∀i v,arr[i]?=some v→w0.z b.toNat i=some v
section
variable{P:Program}{ρ:Nat→Int}{heap0:T ai}
noncomputable def TA(heap0:T ai)(b:Key):Nat:=match ag b heap0 with
 |some (.cells L _)=>L.length
 |_=>0
noncomputable def gMu(P:Program)(heap0:T ai)(fz:Nat→Nat→Option Value):Mu:=⟨fun b=>if b.toNat<P.globals.size then some ⟨b.toNat,0,TA heap0 b⟩else none,fz⟩
theorem Mn{fz:Nat→Nat→Option Value}{b:Key}{l:Loc}(h:(gMu P heap0 fz) b=some l):b.toNat<P.globals.size∧l=⟨b.toNat,0,TA heap0 b⟩:=by
 have h:(if b.toNat<P.globals.size then some (⟨b.toNat,0,TA heap0 b⟩:Loc)else none)=some l:=h;split at h
 ·rename_i hb;cases h;exact⟨hb,rfl⟩
 ·cases h
theorem Ih{w0:W0}(hL:jI P heap0 w0)(hz:∀c i v,w0.z c i=some v→∃arr elem f,w0.heap[c]?=some (.cells arr elem f)∧arr[i]?=some v){nx:Nat}(hn:P.globals.size≤nx) :
  bB P ρ w0 (gMu P heap0 w0.z) (fun b=>ag b heap0) nx w0.toWorld:=by
 have aDm:∀b:Key,b.toNat<P.globals.size→(gMu P heap0 w0.z) b=some ⟨b.toNat,0,TA heap0 b⟩:=by intro b hb;show(if b.toNat<P.globals.size then some (⟨b.toNat,0,TA heap0 b⟩:Loc)else none)=_;rw[if_pos hb]
 refine⟨?_,?_,?_,?_,?_,?_,Below.refl _ _,hz,?_,fun _ _ _ h=>h,fun _ _ _ h=>.inr h,?_,gi _⟩
 ·intro b B hb;obtain⟨h1,L,arr,elem,f,rfl,h3,h4,h5⟩:=hL.at_ b B hb;have hlen:L.length=arr.size:=by simpa using(h4 ρ (gMu P heap0 w0.z)).length
  refine⟨_,_,aDm b h1,h3,.cells L .ro _ arr elem f ?_ ?_ ?_ (fun h=>absurd rfl h) ?_⟩
  ·intro i a ha;obtain⟨v,hv,hr⟩:=(h4 ρ (gMu P heap0 w0.z)).get i a ha;exact⟨v,by simpa using hv,hr⟩
  ·show 0+TA heap0 b≤arr.size;simp only[TA,hb];omega
  ·show L.length≤TA heap0 b;simp only[TA,hb];exact gi _
  ·intro _ _;show L.length=TA heap0 b;simp only[TA,hb]
 ·intro b b' B B' l l' h1 h2 m1 m2 cp;obtain⟨_,rfl⟩:=Mn m1;obtain⟨_,rfl⟩:=Mn m2;exact fun e=>cp (Key.toNat_inj e)
 ·intro b l m;obtain⟨h1,rfl⟩:=Mn m;exact Ou h1 hL.size
 ·intro b B l hb m;obtain⟨h1,L,arr,elem,f,rfl,_⟩:=hL.at_ b B hb;exact .inl trivial
 ·intro k hk;exact⟨_,aDm k hk⟩
 ·intro b l m;obtain⟨h1,rfl⟩:=Mn m;omega
 ·intro b B l n hb m vk i hi;obtain⟨h1,L,arr,elem,f,rfl,_⟩:=hL.at_ b B hb;cases vk
 ·intro b L l hb m;obtain⟨_,rfl⟩:=Mn m;obtain⟨h1,L',arr,elem,f,e,h3,h4,h5⟩:=hL.at_ b _ hb;refine .inr fun J2 ee ff i v ha hv=>?_;have ha:w0.heap[b.toNat]?=some (.cells J2 ee ff):=ha;rw[h3]at ha;cases ha;exact h5 i v hv
theorem jI.an4{w0:W0}{w:World}{fz:Nat→Nat→Option Value}(hL:jI P heap0 w0)(hb:Below w0.heap.size w0.toWorld w)(hz:∀c i v,w0.z c i=some v→fz c i=some v):jI P heap0 ⟨w,fz⟩:=by refine⟨Nat.le_trans hL.size hb.size,fun b B h=>?_⟩;obtain⟨h1,L,arr,elem,f,h2,h3,h4,h5⟩:=hL.at_ b B h;refine⟨h1,L,arr,elem,f,h2,?_,h4,fun i v hv=>hz _ _ _ (h5 i v hv)⟩;show w.heap[b.toNat]?=_;rw[hb.block _ (Ou h1 hL.size)];exact h3
def aDn(tab:List (Nat×List AV×AV))(f:Nat)(l:List AV)(h:T ai)(nx:Key):Option (AV×T ai×Key):=match tab with
 | []=>none
 |(g,m,v) ::r=>bif Nat.beq f g&&AV.Ir l m then some (v,h,nx)else aDn r f l h nx
theorem Ha{C:bH}{w0:W0}{w:World}{μ0:Mu}{G0:Key→Option ai}{H:T ai}{nx:Key}(X:Ctx P ρ w0 C){f:Nat}{l:List AV}{args:Array Value}(hM:bB P ρ w0 μ0 G0 nx.toNat w)(hH:HSub H G0)(hl:ax ρ μ0 l args.toList)
  {R:Out→T ai→Key→Prop} (hR:∀o h nx,R o h nx→∃v,o=.ret v) (hc:aB C f l H nx R) :
  Calls P f args w fun e w'=>∃v h' nx' u μ G,R (.ret v) h' nx'∧e=.returned u∧aU ρ μ v u∧μ0.le μ∧bB P ρ w0 μ G nx'.toNat w'∧HSub h' G:=by
 rcases hc with⟨v,h',nx',hs,hr⟩|⟨hs,p,hp,gD⟩
 ·refine(X.sum f l H nx v h' nx' hs args w μ0 G0 hM hH hl).mono ?_;rintro e w' ⟨u,μ',G',rfl,h1,h2,h3,h4,_⟩;exact⟨v,h',nx',u,μ',G',hr,rfl,h1,h2,h3,h4⟩
 ·have hpf:IS P f=some p:=X.fns f p hp;intro cs;have hm:A8 P ρ C.orc w0 μ0 ⟨ah f p l,[],H,nx⟩ (Frame.enter P f args .normal) [] w:=
   ⟨μ0,G0,μ0.le_refl,hM,hH,xX hpf hl false,trivial,by simp[bJ,pk,ah]⟩
  obtain⟨am',fY,xJ,w',⟨o,h',nx',fr,h1,hr,hfn,hdf,⟨hd,hL⟩,rfl⟩,s1,s2⟩:=Ev.sound (rest:=cs) X (gD []) hm;obtain⟨v,rfl⟩:=hR o h' nx' hr;obtain⟨NR,l1,Ri,rfl,rfl⟩:=hL;have Jt:jj C ⟨fr,[],h1,nx'⟩=.done f (o5 (cq (C.mT f) l1 h1).1) (cq (C.mT f) l1 h1).2 nx':=by unfold jj;simp only[NR];unfold Ag;simp only[hd,NR,Ri,hfn,yc];unfold Lk;simp only[hdf,cond_false,hfn]
  have hg:=zT (rest:=cs) X s2;rw[Jt]at hg;obtain⟨IV,w2,μ,G,u,t1,t2,t3,t4,t5,t6,t7⟩:=hg;exact⟨.returned u,w2,IV,⟨_,_,_,u,μ,G,hr,rfl,t4,t5,t6,t7⟩,s1.trans t1,t2,t3⟩
noncomputable def He:List (Nat×fN)→T fN
 | []=>.nil
 |(i,p) ::l=>au (Key.fX 12 i) (some p) (He l)
theorem TB:∀{l:List (Nat×fN)} {k:Key} {p:fN},ag k (He l)=some p→∃i,(i,p)∈l∧k=Key.fX 12 i
 | [],k,p,h=>by simp[He]at h
 |(i,q) ::l,k,p,h=>by
  simp only[He]at h;by_cases e:k=Key.fX 12 i
  ·subst e;rw[gTSm]at h;cases h;exact⟨i,by simp,rfl⟩
  ·rw[aD _ _ _ _ e]at h;obtain⟨j,h1,h2⟩:=TB h;exact⟨j,List.mem_cons_of_mem _ h1,h2⟩
def Ml(P:Program):List (Nat×fN)→Prop
 | []=>True
 |(i,p) ::l=>(Nat.blt i 8000=true∧IS P i=some p)∧Ml P l
theorem Ml.mem:∀{l:List (Nat×fN)},Ml P l→∀{i:Nat} {p:fN},(i,p)∈l→i<8000∧IS P i=some p
 | [],_,_,_,h=>by cases h
 |(j,q) ::l,ha,i,p,h=>by
  rcases CR.1 h with e|e
  ·cases e;have:=ha.1.1;rw[bltN_eq,decide_eq_true_eq]at this;exact⟨this,ha.1.2⟩
  ·exact Ml.mem ha.2 e
noncomputable def aDo(fns:T fN)(tab:List (Nat×List AV×AV)):bH:=⟨[],fns,aDn tab,fun _=>false,fun _=>false⟩
theorem abF{fns:T fN}{abE:List (Nat×fN)}(hb:fns=He abE)(ha:Ml P abE){tab:List (Nat×List AV×AV)}{f:Nat}{p:fN}(h:GX (aDo fns tab) f=some p):IS P f=some p:=by
 unfold GX at h;cases hk:Nat.beq (Key.fX 12 f).toNat f with
 |false=>rw[hk]at h;cases h
 |true=>
  rw[hk]at h;have hk:=pZ hk;have h:ag (Key.fX 12 f) fns=some p:=h;rw[hb]at h;obtain⟨i,h1,h2⟩:=TB h;obtain⟨h3,h4⟩:=ha.mem h1;have:i=f:=by have e:=congrArg Key.toNat h2;rw[hk,sj 12 i (by omega)]at e;exact e.symm
  subst this;exact h4
def ah2(P:Program)(ρ:Nat→Int)(heap0:T ai):List (Nat×List AV×AV)→Prop
 | []=>True
 |(f,l,v) ::r=>((∃p,IS P f=some p)∧∀w0:W0,jI P heap0 w0→∀H nx,Lb P ρ w0 f l H nx v H nx)∧ah2 P ρ heap0 r
theorem ah2.mem:∀{tab:List (Nat×List AV×AV)},ah2 P ρ heap0 tab→∀{f:Nat} {l:List AV} {v:AV},(f,l,v)∈tab→(∃p,IS P f=some p)∧∀w0:W0,jI P heap0 w0→∀H nx,Lb P ρ w0 f l H nx v H nx
 | [],_,_,_,_,h=>by cases h
 |(g,m,u) ::r,ht,f,l,v,h=>by
  rcases CR.1 h with e|e
  ·cases e;exact ht.1
  ·exact ah2.mem ht.2 e
end
end Go.Sx
namespace Go.Sx
open Go
theorem axR{a b:Key}(h:a.toNat≠b.toNat):a≠b:=fun e=>h (by rw[e])
theorem sQ{a b:Key}(v:Option ai)(t:T ai)(h:a.toNat≠b.toNat:=by simp;try omega):ag a (au b v t)=ag a t:=aD _ _ _ _ (axR h)
variable(n:Key)(v:Option ai)(t:T ai)
@[simp] theorem aJU:ag n (au n.succ v t)=ag n t:=sQ v t
@[simp] theorem aJV:ag n (au n.succ.succ v t)=ag n t:=sQ v t
@[simp] theorem aJW:ag n (au n.succ.succ.succ v t)=ag n t:=sQ v t
@[simp] theorem aJX:ag n (au n.succ.succ.succ.succ v t)=ag n t:=sQ v t
@[simp] theorem aJY:ag n (au n.succ.succ.succ.succ.succ v t)=ag n t:=sQ v t
@[simp] theorem aJZ:ag n (au n.succ.succ.succ.succ.succ.succ v t)=ag n t:=sQ v t
@[simp] theorem aJ0:ag n (au n.succ.succ.succ.succ.succ.succ.succ v t)=ag n t:=sQ v t
@[simp] theorem aJ1:ag n.succ (au n v t)=ag n.succ t:=sQ v t
@[simp] theorem aJ2:ag n.succ (au n.succ.succ v t)=ag n.succ t:=sQ v t
@[simp] theorem aJ3:ag n.succ (au n.succ.succ.succ v t)=ag n.succ t:=sQ v t
@[simp] theorem aJ4:ag n.succ (au n.succ.succ.succ.succ v t)=ag n.succ t:=sQ v t
@[simp] theorem aJ5:ag n.succ (au n.succ.succ.succ.succ.succ v t)=ag n.succ t:=sQ v t
@[simp] theorem aJ6:ag n.succ (au n.succ.succ.succ.succ.succ.succ v t)=ag n.succ t:=sQ v t
@[simp] theorem aJ7:ag n.succ (au n.succ.succ.succ.succ.succ.succ.succ v t)=ag n.succ t:=sQ v t
@[simp] theorem aJ8:ag n.succ.succ (au n v t)=ag n.succ.succ t:=sQ v t
@[simp] theorem aJ9:ag n.succ.succ (au n.succ v t)=ag n.succ.succ t:=sQ v t
@[simp] theorem aKa:ag n.succ.succ (au n.succ.succ.succ v t)=ag n.succ.succ t:=sQ v t
@[simp] theorem aKb:ag n.succ.succ (au n.succ.succ.succ.succ v t)=ag n.succ.succ t:=sQ v t
@[simp] theorem aKc:ag n.succ.succ (au n.succ.succ.succ.succ.succ v t)=ag n.succ.succ t:=sQ v t
@[simp] theorem aKd:ag n.succ.succ (au n.succ.succ.succ.succ.succ.succ v t)=ag n.succ.succ t:=sQ v t
@[simp] theorem aKe:ag n.succ.succ (au n.succ.succ.succ.succ.succ.succ.succ v t)=ag n.succ.succ t:=sQ v t
@[simp] theorem aKf:ag n.succ.succ.succ (au n v t)=ag n.succ.succ.succ t:=sQ v t
@[simp] theorem aKg:ag n.succ.succ.succ (au n.succ v t)=ag n.succ.succ.succ t:=sQ v t
@[simp] theorem aKh:ag n.succ.succ.succ (au n.succ.succ v t)=ag n.succ.succ.succ t:=sQ v t
@[simp] theorem aKi:ag n.succ.succ.succ (au n.succ.succ.succ.succ v t)=ag n.succ.succ.succ t:=sQ v t
@[simp] theorem aKj:ag n.succ.succ.succ (au n.succ.succ.succ.succ.succ v t)=ag n.succ.succ.succ t:=sQ v t
@[simp] theorem aKk:ag n.succ.succ.succ (au n.succ.succ.succ.succ.succ.succ v t)=ag n.succ.succ.succ t:=sQ v t
@[simp] theorem aKl:ag n.succ.succ.succ (au n.succ.succ.succ.succ.succ.succ.succ v t)=ag n.succ.succ.succ t:=sQ v t
@[simp] theorem aKm:ag n.succ.succ.succ.succ (au n v t)=ag n.succ.succ.succ.succ t:=sQ v t
@[simp] theorem aKn:ag n.succ.succ.succ.succ (au n.succ v t)=ag n.succ.succ.succ.succ t:=sQ v t
@[simp] theorem aKo:ag n.succ.succ.succ.succ (au n.succ.succ v t)=ag n.succ.succ.succ.succ t:=sQ v t
@[simp] theorem aKp:ag n.succ.succ.succ.succ (au n.succ.succ.succ v t)=ag n.succ.succ.succ.succ t:=sQ v t
@[simp] theorem aKq:ag n.succ.succ.succ.succ (au n.succ.succ.succ.succ.succ v t)=ag n.succ.succ.succ.succ t:=sQ v t
@[simp] theorem aKr:ag n.succ.succ.succ.succ (au n.succ.succ.succ.succ.succ.succ v t)=ag n.succ.succ.succ.succ t:=sQ v t
@[simp] theorem aKs:ag n.succ.succ.succ.succ (au n.succ.succ.succ.succ.succ.succ.succ v t)=ag n.succ.succ.succ.succ t:=sQ v t
@[simp] theorem aKt:ag n.succ.succ.succ.succ.succ (au n v t)=ag n.succ.succ.succ.succ.succ t:=sQ v t
@[simp] theorem aKu:ag n.succ.succ.succ.succ.succ (au n.succ v t)=ag n.succ.succ.succ.succ.succ t:=sQ v t
@[simp] theorem aKv:ag n.succ.succ.succ.succ.succ (au n.succ.succ v t)=ag n.succ.succ.succ.succ.succ t:=sQ v t
@[simp] theorem aKw:ag n.succ.succ.succ.succ.succ (au n.succ.succ.succ v t)=ag n.succ.succ.succ.succ.succ t:=sQ v t
@[simp] theorem aKx:ag n.succ.succ.succ.succ.succ (au n.succ.succ.succ.succ v t)=ag n.succ.succ.succ.succ.succ t:=sQ v t
@[simp] theorem aKy:ag n.succ.succ.succ.succ.succ (au n.succ.succ.succ.succ.succ.succ v t)=ag n.succ.succ.succ.succ.succ t:=sQ v t
@[simp] theorem aKz:ag n.succ.succ.succ.succ.succ (au n.succ.succ.succ.succ.succ.succ.succ v t)=ag n.succ.succ.succ.succ.succ t:=sQ v t
@[simp] theorem aKA:ag n.succ.succ.succ.succ.succ.succ (au n v t)=ag n.succ.succ.succ.succ.succ.succ t:=sQ v t
@[simp] theorem aKB:ag n.succ.succ.succ.succ.succ.succ (au n.succ v t)=ag n.succ.succ.succ.succ.succ.succ t:=sQ v t
@[simp] theorem aKC:ag n.succ.succ.succ.succ.succ.succ (au n.succ.succ v t)=ag n.succ.succ.succ.succ.succ.succ t:=sQ v t
@[simp] theorem aKD:ag n.succ.succ.succ.succ.succ.succ (au n.succ.succ.succ v t)=ag n.succ.succ.succ.succ.succ.succ t:=sQ v t
@[simp] theorem aKE:ag n.succ.succ.succ.succ.succ.succ (au n.succ.succ.succ.succ v t)=ag n.succ.succ.succ.succ.succ.succ t:=sQ v t
@[simp] theorem aKF:ag n.succ.succ.succ.succ.succ.succ (au n.succ.succ.succ.succ.succ v t)=ag n.succ.succ.succ.succ.succ.succ t:=sQ v t
@[simp] theorem aKG:ag n.succ.succ.succ.succ.succ.succ (au n.succ.succ.succ.succ.succ.succ.succ v t)=ag n.succ.succ.succ.succ.succ.succ t:=sQ v t
@[simp] theorem aKH:ag n.succ.succ.succ.succ.succ.succ.succ (au n v t)=ag n.succ.succ.succ.succ.succ.succ.succ t:=sQ v t
@[simp] theorem aKI:ag n.succ.succ.succ.succ.succ.succ.succ (au n.succ v t)=ag n.succ.succ.succ.succ.succ.succ.succ t:=sQ v t
@[simp] theorem aKJ:ag n.succ.succ.succ.succ.succ.succ.succ (au n.succ.succ v t)=ag n.succ.succ.succ.succ.succ.succ.succ t:=sQ v t
@[simp] theorem aKK:ag n.succ.succ.succ.succ.succ.succ.succ (au n.succ.succ.succ v t)=ag n.succ.succ.succ.succ.succ.succ.succ t:=sQ v t
@[simp] theorem aKL:ag n.succ.succ.succ.succ.succ.succ.succ (au n.succ.succ.succ.succ v t)=ag n.succ.succ.succ.succ.succ.succ.succ t:=sQ v t
@[simp] theorem aKM:ag n.succ.succ.succ.succ.succ.succ.succ (au n.succ.succ.succ.succ.succ v t)=ag n.succ.succ.succ.succ.succ.succ.succ t:=sQ v t
@[simp] theorem aKN:ag n.succ.succ.succ.succ.succ.succ.succ (au n.succ.succ.succ.succ.succ.succ v t)=ag n.succ.succ.succ.succ.succ.succ.succ t:=sQ v t
@[simp] theorem az8(k:IntKind):rj (.int k (.lit 2))=some 2:=rfl
@[simp] theorem auK(k:IntKind):rj (.int k (.lit 3))=some 3:=rfl
theorem nf:∀(k:Key),Key.beq k k=true
 |.z=>rfl
 |.o k=>by rw[Key.beq];exact nf k
 |.e k=>by rw[Key.beq];exact nf k
theorem aez(f:SF):SF.beq f f=true:=by cases f<;>simp[SF.beq,nf]
mutual
def AV.lits:AV→Bool
 |.int _ (.lit _)=>true
 |.int _ _=>false
 |.fn _ a c=>AV.dA a&&AV.dA c
 |.iface _ v=>AV.lits v
 |.agg l=>AV.dA l
 |.tuple l=>AV.dA l
 |.sl l _ _ _=>AV.dA l
 |.cref l=>AV.dA l
 |_=>true
def AV.dA:List AV→Bool
 | []=>true
 |v ::l=>AV.lits v&&AV.dA l
end
mutual
theorem beq_refl:∀(v:AV),AV.lits v=true→AV.beq v v=true
 |.bool b,_=>by simp[AV.beq]
 |.int k (.lit n),_=>by cases k<;>simp[AV.beq,SI.beq]
 |.int k (.var n),h=>by simp[AV.lits]at h
 |.int k (.bin o k' a b),h=>by simp[AV.lits]at h
 |.str n c,_=>by simp[AV.beq]
 |.ptr b o,_=>by simp[AV.beq,nf]
 |.nilp,_=>by simp[AV.beq]
 |.slice b o l s,_=>by simp[AV.beq,nf]
 |.nils,_=>by simp[AV.beq]
 |.map b,_=>by simp[AV.beq,nf]
 |.nilm,_=>by simp[AV.beq]
 |.fn f a c,h=>by simp[AV.lits]at h;simp[AV.beq,uc a h.1,uc c h.2]
 |.yld l,_=>by simp[AV.beq,nf]
 |.nilf,_=>by simp[AV.beq]
 |.iface t v,h=>by simp[AV.lits]at h;simp[AV.beq,beq_refl v h]
 |.nili,_=>by simp[AV.beq]
 |.agg l,h=>by simp[AV.lits]at h;simp[AV.beq,uc l h]
 |.tuple l,h=>by simp[AV.lits]at h;simp[AV.beq,uc l h]
 |.sl l n z f,h=>by simp[AV.lits]at h;simp[AV.beq,aez,uc l h]
 |.cref l,h=>by simp[AV.lits]at h;simp[AV.beq,uc l h]
theorem uc:∀(l:List AV),AV.dA l=true→AV.Ir l l=true
 | [],_=>by simp[AV.Ir]
 |v ::l,h=>by simp[AV.dA]at h;simp[AV.Ir,beq_refl v h.1,uc l h.2]
end
theorem abm:∀{l:List AV},(∀x∈l,AV.lits x=true)→AV.dA l=true
 | [],_=>by simp[AV.dA]
 |v ::l,h=>by simp[AV.dA,h v (by simp),abm (l:=l) fun x hx=>h x (by simp[hx])]
theorem jb:∀{l:List AV},AV.dA l=true→∀x∈l,AV.lits x=true
 | [],_,x,hx=>by simp at hx
 |v ::l,h,x,hx=>by
  simp[AV.dA]at h;rcases CR.1 hx with rfl|hx
  ·exact h.1
  ·exact jb h.2 x hx
end Go.Sx
namespace Go.Sx
open Go
structure Fn(C:bH)(f:Nat)(p:fN):Prop where
 get:GX C f=some p
 off:∀l h nx,C.sum f l h nx=none
 mT:C.mT f=false
theorem Fn.call{C:bH}{f:Nat}{p:fN}(S:Fn C f p){l:List AV}{h:T ai}{nx:Key}{R:Out→T ai→Key→Prop}(hw:mE C p.body (gC p.res R) (iG l (K 0) .nil) h nx):aB C f l h nx R:=
 aB.of (S.off _ _ _) S.get S.mT hw
abbrev S:=Nat×Nat
def FJ(c:AV):Prop:=∀n h,aO n c h=(c,h)
theorem Nc(l:List AV)(n z:Nat):FJ (.sl l n z .any):=fun k h=>by cases k<;>rfl
theorem vh:FJ .nils:=fun k h=>by cases k<;>rfl
theorem cX(k:IntKind)(n:SI):FJ (.int k n):=fun k h=>by cases k<;>rfl
theorem gF(a b:Nat):FJ (.str a b):=fun k h=>by cases k<;>rfl
theorem alx(b:Bool):FJ (.bool b):=fun k h=>by cases k<;>rfl
theorem bw{n:Nat}:∀{l:List AV} {h:T ai},(∀x∈l,FJ x)→aY (aO n) l h=(l,h)
 | [],_,_=>rfl
 |v ::l,h,hs=>by have h1:=hs v (by simp) n h;have h2:=bw (n:=n) (l:=l) (h:=h) fun x hx=>hs x (by simp[hx]);simp only[aY,h1,h2]
theorem pD{n:Nat}{b:Key}{len sz:Nat}{l:List AV}{H:T ai}(hg:ag b H=some (.cells l .part))(hl:l.length=len*sz)(hs:∀x∈l,FJ x):aO (n+1) (.slice b 0 len sz) H=(.sl l len sz .any,au b (some (.cells l .rop)) H):=by simp only[aO,Jm,hg,List.drop_zero];rw[if_pos (by omega),PH (by omega),bw hs]
theorem ahD{n:Nat}{b:Key}{len sz:Nat}{l:List AV}{H:T ai}(hg:ag b H=some (.cells l .rop))(hl:l.length=len*sz)(hs:∀x∈l,FJ x):aO (n+1) (.slice b 0 len sz) H=(.sl l len sz .any,H):=by simp only[aO,Jm,hg,List.drop_zero];rw[if_pos (by omega),PH (by omega),bw hs]
theorem amS{n:Nat}{b:Key}{len sz:Nat}{l:List AV}{H:T ai}(hg:ag b H=some (.cells l .ro))(hl:l.length=len*sz)(hs:∀x∈l,FJ x):aO (n+1) (.slice b 0 len sz) H=(.sl l len sz .any,H):=by simp only[aO,Jm,hg,List.drop_zero];rw[if_pos (by omega),PH (by omega),bw hs]
theorem mg{n:Nat}{b:Key}{len sz:Nat}{l:List AV}{H:T ai}(hg:ag b H=some (.cells l .fix))(hl:l.length=len*sz)(hs:∀x∈l,FJ x):aO (n+1) (.slice b 0 len sz) H=(.sl l len sz .any,au b (some (.cells l .ro)) H):=by simp only[aO,Jm,hg,List.drop_zero];rw[if_pos (by omega),PH (by omega),bw hs]
def Pur(C:bH)(f:Nat)(l:List AV)(P:Out→Prop):Prop:=∀h nx,aB C f l h nx (fun o h' nx'=>P o∧Ext h nx h' nx')
theorem Pur.mono{C:bH}{f:Nat}{l:List AV}{P Q:Out→Prop}(hp:Pur C f l P)(hq:∀o,P o→Q o):Pur C f l Q:=
 fun h nx=>(hp h nx).mono fun o _ _ ⟨a,b⟩=>⟨hq o a,b⟩
theorem E0(h:T ai)(nx:Key)(B:ai):Ext h nx (au nx (some B) h) nx.succ:=by have s1:=kTSu nx;exact⟨by omega,fun b hb=>by rw[aw hb]⟩
theorem Ext.put{h h':T ai}{nx nx' k:Key}{B:Option ai}(e:Ext h nx h' nx')(hk:nx.toNat≤k.toNat):Ext h nx (au k B h') nx':=
 ⟨e.n,fun b hb=>by rw[aw (by omega)];exact e.g b hb⟩
theorem Ext.up{h h':T ai}{nx nx' n2:Key}(e:Ext h nx h' nx')(hn:nx'.toNat≤n2.toNat):Ext h nx h' n2:=⟨by have:=e.n;omega,e.g⟩
section
variable{α:Type}
def ak(enc:α→List AV)(l:List α):List AV:=l.flatMap enc
structure Flat(z:Nat)(enc:α→List AV):Prop where
 len:∀x,(enc x).length=z
 zD:∀x,∀y∈enc x,FJ y
 cell:∀x,∀y∈enc x,AV.aQ y=true
 lits:∀x,AV.dA (enc x)=true
variable{z:Nat}{enc:α→List AV}
@[simp] theorem ai9(enc:α→List AV):ak enc []=[]:=rfl
theorem dc(enc:α→List AV)(x:α)(l:List α):ak enc (x ::l)=enc x++ak enc l:=rfl
theorem gZ(enc:α→List AV)(l m:List α):ak enc (l++m)=ak enc l++ak enc m:=by simp[ak]
theorem hJ(enc:α→List AV)(x:α):ak enc [x]=enc x:=by simp[ak]
theorem Flat.rows(F:Flat z enc):∀(l:List α),(ak enc l).length=l.length*z
 | []=>by simp
 |x ::l=>by rw[dc,xa,F.len,F.rows l,HW,Nat.add_mul,Nat.one_mul,Nat.add_comm]
theorem Flat.drop(F:Flat z enc):∀(l:List α) (i:Nat),(ak enc l).drop (i*z)=ak enc (l.drop i)
 |l,0=>by simp
 | [],i+1=>by simp
 |x ::l,i+1=>by
  have hx:(enc x).length=z:=F.len x;have hz:z≤(i+1)*z:=Nat.le_mul_of_pos_left _ (Nat.succ_pos _);have he:(i+1)*z-z=i*z:=by rw[Nat.add_mul,Nat.one_mul];omega
  rw[dc,zqq,List.drop_eq_nil_of_le (by omega),List.nil_append,hx,he,F.drop l i];simp
theorem Flat.take(F:Flat z enc):∀(l:List α) (i:Nat),(ak enc l).take (i*z)=ak enc (l.take i)
 |l,0=>by simp
 | [],i+1=>by simp
 |x ::l,i+1=>by
  have hx:(enc x).length=z:=F.len x;have hz:z≤(i+1)*z:=Nat.le_mul_of_pos_left _ (Nat.succ_pos _);have he:(i+1)*z-z=i*z:=by rw[Nat.add_mul,Nat.one_mul];omega
  rw[dc,zqw,PH (by omega),hx,he,F.take l i];simp[dc]
theorem Flat.at(F:Flat z enc){l:List α}{i:Nat}(hi:i<l.length):((ak enc l).drop (i*z)).take z=enc l[i]:=by rw[F.drop,zqt hi,dc,List.take_append_of_le_length (by rw[F.len];exact gi _),PH (by rw[F.len];exact gi _)]
theorem Flat.FB(F:Flat z enc)(l:List α):∀y∈ak enc l,FJ y:=by intro y hy;obtain⟨x,_,hx⟩:=List.mem_flatMap.1 hy;exact F.zD x y hx
theorem Flat.cells(F:Flat z enc)(l:List α):∀y∈ak enc l,AV.aQ y=true:=by intro y hy;obtain⟨x,_,hx⟩:=List.mem_flatMap.1 hy;exact F.cell x y hx
theorem Flat.aBS(F:Flat z enc)(l:List α):(ak enc l).all AV.aQ=true:=xM.2 (F.cells l)
theorem Flat.at1(F:Flat z enc)(l:List α):AV.dA (ak enc l)=true:=by refine abm fun y hy=>?_;obtain⟨x,_,hx⟩:=List.mem_flatMap.1 hy;exact jb (F.lits x) y hx
def qf(z:Nat)(enc:α→List AV)(c:AV)(l:List α):Prop:=(c=.nils∧l=[])∨c=.sl (ak enc l) l.length z .any
theorem qf.zD{c:AV}{l:List α}(h:qf z enc c l):FJ c:=by
 rcases h with⟨rfl,_⟩|rfl
 ·exact vh
 ·exact Nc _ _ _
theorem qf.cell{c:AV}{l:List α}(h:qf z enc c l):c.aQ=true∧c.cells=[c]:=by rcases h with⟨rfl,_⟩|rfl<;>exact⟨rfl,rfl⟩
end
structure App(c:AV)(l:List AV)(len sz:Nat)(h:T ai)(nx n0:Key):Prop where
 is:(c=.nils∧l=[]∧len=0)∨(∃b:Key,c=.slice b 0 len sz∧ag b h=some (.cells l .part)∧n0.toNat≤b.toNat∧b.toNat<nx.toNat∧l.length=len*sz)∨
  (∃t:Key,c=.sl l len sz (.tok t)∧ag t h=some .tok∧n0.toNat≤t.toNat∧t.toNat<nx.toNat)
section
variable{c:AV}{l new:List AV}{len sz m:Nat}{h h':T ai}{nx nx' n0:Key}
theorem App.nil(sz:Nat):App .nils [] 0 sz h nx n0:=⟨.inl ⟨rfl,rfl,rfl⟩⟩
theorem App.fH(ha:App c l len sz h nx n0)(h0:n0.toNat≤nx.toNat)(hn:new.length=m*sz)(hl:len+m≤1048576)(hc:new.all AV.aQ=true) :
  ∃c' h' nx',appendTo sz c new m h nx=.val c' h' nx'∧App c' (l++new) (len+m) sz h' nx' n0∧nx.toNat≤nx'.toNat∧(∀b:Key,b.toNat<n0.toNat→ag b h'=ag b h)∧∀b:Key,b.toNat<nx.toNat→(∀B,ag b h=some B→B≠.tok∧∀l,B≠.cells l .part)→ag b h'=ag b h:=by
 have s1:=kTSu nx;by_cases hm:m=0
 ·subst hm;have:new=[]:=zqr (by omega);subst this;rcases id ha.is with⟨rfl,rfl,rfl⟩|⟨b,rfl,hb,vk,dn,ZV⟩|⟨t,rfl,ht,vk,dn⟩
  ·exact⟨.nils,h,nx,by simp,by simpa using ha,gi _,fun _ _=>rfl,fun _ _ _=>rfl⟩
  ·exact⟨.slice b 0 len sz,h,nx,by have Rx:len≤1048576:=hl;simp[hb,Rx],by simpa using ha,gi _,fun _ _=>rfl,fun _ _ _=>rfl⟩
  ·exact⟨.sl l len sz (.tok t),h,nx,by simp,by simpa using ha,gi _,fun _ _=>rfl,fun _ _ _=>rfl⟩
 ·rcases id ha.is with⟨rfl,rfl,rfl⟩|⟨b,rfl,hb,vk,dn,ZV⟩|⟨t,rfl,ht,vk,dn⟩
  ·have NR:m≤1048576:=by omega
   exact⟨.slice nx 0 (0+m) sz,au nx (some (.cells new .part)) h,nx.succ,by simp[hm,NR],⟨.inr (.inl ⟨nx,rfl,by simp,by omega,by omega,by simpa using hn⟩)⟩,by omega,fun b hb=>aw (by omega),fun b hb _=>aw hb⟩
  ·cases hw:FR sz with
   |true=>
    refine⟨.slice nx 0 (len+m) sz,au nx (some (.cells (l++new) .part)) (au b none h),nx.succ,?_,⟨.inr (.inl ⟨nx,rfl,by simp,by omega,by omega,by rw[xa,ZV,hn,Nat.add_mul]⟩)⟩,by omega,fun x hx=>?_,fun x hx hk=>?_⟩
    ·simp[hl,hc,hb,ZV,hm,hw]
    ·rw[aw (by omega),aw (by omega)]
    ·rw[aw hx,aD];rintro rfl;exact(hk _ hb).2 l rfl
   |false=>
    refine⟨.sl (l++new) (len+m) sz (.tok nx),au nx (some .tok) (au b none h),nx.succ,?_,⟨.inr (.inr ⟨nx,rfl,by simp,by omega,by omega⟩)⟩,by omega,fun x hx=>?_,fun x hx hk=>?_⟩
    ·simp[hl,hc,hb,ZV,hm,hw]
    ·rw[aw (by omega),aw (by omega)]
    ·rw[aw hx,aD];rintro rfl;exact(hk _ hb).2 l rfl
  ·refine⟨.sl (l++new) (len+m) sz (.tok nx),au nx (some .tok) (au t none h),nx.succ,?_,⟨.inr (.inr ⟨nx,rfl,by simp,by omega,by omega⟩)⟩,by omega,fun x hx=>?_,fun x hx hk=>?_⟩
   ·simp[hl,hc,ht,hm]
   ·rw[aw (by omega),aw (by omega)]
   ·rw[aw hx,aD];rintro rfl;exact(hk _ ht).1 rfl
theorem App.keep(ha:App c l len sz h nx n0)(hn:nx.toNat≤nx'.toNat)(hg:∀b:Key,b.toNat<nx.toNat→(ag b h=some .tok∨∃l,ag b h=some (.cells l .part))→ag b h'=ag b h):App c l len sz h' nx' n0:=by
 refine⟨?_⟩;rcases ha.is with⟨rfl,rfl,rfl⟩|⟨b,rfl,hb,vk,dn,ZV⟩|⟨t,rfl,ht,vk,dn⟩
 ·exact .inl ⟨rfl,rfl,rfl⟩
 ·exact .inr (.inl ⟨b,rfl,by rw[hg b dn (.inr ⟨_,hb⟩)];exact hb,vk,by omega,ZV⟩)
 ·exact .inr (.inr ⟨t,rfl,by rw[hg t dn (.inl ht)];exact ht,vk,by omega⟩)
theorem App.ext(ha:App c l len sz h nx n0)(e:Ext h nx h' nx'):App c l len sz h' nx' n0:=ha.keep e.n fun b hb _=>e.g b hb
theorem App.cell(ha:App c l len sz h nx n0):c.aQ=true∧c.cells=[c]:=by rcases ha.is with⟨rfl,rfl,rfl⟩|⟨b,rfl,_⟩|⟨t,rfl,_⟩<;>exact⟨rfl,rfl⟩
theorem App.set{k:Key}{B:Option ai}(ha:App c l len sz h nx n0)(hk:∀B,ag k h=some B→B≠.tok∧∀l,B≠.cells l .part):App c l len sz (au k B h) nx n0:=
 ha.keep (gi _) fun b _ hx=>aD _ _ _ _ fun e=>by
  subst e;rcases hx with hx|⟨l,hx⟩
  ·exact(hk _ hx).1 rfl
  ·exact(hk _ hx).2 _ rfl
theorem App.ajs(ha:App c l len sz h nx n0)(orc:jK){tm:T AV}{k:Key}(hk:ag k tm=some c):lightOp orc (.lenL (.t k)) tm h=some (I len):=by rcases ha.is with⟨rfl,rfl,rfl⟩|⟨b,rfl,_⟩|⟨t,rfl,_⟩<;>simp[hk]
theorem App.anU(ha:App c l len sz h nx n0)(hs:∀y∈l,FJ y)(n:Nat) :
  ((aO (n+1) c h).1=.nils∧l=[]∧len=0∨(aO (n+1) c h).1=.sl l len sz .any)∧∀b:Key,b.toNat<n0.toNat→ag b (aO (n+1) c h).2=ag b h:=by
 rcases ha.is with⟨rfl,rfl,rfl⟩|⟨b,rfl,hb,vk,dn,ZV⟩|⟨t,rfl,ht,vk,dn⟩
 ·exact⟨.inl ⟨rfl,rfl,rfl⟩,fun _ _=>rfl⟩
 ·rw[pD hb ZV hs];exact⟨.inr rfl,fun x hx=>aw (by omega)⟩
 ·exact⟨.inr rfl,fun _ _=>rfl⟩
theorem App.aaM{α:Type}{enc:α→List AV}(F:Flat sz enc){us:List α}(ha:App c (ak enc us) us.length sz h nx n0)(n:Nat) :
  qf sz enc (aO (n+1) c h).1 us∧∀b:Key,b.toNat<n0.toNat→ag b (aO (n+1) c h).2=ag b h:=by
 obtain⟨h1,h2⟩:=ha.anU (F.FB us) n;refine⟨?_,h2⟩;rcases h1 with⟨e,_,e3⟩|e
 ·exact .inl ⟨e,zqr e3⟩
 ·exact .inr e
theorem App.Q9{α:Type}{enc:α→List AV}(F:Flat sz enc){us:List α}(ha:App c (ak enc us) us.length sz h nx n0)(h0:n0.toNat≤nx.toNat)(hl:us.length+1≤1048576)(x:α) :
  ∃c' h' nx',appendTo sz c (enc x) 1 h nx=.val c' h' nx'∧App c' (ak enc (us ++ [x])) (us ++ [x]).length sz h' nx' n0∧nx.toNat≤nx'.toNat∧(∀b:Key,b.toNat<n0.toNat→ag b h'=ag b h)∧∀b:Key,b.toNat<nx.toNat→(∀B,ag b h=some B→B≠.tok∧∀l,B≠.cells l .part)→ag b h'=ag b h:=by
 obtain⟨c',h',nx',a,b,c,d,e⟩:=ha.fH (new:=enc x) (m:=1) h0 (by rw[F.len,Nat.one_mul]) hl (xM.2 (F.cell x));exact⟨c',h',nx',a,by rw[gZ,hJ,xa];exact b,c,d,e⟩
end
end Go.Sx
