/- A part of the proof. No condition. -/
import Derived.Test.YtecbfpngkfdkoaaGreatP5
set_option linter.unusedSimpArgs false
set_option linter.unusedVariables false
set_option linter.unusedSectionVars false
namespace Go.Sx
open Go.RowKit
inductive Ex where
 |norm
 |ret
 |exit (id:Nat)
 |pan (a:AV)
def Aft(af:oG)(k:List dJ):Ex→T AV→oG→Prop
 |.norm,tm,fr=>fr={af with tm:=tm,todo:=k}
 |.ret,tm,fr=>∃t,fr={af with tm:=tm,todo:=.code .ret ::t}
 |.exit id,tm,fr=>∃k2,oV id k2=oV id k∧fr={af with tm:=tm,todo:=.code (.exit id) ::k2}
 |.pan a,tm,fr=>fr={af with tm:=tm,todo:=[],mode:=.pan a false}
def Lv:Option Nat→aL
 |none=>.ret
 |some i=>.exit i
abbrev cJ:=Ex→T AV→T ag→Key→Prop
def Stop(Q:cJ)(af:oG)(k:List dJ)(cs:List oG)(m:AM):Prop:=∃e tm' h' nx' fr,Q e tm' h' nx'∧Aft af k e tm' fr∧m=⟨fr,cs,h',nx'⟩
def WI(C:bU)(x:dJ)(Q:cJ)(tm:T AV)(h:T ag)(nx:Key):Prop:=
 ∀(af:oG) (k:List dJ) (cs:List oG),af.mode=.run→True→Ev C (Stop Q af k cs) ⟨{af with tm:=tm,todo:=x ::k},cs,h,nx⟩
abbrev W(C:bU)(c:aL):cJ→T AV→T ag→Key→Prop:=WI C (.code c)
section
variable{C:bU}{Q Q':cJ}{tm:T AV}{h:T ag}{nx:Key}
theorem WI.mono{x:dJ}(hw:WI C x Q tm h nx)(hq:∀e tm h nx,Q e tm h nx→Q' e tm h nx):WI C x Q' tm h nx:=by intro af k cs h1 h2;refine(hw af k cs h1 h2).mono ?_;rintro m ⟨e,tm',h',nx',fr,q,a,t⟩;exact⟨e,tm',h',nx',fr,hq _ _ _ _ q,a,t⟩
theorem bH{m:AM}{r:SR}(hm:m.fr.mode=.run)(hr:cV C m.fr m.cs m.h m.nx=r):kj C m=r:=by unfold kj;simp only[hm];exact hr
theorem Stop.not{y:dJ}{af:oG}{k:List dJ}{cs cs2:List oG}(hy:∀i,y≠.code (Lv i))(h1:af.mode=.run):¬Stop Q af k cs ⟨{af with tm:=tm,todo:=y ::k},cs2,h,nx⟩:=by
 rintro⟨e,tm',h',nx',fr,q,a,t⟩;simp only[AM.mk.injEq]at t;obtain⟨e0,_⟩:=t;cases e with
 |norm=>cases a;simp at e0
 |ret=>obtain⟨_,rfl⟩:=a;simp at e0;exact hy none e0.2.1
 |exit id=>obtain⟨_,_,rfl⟩:=a;simp at e0;exact hy (some id) e0.2.1
 |pan a'=>cases a;simp at e0
theorem WI.to{x y:dJ}(hs:∀(af:oG) (k:List dJ) (cs:List oG),af.mode=.run→True→cV C {af with tm:=tm,todo:=x ::k} cs h nx=.next ⟨{af with tm:=tm,todo:=y ::k},cs,h,nx⟩)(hw:WI C y Q tm h nx):WI C x Q tm h nx:=by intro af k cs h1 h2;exact .step (bH h1 (hs af k cs h1 h2)) (hw af k cs h1 h2)
theorem W.skip(hq:Q .norm tm h nx):W C .skip Q tm h nx:=by intro af k cs h1 h2;exact .step (bH h1 rfl) (.now ⟨.norm,tm,h,nx,_,hq,rfl,rfl⟩)
theorem W.ret(hq:Q .ret tm h nx):W C .ret Q tm h nx:=by intro af k cs h1 h2;exact .now ⟨.ret,tm,h,nx,_,hq,⟨k,rfl⟩,rfl⟩
theorem W.exit{id:Nat}(hq:Q (.exit id) tm h nx):W C (.exit id) Q tm h nx:=by intro af k cs h1 h2;exact .now ⟨.exit id,tm,h,nx,_,hq,⟨k,rfl,rfl⟩,rfl⟩
theorem W.seq{a b:aL}(hw:W C a (fun e tm h nx=>match e with|.norm=>W C b Q tm h nx|e=>Q e tm h nx) tm h nx):W C (.seq a b) Q tm h nx:=by
 intro af k cs h1 h2;refine .step (m':=⟨{af with tm:=tm,todo:=.code a ::.code b ::k},cs,h,nx⟩) (bH h1 rfl) ((hw af (.code b ::k) cs h1 h2).bind ?_);rintro m ⟨e,tm',h',nx',fr,q,ha,rfl⟩;cases e with
 |norm=>cases ha;refine(q {af with tm:=tm'} k cs h1 h2).mono ?_;rintro m ⟨e2,tm2,hh2,aN,MZ,q2,a2,t2⟩;refine⟨e2,tm2,hh2,aN,MZ,q2,?_,t2⟩;cases e2<;>exact a2
 |ret=>exact .now ⟨.ret,tm',h',nx',fr,q,ha,rfl⟩
 |exit id=>obtain⟨k2,e1,e2⟩:=ha;exact .now ⟨.exit id,tm',h',nx',fr,q,⟨k2,e1,e2⟩,rfl⟩
 |pan a=>exact .now ⟨.pan a,tm',h',nx',fr,q,ha,rfl⟩
theorem W.cond{x:PX}{a b:aL}{t:Bool}(hx:x.at tm=some (.bool t))(hw:W C (if t then a else b) Q tm h nx):W C (.cond x a b) Q tm h nx:=by refine WI.to (y:=.code (if t then a else b)) ?_ hw;intro af k cs h1 h2;simp only[cV,hx];cases t<;>rfl
theorem W.block{id:Nat}{c:aL}(hw:W C c (fun e tm h nx=>match e with|.exit j=>if j=id then Q .norm tm h nx else Q (.exit j) tm h nx|e=>Q e tm h nx) tm h nx):W C (.block id c) Q tm h nx:=by
 intro af k cs h1 h2;refine .step (m':=⟨{af with tm:=tm,todo:=.code c ::.inBlock id ::k},cs,h,nx⟩) (bH h1 rfl) ((hw af (.inBlock id ::k) cs h1 h2).bind ?_);rintro m ⟨e,tm',h',nx',fr,q,ha,rfl⟩;cases e with
 |norm=>cases ha;exact .step (bH h1 rfl) (.now ⟨.norm,tm',h',nx',_,q,rfl,rfl⟩)
 |ret=>exact .now ⟨.ret,tm',h',nx',fr,q,ha,rfl⟩
 |exit j=>
  obtain⟨k2,e1,rfl⟩:=ha;by_cases hj:j=id
  ·subst hj;simp only[if_true]at q;refine .step (m':=⟨{af with tm:=tm',todo:=k},cs,h',nx'⟩) (bH h1 ?_) (.now ⟨.norm,tm',h',nx',_,q,rfl,rfl⟩);simp only[cV,e1,oV,beqN_eq,decide_true,cond_true]
  ·simp only[if_neg hj]at q;refine .now ⟨.exit j,tm',h',nx',_,q,⟨k2,?_,rfl⟩,rfl⟩;rw[e1];simp only[oV,beqN_eq,show ¬id=j from fun e=>hj e.symm,decide_false,cond_false]
 |pan a=>exact .now ⟨.pan a,tm',h',nx',fr,q,ha,rfl⟩
theorem W.loop{c:aL}(Inv:Nat→T AV→T ag→Key→Prop)
  (hw:∀n tm h nx,Inv n tm h nx→W C c (fun e tm h nx=>match e with|.norm=>∃m,m<n∧Inv m tm h nx|e=>Q e tm h nx) tm h nx) {n:Nat} (hi:Inv n tm h nx):W C (.loop c) Q tm h nx:=by
 have key:∀(n:Nat) (tm:T AV) (h:T ag) (nx:Key),Inv n tm h nx→WI C (.inLoop c) Q tm h nx:=by
  intro n
  induction n using Nat.strongRecOn with
  |_ n ih=>
   intro tm h nx hi af k cs h1 h2;refine .step (m':=⟨{af with tm:=tm,todo:=.code c ::.inLoop c ::k},cs,h,nx⟩) (bH h1 rfl) ((hw n tm h nx hi af (.inLoop c ::k) cs h1 h2).bind ?_);rintro m ⟨e,tm',h',nx',fr,q,ha,rfl⟩;cases e with
   |norm=>cases ha;obtain⟨m,hm,him⟩:=q;refine(ih m hm tm' h' nx' him {af with tm:=tm'} k cs h1 h2).mono ?_;rintro m ⟨e2,tm2,hh2,aN,MZ,q2,a2,t2⟩;refine⟨e2,tm2,hh2,aN,MZ,q2,?_,t2⟩;cases e2<;>exact a2
   |ret=>exact .now ⟨.ret,tm',h',nx',fr,q,ha,rfl⟩
   |exit id=>obtain⟨k2,e1,e2⟩:=ha;exact .now ⟨.exit id,tm',h',nx',fr,q,⟨k2,e1,e2⟩,rfl⟩
   |pan a=>exact .now ⟨.pan a,tm',h',nx',fr,q,ha,rfl⟩
 intro af k cs h1 h2;exact Ev.same (by rw[bH (m:=⟨{af with tm:=tm,todo:=.inLoop c ::k},cs,h,nx⟩) h1 rfl,bH (m:=⟨{af with tm:=tm,todo:=.code (.loop c) ::k},cs,h,nx⟩) h1 rfl];rfl)
  (Stop.not (fun i e=>by cases i<;>cases e) h1) (key n tm h nx hi af k cs h1 h2)
inductive Out where
 |ret (v:AV)
 |pan (a:AV)
noncomputable def HF(C:bU)(f:Nat):Option gE:=bif Nat.beq (Key.gK 12 f).toNat f then ae (Key.gK 12 f) C.fns else none
def Left(C:bU)(f:Nat)(fr:oG)(h1:T ag)(o:Out)(h':T ag):Prop:=fr.dfs=[]∧match o with
 |.ret v=>fr.mode=.ret∧∃l,resultsA h1 fr.tm fr.res=some l∧v=qg (dd (C.nD f) l h1).1∧h'=(dd (C.nD f) l h1).2
 |.pan a=>fr.mode=.pan a false∧h'=h1
def aBN(C:bU)(f:Nat)(R:Out→T ag→Key→Prop)(cs:List oG)(m:AM):Prop:=∃o h' nx' fr h1,R o h' nx'∧fr.fn=f∧fr.GG=false∧Left C f fr h1 o h'∧m=⟨fr,cs,h1,nx'⟩
def aM(C:bU)(f:Nat)(l:List AV)(h:T ag)(nx:Key)(R:Out→T ag→Key→Prop):Prop:=
 (∃v h' nx',C.sum f l h nx=some (v,h',nx')∧R (.ret v) h' nx')∨
 (C.sum f l h nx=none∧∃p,HF C f=some p∧∀cs,Ev C (aBN C f R cs) ⟨ah f p l,cs,h,nx⟩)
theorem aM.mono{f:Nat}{l:List AV}{R R':Out→T ag→Key→Prop}(hc:aM C f l h nx R)(hr:∀o h nx,R o h nx→R' o h nx):aM C f l h nx R':=by
 rcases hc with⟨v,h',nx',h1,h2⟩|⟨h1,p,h2,h3⟩
 ·exact .inl ⟨v,h',nx',h1,hr _ _ _ h2⟩
 ·refine .inr ⟨h1,p,h2,fun cs=>(h3 cs).mono ?_⟩;rintro m ⟨o,h',nx',fr,h1,q,r⟩;exact⟨o,h',nx',fr,h1,hr _ _ _ q,r⟩
def Dj(C:bU)(f:Nat)(res:List RV)(R:Out→T ag→Key→Prop):cJ:=fun e tm h nx=>match e with
 |.norm|.ret=>∃l,resultsA h tm res=some l∧R (.ret (qg (dd (C.nD f) l h).1)) (dd (C.nD f) l h).2 nx
 |.pan a=>R (.pan a) h nx
 |.exit _=>False
theorem aM.acy{f:Nat}{p:gE}{l:List AV}{R:Out→T ag→Key→Prop}(hs:C.sum f l h nx=none)(hp:HF C f=some p)(hw:W C p.body (Dj C f p.res R) (iu l .z .nil) h nx):aM C f l h nx R:=by
 refine .inr ⟨hs,p,hp,fun cs=>(hw (ah f p l) [] cs rfl trivial).bind ?_⟩;rintro m ⟨e,tm',h',nx',fr,q,ha,rfl⟩;cases e with
 |norm=>cases ha;obtain⟨l1,hl,hr⟩:=q;exact .step (m':=⟨{ah f p l with tm:=tm',todo:=[],mode:=.ret},cs,h',nx'⟩) (bH rfl rfl) (.now ⟨_,_,nx',_,h',hr,rfl,rfl,⟨rfl,rfl,l1,hl,rfl,rfl⟩,rfl⟩)
 |ret=>obtain⟨t',rfl⟩:=ha;obtain⟨l1,hl,hr⟩:=q;exact .step (m':=⟨{ah f p l with tm:=tm',todo:=.code .ret ::t',mode:=.ret},cs,h',nx'⟩) (bH rfl rfl) (.now ⟨_,_,nx',_,h',hr,rfl,rfl,⟨rfl,rfl,l1,hl,rfl,rfl⟩,rfl⟩)
 |exit id=>exact q.elim
 |pan a=>cases ha;exact .now ⟨.pan a,h',nx',_,h',q,rfl,rfl,⟨rfl,rfl,rfl⟩,rfl⟩
theorem W.ops{l:List aB}(hw:WI C (.ops l) Q tm h nx):W C (.ops l) Q tm h nx:=
 WI.to (y:=.ops l) (fun _ _ _ _ _=>rfl) hw
theorem WI.asa{l:List aB}{tm':T AV}{h':T ag}{nx':Key}(hr:mE C.orc l tm h nx=.fin tm' h' nx')(hq:Q .norm tm' h' nx'):WI C (.ops l) Q tm h nx:=by intro af k cs h1 h2;refine .step (m':=⟨{af with tm:=tm',todo:=k},cs,h',nx'⟩) (bH h1 ?_) (.now ⟨.norm,tm',h',nx',_,hq,rfl,rfl⟩);simp only[cV,hr]
theorem WY{S:AM→Prop}{f:Nat}{args:List AV}{fr c:oG}{cs:List oG}{R:Out→T ag→Key→Prop}(hc:aM C f (dd (C.raw f) args h).1 (dd (C.raw f) args h).2 nx R)
  (PO:∀v,∃jk,dD v fr=some jk) (Di:fr.mode=.run) {m:AM} (hm:kj C m=kB C (.call f args) fr c cs h nx)
  (xK:∀v h' nx' jk,R (.ret v) h' nx'→dD v fr=some jk→Ev C S ⟨jk,cs,h',nx'⟩)
  (aov:∀a h' nx',R (.pan a) h' nx'→Ev C S ⟨{fr with mode:=.pan a false,todo:=[],tm:=(match fr.todo with|.staged _ d _ ::_=>J9 d.ds fr.tm (fun t=>t)|_=>fr.tm)},cs,h',nx'⟩):Ev C S m:=by
 rcases hc with⟨v,h',nx',hs,hr⟩|⟨hs,p,hp,fp⟩
 ·obtain⟨jk,hf⟩:=PO v;refine .step (m':=⟨jk,cs,h',nx'⟩) ?_ (xK v h' nx' jk hr hf);rw[hm];simp only[kB,zq,hs,hf]
 ·have hen:kj C m=.next ⟨ah f p (dd (C.raw f) args h).1,fr ::cs,(dd (C.raw f) args h).2,nx⟩:=by rw[hm];simp only[kB,zq,hs];unfold GH;have hp':(bif Nat.beq (Key.gK 12 f).toNat f then ae (Key.gK 12 f) C.fns else none)=some p:=hp;simp only[hp',DZ];rfl
  refine .step hen ((fp (fr ::cs)).bind ?_);rintro m2 ⟨o,h',nx',MZ,h1,hr,hfn,hdf,⟨hd,hL⟩,rfl⟩;cases o with
  |ret v=>obtain⟨Mm,l,hl,rfl,rfl⟩:=hL;obtain⟨jk,hf⟩:=PO (qg (dd (C.nD f) l h1).1);refine .step (m':=⟨jk,cs,(dd (C.nD f) l h1).2,nx'⟩) ?_ (xK _ _ nx' jk hr hf);unfold kj;simp only[Mm];unfold Bi;simp only[hd,Mm,hl,hfn,zq];unfold Lp;simp only[hdf,cond_false,hf]
  |pan a=>obtain⟨Mm,rfl⟩:=hL;refine .step ?_ (aov a h' nx' hr);unfold kj;simp only[Mm];unfold Bi;simp only[hd,Mm,Di];rfl
theorem WI.aow{l:List aB}{f:Nat}{args:List AV}{o:aB}{rest:List aB}{dF:T AV}{h1:T ag}{bW:Key}{R:Out→T ag→Key→Prop}(hr:mE C.orc l tm h nx=.ev (.call f args) (o ::rest) dF h1 bW)
  (hc:aM C f (dd (C.raw f) args h1).1 (dd (C.raw f) args h1).2 bW R)
  (xK:∀v h2 aN,R (.ret v) h2 aN→WI C (.ops rest) Q (cy o.dst v dF) h2 aN)
  (aov:∀a h2 aN,R (.pan a) h2 aN→Q (.pan a) dF h2 aN):WI C (.ops l) Q tm h nx:=by
 intro af k cs m1 m2;have fI:kj C ⟨{af with tm:=tm,todo:=.ops l ::k},cs,h,nx⟩=kB C (.call f args) {af with tm:=dF,todo:=.ops (o ::rest) ::k} {af with tm:=dF,todo:=[]} cs h1 bW:=by refine bH m1 ?_;simp only[cV,hr]
 have hfe:∀v,dD v {af with tm:=dF,todo:=.ops (o ::rest) ::k}=some {af with tm:=cy o.dst v dF,todo:=.ops rest ::k}:=fun v=>by simp only[dD,fW]
 refine WY (fr:={af with tm:=dF,todo:=.ops (o ::rest) ::k}) (c:={af with tm:=dF,todo:=[]}) (cs:=cs) hc (fun v=>⟨_,hfe v⟩) m1 fI ?_ ?_
 ·intro v h' nx' jk hR hf;rw[hfe]at hf;cases hf;refine(xK v h' nx' hR {af with tm:=cy o.dst v dF} k cs m1 m2).mono ?_;rintro m ⟨e2,tm2,hh2,aN,MZ,q2,a2,t2⟩;refine⟨e2,tm2,hh2,aN,MZ,q2,?_,t2⟩;cases e2<;>exact a2
 ·intro a h' nx' hR;exact .now ⟨.pan a,dF,h',nx',_,aov a h' nx' hR,rfl,rfl⟩
theorem W.staged{l:List aS}{d:SD}(hw:WI C (.staged l d []) Q tm h nx):W C (.staged l d) Q tm h nx:=
 WI.to (y:=.staged l d []) (fun _ _ _ _ _=>rfl) hw
theorem WI.aw3{l:List aS}{d:SD}{aq:List (Nat×Key×ag)}{tm':T AV}{h':T ag}{nx':Key}(hr:jA C.orc d.lD l aq tm h nx=.fin tm' h' nx')(hq:Q .norm tm' h' nx'):WI C (.staged l d aq) Q tm h nx:=by intro af k cs h1 h2;refine .step (m':=⟨{af with tm:=tm',todo:=k},cs,h',nx'⟩) (bH h1 ?_) (.now ⟨.norm,tm',h',nx',_,hq,rfl,rfl⟩);simp only[cV,hr]
theorem WI.asb{l:List aS}{d:SD}{aq Dx:List (Nat×Key×ag)}{f:Nat}{args:List AV}{i:Nat}{o:aB}{ad:List Nat}{rest:List aS}{dF:T AV}{h1:T ag}{bW:Key}{R:Out→T ag→Key→Prop}
  (hr:jA C.orc d.lD l aq tm h nx=.ev (.call f args) (.H i o ad ::rest) Dx dF h1 bW)
  (hc:aM C f (dd (C.raw f) args h1).1 (dd (C.raw f) args h1).2 bW R)
  (xK:∀v h2 aN,R (.ret v) h2 aN→WI C (.staged rest d Dx) Q (cy o.dst v dF) h2 aN)
  (aov:∀a h2 aN,R (.pan a) h2 aN→Q (.pan a) (lY d.ds dF) h2 aN):WI C (.staged l d aq) Q tm h nx:=by
 intro af k cs m1 m2;have fI:kj C ⟨{af with tm:=tm,todo:=.staged l d aq ::k},cs,h,nx⟩=kB C (.call f args) {af with tm:=dF,todo:=.staged (.H i o ad ::rest) d Dx ::k} {af with tm:=lY d.ds dF,todo:=[]} cs h1 bW:=by refine bH m1 ?_;simp only[cV,hr,sB]
 have hfe:∀v,dD v {af with tm:=dF,todo:=.staged (.H i o ad ::rest) d Dx ::k}=some {af with tm:=cy o.dst v dF,todo:=.staged rest d Dx ::k}:=fun v=>by simp only[dD,fW]
 refine WY (fr:={af with tm:=dF,todo:=.staged (.H i o ad ::rest) d Dx ::k}) (c:={af with tm:=lY d.ds dF,todo:=[]}) (cs:=cs) hc (fun v=>⟨_,hfe v⟩) m1 fI ?_ ?_
 ·intro v h' nx' jk hR hf;rw[hfe]at hf;cases hf;refine(xK v h' nx' hR {af with tm:=cy o.dst v dF} k cs m1 m2).mono ?_;rintro m ⟨e2,tm2,hh2,aN,MZ,q2,a2,t2⟩;refine⟨e2,tm2,hh2,aN,MZ,q2,?_,t2⟩;cases e2<;>exact a2
 ·intro a h' nx' hR;simp only[sB];exact .now ⟨.pan a,lY d.ds dF,h',nx',_,aov a h' nx' hR,rfl,rfl⟩
theorem WI.asc{l:List aB}{a:AV}{rest:List aB}{dF:T AV}{h1:T ag}{bW:Key}(hr:mE C.orc l tm h nx=.ev (.pan a) rest dF h1 bW)(hq:Q (.pan a) dF h1 bW):WI C (.ops l) Q tm h nx:=by intro af k cs m1 m2;refine .step (m':=⟨{af with tm:=dF,todo:=[],mode:=.pan a false},cs,h1,bW⟩) (bH m1 ?_) (.now ⟨.pan a,dF,h1,bW,_,hq,rfl,rfl⟩);simp only[cV,hr,kB]
noncomputable def asd:List Key→List AV→T AV→Option (T AV)
 | [],[],tm=>some tm
 |k ::l,v ::m,tm=>asd l m (au k (some v) tm)
 |_,_,_=>none
theorem acB{R:Type}:∀(l:List Key) (m:List AV) (tm:T AV) (bad:R) (c:T AV→R),XB l m tm bad c=match asd l m tm with|some tm=>c tm|none=>bad
 | [],[],_,_,_=>rfl
 | [],_ ::_,_,_,_=>rfl
 |_ ::_,[],_,_,_=>rfl
 |k ::l,v ::m,tm,bad,c=>by show xZ k (some v) tm (fun tm=>XB l m tm bad c)=_;rw[sTCe];exact acB l m _ bad c
def HS(R:Out→T ag→Key→Prop)(l:Key)(fn:Nat)(tm:T AV)(res:List RV)(ps:List Key)(a b:aL)(d:Key):cJ:=fun e _ h nx=>(∃p,ae l h=some (.loop .busy p fn tm res ps a b d))∧match e with
 |.norm=>R (.ret (.bool true)) (au l (some (.loop .ready none fn tm res ps a b d)) h) nx
 |.ret=>R (.ret (.bool false)) (au l (some (.loop .done (some .ret) fn tm res ps a b d)) h) nx
 |.exit i=>R (.ret (.bool false)) (au l (some (.loop .done (some (.exit i)) fn tm res ps a b d)) h) nx
 |.pan _=>False
def AU(C:bU)(l:Key)(args:List AV)(h:T ag)(nx:Key)(R:Out→T ag→Key→Prop):Prop:=
 ∃fn tm res ps a b d,(∃p,ae l h=some (.loop .ready p fn tm res ps a b d))∧∃dF,asd ps args tm=some dF∧
  W C a (fun e tm2 h2 aN=>e=.norm∧∃p,ae l h2=some (.loop .ready p fn tm res ps a b d)∧W C b (HS R l fn tm res ps a b d) tm2 (au l (some (.loop .busy p fn tm res ps a b d)) h2) aN) dF h nx
theorem H7{jump:Option aL}{fr c c':oG}{cs:List oG}{l:Key}{st:LS}{p:Option aL}{fn:Nat}{dF:T AV}{res:List RV}{ps:List Key}{a b:aL}{d:Key}(hr:fr.wI=some l)(hl:ae l h=some (.loop st p fn dF res ps a b d))
  (hf:dD (.bool (match jump with|none=>true|some _=>false)) c=some c'):Kh jump fr (c ::cs) h nx=.next ⟨c',cs,au l (some (.loop (match jump with|none=>.ready|some _=>.done) jump fn dF res ps a b d)) h,nx⟩:=by
 unfold Kh;rw[hr];dsimp only;rw[hl];cases jump with
 |none=>have hf:dD (.bool true) c=some c':=hf;simp only[sTCe,hf]
 |some j=>have hf:dD (.bool false) c=some c':=hf;simp only[sTCe,hf]
theorem acC{S:AM→Prop}{l:Key}{args:List AV}{fr c:oG}{cs:List oG}{R:Out→T ag→Key→Prop}(hc:AU C l args h nx R)
  (PO:∀v,∃jk,dD v fr=some jk) {m:AM} (hm:kj C m=kB C (.yld l args) fr c cs h nx)
  (xK:∀v h' nx' jk,R (.ret v) h' nx'→dD v fr=some jk→Ev C S ⟨jk,cs,h',nx'⟩):Ev C S m:=by
 obtain⟨fn,tm,res,ps,a,b,d,⟨p,hl⟩,dF,hz,hw⟩:=hc;refine .step (m':=⟨{fn:=fn,tm:=dF,todo:=[.code a,.beginRound,.code b],dfs:=[],mode:=.run,GG:=false,wI:=some l,res:=res},fr ::cs,h,nx⟩) ?_ ?_
 ·rw[hm];simp only[kB,hl,acB,hz]
 ·refine(hw {fn:=fn,tm:=dF,todo:=[],dfs:=[],mode:=.run,GG:=false,wI:=some l,res:=res} [.beginRound,.code b] (fr ::cs) rfl trivial).bind ?_;rintro m2 ⟨e,tm2,h2,aN,MZ,⟨rfl,p2,Wm,Zp⟩,ha,rfl⟩;cases ha;refine .step (m':=⟨{fn:=fn,tm:=tm2,todo:=[.code b],dfs:=[],mode:=.run,GG:=false,wI:=some l,res:=res},fr ::cs,au l (some (.loop .busy p2 fn tm res ps a b d)) h2,aN⟩) (bH rfl ?_) ?_
  ·simp only[cV,Wm,sTCe]
  ·refine(Zp {fn:=fn,tm:=tm2,todo:=[],dfs:=[],mode:=.run,GG:=false,wI:=some l,res:=res} [] (fr ::cs) rfl trivial).bind ?_;rintro m3 ⟨e,K1,h3,bP,fr3,⟨⟨p3,hl3⟩,q⟩,ha,rfl⟩;cases e with
   |norm=>cases ha;obtain⟨jk,hf⟩:=PO (.bool true);refine .step (m':=⟨jk,cs,_,bP⟩) (bH rfl ?_) (xK _ _ bP jk q hf);exact H7 (jump:=none) (fr:={fn:=fn,tm:=K1,todo:=[],dfs:=[],mode:=.run,GG:=false,wI:=some l,res:=res}) rfl hl3 hf
   |ret=>obtain⟨t,rfl⟩:=ha;obtain⟨jk,hf⟩:=PO (.bool false);refine .step (m':=⟨jk,cs,_,bP⟩) (bH rfl ?_) (xK _ _ bP jk q hf);exact H7 (jump:=some .ret) (fr:={fn:=fn,tm:=K1,todo:=.code .ret ::t,dfs:=[],mode:=.run,GG:=false,wI:=some l,res:=res}) rfl hl3 hf
   |exit i=>obtain⟨k2,hk,rfl⟩:=ha;obtain⟨jk,hf⟩:=PO (.bool false);refine .step (m':=⟨jk,cs,_,bP⟩) (bH rfl ?_) (xK _ _ bP jk q hf);have hk:oV i k2=none:=hk;simp only[cV,hk];exact H7 (jump:=some (.exit i)) (fr:={fn:=fn,tm:=K1,todo:=.code (.exit i) ::k2,dfs:=[],mode:=.run,GG:=false,wI:=some l,res:=res}) rfl hl3 hf
   |pan a=>exact q.elim
theorem WI.ase{l:List aB}{lk:Key}{args:List AV}{o:aB}{rest:List aB}{dF:T AV}{h1:T ag}{bW:Key}{R:Out→T ag→Key→Prop}(hr:mE C.orc l tm h nx=.ev (.yld lk args) (o ::rest) dF h1 bW)
  (hc:AU C lk args h1 bW R) (xK:∀v h2 aN,R (.ret v) h2 aN→WI C (.ops rest) Q (cy o.dst v dF) h2 aN):WI C (.ops l) Q tm h nx:=by
 intro af k cs m1 m2;have fI:kj C ⟨{af with tm:=tm,todo:=.ops l ::k},cs,h,nx⟩=kB C (.yld lk args) {af with tm:=dF,todo:=.ops (o ::rest) ::k} {af with tm:=dF,todo:=[]} cs h1 bW:=by refine bH m1 ?_;simp only[cV,hr]
 have hfe:∀v,dD v {af with tm:=dF,todo:=.ops (o ::rest) ::k}=some {af with tm:=cy o.dst v dF,todo:=.ops rest ::k}:=fun v=>by simp only[dD,fW]
 refine acC (fr:={af with tm:=dF,todo:=.ops (o ::rest) ::k}) (c:={af with tm:=dF,todo:=[]}) (cs:=cs) hc (fun v=>⟨_,hfe v⟩) fI ?_;intro v h' nx' jk hR hf;rw[hfe]at hf;cases hf;refine(xK v h' nx' hR {af with tm:=cy o.dst v dF} k cs m1 m2).mono ?_;rintro m ⟨e2,tm2,hh2,aN,MZ,q2,a2,t2⟩;refine⟨e2,tm2,hh2,aN,MZ,q2,?_,t2⟩;cases e2<;>exact a2
theorem WI.aw4{l:List aS}{d:SD}{aq Dx:List (Nat×Key×ag)}{lk:Key}{args:List AV}{i:Nat}{o:aB}{ad:List Nat}{rest:List aS}{dF:T AV}{h1:T ag}{bW:Key}{R:Out→T ag→Key→Prop}
  (hr:jA C.orc d.lD l aq tm h nx=.ev (.yld lk args) (.H i o ad ::rest) Dx dF h1 bW)
  (hc:AU C lk args h1 bW R) (xK:∀v h2 aN,R (.ret v) h2 aN→WI C (.staged rest d Dx) Q (cy o.dst v dF) h2 aN):WI C (.staged l d aq) Q tm h nx:=by
 intro af k cs m1 m2;have fI:kj C ⟨{af with tm:=tm,todo:=.staged l d aq ::k},cs,h,nx⟩=kB C (.yld lk args) {af with tm:=dF,todo:=.staged (.H i o ad ::rest) d Dx ::k} {af with tm:=lY d.ds dF,todo:=[]} cs h1 bW:=by refine bH m1 ?_;simp only[cV,hr,sB]
 have hfe:∀v,dD v {af with tm:=dF,todo:=.staged (.H i o ad ::rest) d Dx ::k}=some {af with tm:=cy o.dst v dF,todo:=.staged rest d Dx ::k}:=fun v=>by simp only[dD,fW]
 refine acC (fr:={af with tm:=dF,todo:=.staged (.H i o ad ::rest) d Dx ::k}) (c:={af with tm:=lY d.ds dF,todo:=[]}) (cs:=cs) hc (fun v=>⟨_,hfe v⟩) fI ?_;intro v h' nx' jk hR hf;rw[hfe]at hf;cases hf;refine(xK v h' nx' hR {af with tm:=cy o.dst v dF} k cs m1 m2).mono ?_;rintro m ⟨e2,tm2,hh2,aN,MZ,q2,a2,t2⟩;refine⟨e2,tm2,hh2,aN,MZ,q2,?_,t2⟩;cases e2<;>exact a2
end
end Go.Sx
namespace Go.Sx
def K(n:Nat):Key:=bif Nat.blt n 4095 then Key.gK 12 n else Key.gK n n
theorem tP:∀(f n:Nat),n+1<2^(f+1)→(Key.gK f n).toNat=n
 |0,n,h=>by
  have:n=0:=by omega
  subst this;rfl
 |f+1,n,h=>by
  unfold Key.gK;have hp:2^(f+1+1)=2*2^(f+1):=by rw[Nat.pow_succ,Nat.mul_comm]
  cases h0:Nat.beq n 0 with
  |true=>have:=qX h0;subst this;rfl
  |false=>
   have hn:n≠0:=by intro e;subst e;cases h0
   simp only[cond_false];cases h1:Nat.beq (n%2) 1 with
   |true=>have h1:=qX h1;simp only[cond_true,Key.toNat,tP f (n / 2) (by omega)];omega
   |false=>
    have h1:n%2≠1:=by intro e;rw[e]at h1;cases h1
    simp only[cond_false,Key.toNat,tP f (n / 2-1) (by omega)];omega
theorem fK(n:Nat):(K n).toNat=n:=by
 unfold K;cases h:Nat.blt n 4095 with
 |true=>rw[bltN_eq,decide_eq_true_eq]at h;exact tP 12 n (by omega)
 |false=>refine tP n n ?_;have:n+1<2^(n+1):=Nat.lt_two_pow_self;exact this
theorem Oy{i j:Nat}(h:K i=K j):i=j:=by rw[←fK i,←fK j,h]
theorem awe(n:Nat):(K n).succ=K (n+1):=Key.toNat_inj (by rw[kTSu,fK,fK])
theorem get_set_K{α:Type}(i j:Nat)(v:Option α)(t:T α):ae (K i) (au (K j) v t)=if i=j then v else ae (K i) t:=by
 by_cases h:i=j
 ·subst h;rw[if_pos rfl,gTSm]
 ·rw[if_neg h,aG _ _ _ _ (fun e=>h (Oy e))]
section
variable{orc:jZ}{tm:T AV}{h:T ag}{nx:Key}
theorem at_t(k:Key):(PX.t k).at tm=ae k tm:=rfl
theorem at_v(a:AV):(PX.v a).at tm=some a:=rfl
theorem agc:mE orc [] tm h nx=.fin tm h nx:=rfl
theorem putTm_some(k:Key)(v:AV):cy (some k) v tm=au k (some v) tm:=rfl
theorem putTm_none(v:AV):cy none v tm=tm:=rfl
theorem wants_none:dp none tm=some true:=rfl
theorem wants_some(k:Key)(b:Bool):dp (some (k,b)) tm=match ae k tm with
  |some (.bool c)=>some (c==b)
  |some (.tuple [])=>some false
  |_=>none:=rfl
theorem ltI_dec(a b:Int):Ke a b=decide (a<b):=KB a b
theorem aH{n:Int}(h1:-9223372036854775808≤n)(h2:n<9223372036854775808):bF .i64 n=n:=by
 rw[jE];have:IntKind.wrap .i64 n=n:=by
  rw[←jE];simp only[bF,full,half,KB];have h3:Int.emod n 18446744073709551616=n%18446744073709551616:=rfl;rw[h3];by_cases h0:0≤n
  ·rw[show n%18446744073709551616=n by omega];have:decide (n<9223372036854775808)=true:=by simpa using h2
   rw[this];rfl
  ·rw[show n%18446744073709551616=n+18446744073709551616 by omega];have:decide (n+18446744073709551616<9223372036854775808)=false:=by simp;omega
   rw[this];show n+18446744073709551616-18446744073709551616=n;omega
 exact this
end
end Go.Sx
namespace Go.Sx
open Go.RowKit
def wpG(t:Option Bool)(A B:Prop):Prop:=match t with
 |none=>False
 |some t=>(t=true→A)∧(t=false→B)
noncomputable def ns(C:bU)(Q:cJ):List aB→T AV→T ag→Key→Prop
 | [],tm,h,nx=>Q .norm tm h nx
 |o ::l,tm,h,nx=>wpG (dp o.guard tm)
   (match aOp C.orc o.op tm h nx with
   |.val v h nx=>ns C Q l (cy o.dst v tm) h nx
   |.call f args=>aM C f (dd (C.raw f) args h).1 (dd (C.raw f) args h).2 nx (fun out h nx=>match out with
    |.ret v=>ns C Q l (cy o.dst v tm) h nx
    |.pan a=>Q (.pan a) tm h nx)
   |.yld k args=>AU C k args h nx (fun out h nx=>match out with
    |.ret v=>ns C Q l (cy o.dst v tm) h nx
    |.pan a=>Q (.pan a) tm h nx)
   |.pan a=>Q (.pan a) tm h nx
   |_=>False)
   (ns C Q l (cy o.dst (.tuple []) tm) h nx)
noncomputable def wpS(C:bU)(Q:cJ)(d:SD):List aS→List (Nat×Key×ag)→T AV→T ag→Key→Prop
 | [],aq,tm,h,nx=>Q .norm tm (dO aq h) nx
 |.L i o ::l,aq,tm,h,nx=>wpG (dp o.guard tm)
   (match lightOp C.orc o.op tm (zF (F4 i d.lD) aq h)with
   |some v=>wpS C Q d l aq (cy o.dst v tm) h nx
   |none=>False)
   (wpS C Q d l aq (cy o.dst (.tuple []) tm) h nx)
 |.A i o ::l,aq,tm,h,nx=>wpG (dp o.guard tm)
   (match allocOp o.op tm with
   |some (v,b)=>wpS C Q d l ((i,nx,b) ::aq) (cy o.dst (v nx) tm) h nx.succ
   |none=>False)
   (wpS C Q d l aq (cy o.dst (.tuple []) tm) h nx)
 |.H i o ad ::l,aq,tm,h,nx=>wpG (dp o.guard tm)
   (match aOp C.orc o.op tm (dO (aq.filter fun x=>memN x.1 ad) h) nx with
   |.val v h nx=>wpS C Q d l (aq.filter fun x=>!(memN x.1 ad)) (cy o.dst v tm) h nx
   |.call f args=>aM C f (dd (C.raw f) args (dO (aq.filter fun x=>memN x.1 ad) h)).1 (dd (C.raw f) args (dO (aq.filter fun x=>memN x.1 ad) h)).2 nx (fun out h nx=>match out with
    |.ret v=>wpS C Q d l (aq.filter fun x=>!(memN x.1 ad)) (cy o.dst v tm) h nx
    |.pan a=>Q (.pan a) (lY d.ds tm) h nx)
   |.yld k args=>AU C k args (dO (aq.filter fun x=>memN x.1 ad) h) nx (fun out h nx=>match out with
    |.ret v=>wpS C Q d l (aq.filter fun x=>!(memN x.1 ad)) (cy o.dst v tm) h nx
    |.pan a=>Q (.pan a) (lY d.ds tm) h nx)
   |.pan a=>Q (.pan a) (lY d.ds tm) (dO (aq.filter fun x=>memN x.1 ad) h) nx
   |_=>False)
   (wpS C Q d l (aq.filter fun x=>!(memN x.1 ad)) (cy o.dst (.tuple []) tm) (dO (aq.filter fun x=>memN x.1 ad) h) nx)
 |.R os ::l,aq,tm,h,nx=>recheck C.orc d.lD aq tm h os=true∧wpS C Q d l aq tm h nx
def aO(W:T AV→T ag→Key→Prop)(Q:cJ):cJ:=fun e tm h nx=>match e with
 |.norm=>W tm h nx
 |e=>Q e tm h nx
def az(id:Nat)(Q:cJ):cJ:=fun e tm h nx=>match e with
 |.exit j=>if j=id then Q .norm tm h nx else Q (.exit j) tm h nx
 |e=>Q e tm h nx
noncomputable def fJ(C:bU):aL→cJ→T AV→T ag→Key→Prop
 |.skip,Q,tm,h,nx=>Q .norm tm h nx
 |.ops l,Q,tm,h,nx=>ns C Q l tm h nx
 |.staged l d,Q,tm,h,nx=>wpS C Q d l [] tm h nx
 |.seq a b,Q,tm,h,nx=>fJ C a (aO (fJ C b Q) Q) tm h nx
 |.cond x a b,Q,tm,h,nx=>match x.at tm with
  |some (.bool t)=>(t=true→fJ C a Q tm h nx)∧(t=false→fJ C b Q tm h nx)
  |_=>False
 |.block id c,Q,tm,h,nx=>fJ C c (az id Q) tm h nx
 |.loop c,Q,tm,h,nx=>W C (.loop c) Q tm h nx
 |.rangeF f ps a b,Q,tm,h,nx=>W C (.rangeF f ps a b) Q tm h nx
 |.exit id,Q,tm,h,nx=>Q (.exit id) tm h nx
 |.ret,Q,tm,h,nx=>Q .ret tm h nx
section
variable{C:bU}{Q:cJ}
theorem WI.same{x y:dJ}{tm tm2:T AV}{h h2:T ag}{nx aN:Key}(hy:∀i,y≠.code (Lv i))(hs:∀(af:oG) (k:List dJ) (cs:List oG),af.mode=.run→cV C {af with tm:=tm,todo:=x ::k} cs h nx=cV C {af with tm:=tm2,todo:=y ::k} cs h2 aN)
  (hw:WI C y Q tm2 h2 aN):WI C x Q tm h nx:=by
 intro af k cs h1 UA;exact Ev.same (by rw[bH (m:=⟨{af with tm:=tm2,todo:=y ::k},cs,h2,aN⟩) h1 rfl,bH (m:=⟨{af with tm:=tm,todo:=x ::k},cs,h,nx⟩) h1 rfl];exact hs af k cs h1)
  (Stop.not hy h1) (hw af k cs h1 UA)
theorem DI:∀{l:List aB} {tm:T AV} {h:T ag} {nx:Key},ns C Q l tm h nx→WI C (.ops l) Q tm h nx
 | [],tm,h,nx,hw=>WI.asa agc hw
 |o ::l,tm,h,nx,hw=>by
  unfold ns at hw;cases hg:dp o.guard tm with
  |none=>rw[hg]at hw;exact hw.elim
  |some t=>
   rw[hg]at hw;have JQ:∀{tm2:T AV} {h2:T ag} {aN:Key},mE C.orc (o ::l) tm h nx=mE C.orc l tm2 h2 aN→ns C Q l tm2 h2 aN→WI C (.ops (o ::l)) Q tm h nx:=by intro tm2 h2 aN he Zp;refine WI.same (y:=.ops l) (fun i e=>by cases i<;>cases e) ?_ (DI Zp);intro af k cs _;show(match mE C.orc (o ::l) tm h nx with|.fin tm h nx=>_|.ev r rest tm h nx=>_)=(match mE C.orc l tm2 h2 aN with|.fin tm h nx=>_|.ev r rest tm h nx=>_);rw[he]
   cases t with
   |false=>refine JQ ?_ (hw.2 rfl);rw[sI,hg];simp only[fW]
   |true=>
    have hw:=hw.1 rfl;cases ha:aOp C.orc o.op tm h nx with
    |val v h' nx'=>rw[ha]at hw;refine JQ ?_ hw;rw[sI,hg,ha];simp only[fW]
    |call f args=>rw[ha]at hw;refine WI.aow (by rw[sI,hg,ha]) hw (fun v h2 aN hr=>DI hr) (fun a h2 aN hr=>hr)
    |pan a=>rw[ha]at hw;exact WI.asc (by rw[sI,hg,ha]) hw
    |yld k args=>rw[ha]at hw;exact WI.ase (by rw[sI,hg,ha]) hw (fun v h2 aN hr=>DI hr)
    |dfr f args=>rw[ha]at hw;exact hw.elim
    |recover=>rw[ha]at hw;exact hw.elim
    |bad n=>rw[ha]at hw;exact hw.elim
theorem DJ{d:SD}:∀{l:List aS} {aq:List (Nat×Key×ag)} {tm:T AV} {h:T ag} {nx:Key},wpS C Q d l aq tm h nx→WI C (.staged l d aq) Q tm h nx
 | [],aq,tm,h,nx,hw=>WI.aw3 (by show GP aq h (fun h=>RS.fin tm h nx)=_;rw[Ia]) hw
 |x ::l,aq,tm,h,nx,hw=>by
  have JQ:∀{pend2:List (Nat×Key×ag)} {tm2:T AV} {h2:T ag} {aN:Key},jA C.orc d.lD (x ::l) aq tm h nx=jA C.orc d.lD l pend2 tm2 h2 aN→wpS C Q d l pend2 tm2 h2 aN→WI C (.staged (x ::l) d aq) Q tm h nx:=by intro pend2 tm2 h2 aN he Zp;refine WI.same (y:=.staged l d pend2) (fun i e=>by cases i<;>cases e) ?_ (DJ Zp);intro af k cs _;show(match jA C.orc d.lD (x ::l) aq tm h nx with|.fin tm h nx=>_|.ev r rest aq tm h nx=>_)=(match jA C.orc d.lD l pend2 tm2 h2 aN with|.fin tm h nx=>_|.ev r rest aq tm h nx=>_);rw[he]
  cases x with
  |L i o=>
   unfold wpS at hw;cases hg:dp o.guard tm with
   |none=>rw[hg]at hw;exact hw.elim
   |some t=>
    rw[hg]at hw;cases t with
    |false=>refine JQ ?_ (hw.2 rfl);rw[Y0,hg];simp only[fW]
    |true=>
     have hw:=hw.1 rfl;cases hl:lightOp C.orc o.op tm (zF (F4 i d.lD) aq h)with
     |none=>rw[hl]at hw;exact hw.elim
     |some v=>rw[hl]at hw;refine JQ ?_ hw;rw[Y0,hg,hl];simp only[fW]
  |A i o=>
   unfold wpS at hw;cases hg:dp o.guard tm with
   |none=>rw[hg]at hw;exact hw.elim
   |some t=>
    rw[hg]at hw;cases t with
    |false=>refine JQ ?_ (hw.2 rfl);rw[Y1,hg];simp only[fW]
    |true=>
     have hw:=hw.1 rfl;cases hl:allocOp o.op tm with
     |none=>rw[hl]at hw;exact hw.elim
     |some vb=>obtain⟨v,b⟩:=vb;rw[hl]at hw;refine JQ ?_ hw;rw[Y1,hg,hl];simp only[fW]
  |H i o ad=>
   unfold wpS at hw;cases hg:dp o.guard tm with
   |none=>rw[hg]at hw;exact hw.elim
   |some t=>
    rw[hg]at hw;cases t with
    |false=>refine JQ ?_ (hw.2 rfl);rw[Y2,Ak,hg];simp only[fW]
    |true=>
     have hw:=hw.1 rfl;have fp:jA C.orc d.lD (.H i o ad ::l) aq tm h nx=(match aOp C.orc o.op tm (dO (aq.filter fun x=>memN x.1 ad) h) nx with
       |.val v h nx=>zD o.dst (some v) tm fun tm=>jA C.orc d.lD l (aq.filter fun x=>!(memN x.1 ad)) tm h nx
       |r=>.ev r (.H i o ad ::l) (aq.filter fun x=>!(memN x.1 ad)) tm (dO (aq.filter fun x=>memN x.1 ad) h) nx):=by
      rw[Y2,Ak,hg];rfl
     cases ha:aOp C.orc o.op tm (dO (aq.filter fun x=>memN x.1 ad) h) nx with
     |val v h' nx'=>rw[ha]at hw fp;refine JQ ?_ hw;rw[fp];simp only[fW]
     |call f args=>rw[ha]at hw fp;exact WI.asb fp hw (fun v h2 aN hr=>DJ hr) (fun a h2 aN hr=>hr)
     |pan a=>rw[ha]at hw fp;intro af k cs m1 m2;refine .step (m':=⟨{af with tm:=lY d.ds tm,todo:=[],mode:=.pan a false},cs,_,nx⟩) (bH m1 ?_) (.now ⟨.pan a,lY d.ds tm,_,nx,_,hw,rfl,rfl⟩);simp only[cV,fp,sB,kB]
     |yld k args=>rw[ha]at hw fp;exact WI.aw4 fp hw (fun v h2 aN hr=>DJ hr)
     |dfr f args=>rw[ha]at hw;exact hw.elim
     |recover=>rw[ha]at hw;exact hw.elim
     |bad n=>rw[ha]at hw;exact hw.elim
  |R os=>unfold wpS at hw;refine JQ ?_ hw.2;rw[Yj,hw.1];rfl
theorem pw:∀{c:aL} {Q:cJ} {tm:T AV} {h:T ag} {nx:Key},fJ C c Q tm h nx→W C c Q tm h nx
 |.skip,Q,tm,h,nx,hw=>W.skip hw
 |.ops l,Q,tm,h,nx,hw=>W.ops (DI hw)
 |.staged l d,Q,tm,h,nx,hw=>W.staged (DJ hw)
 |.seq a b,Q,tm,h,nx,hw=>by
  have hw:fJ C a (aO (fJ C b Q) Q) tm h nx:=hw;refine W.seq ((pw hw).mono fun e tm h nx hq=>?_);cases e with
  |norm=>exact pw hq
  |_=>exact hq
 |.cond x a b,Q,tm,h,nx,hw=>by
  unfold fJ at hw;split at hw
  ·rename_i t hx;refine W.cond hx ?_;cases t with
   |true=>exact pw (hw.1 rfl)
   |false=>exact pw (hw.2 rfl)
  ·exact hw.elim
 |.block id c,Q,tm,h,nx,hw=>by
  have hw:fJ C c (az id Q) tm h nx:=hw;refine W.block ((pw hw).mono fun e tm h nx hq=>?_);cases e with
  |exit j=>exact hq
  |_=>exact hq
 |.loop c,Q,tm,h,nx,hw=>hw
 |.rangeF f ps a b,Q,tm,h,nx,hw=>hw
 |.exit id,Q,tm,h,nx,hw=>W.exit hw
 |.ret,Q,tm,h,nx,hw=>W.ret hw
theorem aM.of_wp{f:Nat}{p:gE}{l:List AV}{h:T ag}{nx:Key}{R:Out→T ag→Key→Prop}(hs:C.sum f l h nx=none)(hp:HF C f=some p)(hw:fJ C p.body (Dj C f p.res R) (iu l .z .nil) h nx):aM C f l h nx R:=
 aM.acy hs hp (pw hw)
end
end Go.Sx
namespace Go.Sx
noncomputable def A(b:Key):Nat→Key
 |0=>b
 |i+1=>(A b i).succ
theorem ahh(b:Key):∀i,(A b i).toNat=b.toNat+i
 |0=>rfl
 |i+1=>by simp only[A,kTSu,ahh b i];omega
@[simp] theorem aHD(b:Key)(i:Nat):(A b i).succ=A b (i+1):=rfl
@[simp] theorem aye{α:Type}(b:Key)(i j:Nat)(v:Option α)(t:T α):ae (A b i) (au (A b j) v t)=if i=j then v else ae (A b i) t:=by
 by_cases h:i=j
 ·subst h;rw[if_pos rfl,gTSm]
 ·rw[if_neg h,aG];intro e;have:=congrArg Key.toNat e;simp only[ahh]at this;omega
theorem aaT{α:Type}{b:Key}{c:Key}(v:Option α)(t:T α)(h:b.toNat<c.toNat):ae b (au c v t)=ae b t:=
 aG _ _ _ _ (fun e=>by rw[e]at h;exact absurd h (Nat.lt_irrefl _))
attribute [simp] get_set_K at_t at_v putTm_some putTm_none wants_none wants_some okV sTCe
@[simp] theorem Ym(W:T AV→T ag→Key→Prop)(Q:cJ)(tm:T AV)(h:T ag)(nx:Key):aO W Q .norm tm h nx=W tm h nx:=propext Iff.rfl
@[simp] theorem atA(W:T AV→T ag→Key→Prop)(Q:cJ)(tm:T AV)(h:T ag)(nx:Key):aO W Q .ret tm h nx=Q .ret tm h nx:=propext Iff.rfl
@[simp] theorem aq2(W:T AV→T ag→Key→Prop)(Q:cJ)(i:Nat)(tm:T AV)(h:T ag)(nx:Key):aO W Q (.exit i) tm h nx=Q (.exit i) tm h nx:=propext Iff.rfl
@[simp] theorem atB(W:T AV→T ag→Key→Prop)(Q:cJ)(a:AV)(tm:T AV)(h:T ag)(nx:Key):aO W Q (.pan a) tm h nx=Q (.pan a) tm h nx:=propext Iff.rfl
@[simp] theorem amU(j:Nat)(Q:cJ)(tm:T AV)(h:T ag)(nx:Key):az j Q .norm tm h nx=Q .norm tm h nx:=propext Iff.rfl
@[simp] theorem apv(j:Nat)(Q:cJ)(tm:T AV)(h:T ag)(nx:Key):az j Q .ret tm h nx=Q .ret tm h nx:=propext Iff.rfl
@[simp] theorem amV(j:Nat)(Q:cJ)(i:Nat)(tm:T AV)(h:T ag)(nx:Key):az j Q (.exit i) tm h nx=if i=j then Q .norm tm h nx else Q (.exit i) tm h nx:=propext Iff.rfl
@[simp] theorem apw(j:Nat)(Q:cJ)(a:AV)(tm:T AV)(h:T ag)(nx:Key):az j Q (.pan a) tm h nx=Q (.pan a) tm h nx:=propext Iff.rfl
theorem yg{p q:Prop}(h:p↔q):p=q:=propext h
section
variable(C:bU)(Q:cJ)(tm:T AV)(h:T ag)(nx:Key)(d:SD)(aq:List (Nat×Key×ag))
@[simp] theorem aaU(t:Bool)(A B:Prop):wpG (some t) A B=((t=true→A)∧(t=false→B)):=yg Iff.rfl
@[simp] theorem aAq(A B:Prop):wpG none A B=False:=yg Iff.rfl
@[simp] theorem aAr:fJ C .skip Q tm h nx=Q .norm tm h nx:=yg Iff.rfl
@[simp] theorem cp(l:List aB):fJ C (.ops l) Q tm h nx=ns C Q l tm h nx:=yg Iff.rfl
@[simp] theorem cr(l:List aS)(d:SD):fJ C (.staged l d) Q tm h nx=wpS C Q d l [] tm h nx:=yg Iff.rfl
@[simp] theorem bR(a b:aL):fJ C (.seq a b) Q tm h nx=fJ C a (aO (fJ C b Q) Q) tm h nx:=yg Iff.rfl
@[simp] theorem gM(x:PX)(a b:aL):fJ C (.cond x a b) Q tm h nx=(match x.at tm with
  |some (.bool t)=>(t=true→fJ C a Q tm h nx)∧(t=false→fJ C b Q tm h nx)
  |_=>False):=yg Iff.rfl
@[simp] theorem vm(id:Nat)(c:aL):fJ C (.block id c) Q tm h nx=fJ C c (az id Q) tm h nx:=yg Iff.rfl
@[simp] theorem aAs(c:aL):fJ C (.loop c) Q tm h nx=W C (.loop c) Q tm h nx:=yg Iff.rfl
@[simp] theorem aAt(id:Nat):fJ C (.exit id) Q tm h nx=Q (.exit id) tm h nx:=yg Iff.rfl
@[simp] theorem aC1:fJ C .ret Q tm h nx=Q .ret tm h nx:=yg Iff.rfl
@[simp] theorem aqn:ns C Q [] tm h nx=Q .norm tm h nx:=yg Iff.rfl
def KO(o:aB)(l:List aB):Out→T ag→Key→Prop:=fun out h nx=>match out with
 |.ret v=>ns C Q l (cy o.dst v tm) h nx
 |.pan a=>Q (.pan a) tm h nx
def KS(o:aB)(l:List aS):Out→T ag→Key→Prop:=fun out h nx=>match out with
 |.ret v=>wpS C Q d l aq (cy o.dst v tm) h nx
 |.pan a=>Q (.pan a) (lY d.ds tm) h nx
@[simp] theorem aHE(o:aB)(l:List aB)(v:AV):KO C Q tm o l (.ret v) h nx=ns C Q l (cy o.dst v tm) h nx:=yg Iff.rfl
@[simp] theorem aHF(o:aB)(l:List aB)(a:AV):KO C Q tm o l (.pan a) h nx=Q (.pan a) tm h nx:=yg Iff.rfl
@[simp] theorem aHG(o:aB)(l:List aS)(v:AV):KS C Q tm d aq o l (.ret v) h nx=wpS C Q d l aq (cy o.dst v tm) h nx:=yg Iff.rfl
@[simp] theorem aHH(o:aB)(l:List aS)(a:AV):KS C Q tm d aq o l (.pan a) h nx=Q (.pan a) (lY d.ds tm) h nx:=yg Iff.rfl
def Vo(o:aB)(l:List aB)(t:Option Bool):Prop:=wpG t
   (match aOp C.orc o.op tm h nx with
   |.val v h nx=>ns C Q l (cy o.dst v tm) h nx
   |.call f args=>aM C f (dd (C.raw f) args h).1 (dd (C.raw f) args h).2 nx (KO C Q tm o l)
   |.yld k args=>AU C k args h nx (KO C Q tm o l)
   |.pan a=>Q (.pan a) tm h nx
   |_=>False)
   (ns C Q l (cy o.dst (.tuple []) tm) h nx)
@[simp] theorem Z1(o:aB)(l:List aB):ns C Q (o ::l) tm h nx=Vo C Q tm h nx o l (dp o.guard tm):=yg (by rw[ns];exact Iff.rfl)
@[simp] theorem Wi(o:aB)(l:List aB):Vo C Q tm h nx o l (some true)=(match aOp C.orc o.op tm h nx with
   |.val v h nx=>ns C Q l (cy o.dst v tm) h nx
   |.call f args=>aM C f (dd (C.raw f) args h).1 (dd (C.raw f) args h).2 nx (KO C Q tm o l)
   |.yld k args=>AU C k args h nx (KO C Q tm o l)
   |.pan a=>Q (.pan a) tm h nx
   |_=>False):=by simp[Vo]
@[simp] theorem avP(o:aB)(l:List aB):Vo C Q tm h nx o l (some false)=ns C Q l (cy o.dst (.tuple []) tm) h nx:=by simp[Vo]
@[simp] theorem ayf(o:aB)(l:List aB):Vo C Q tm h nx o l none=False:=by simp[Vo]
@[simp low] theorem aAu(o:aB)(l:List aB)(t:Bool):Vo C Q tm h nx o l (some t)=((t=true→Vo C Q tm h nx o l (some true))∧(t=false→Vo C Q tm h nx o l (some false))):=by cases t<;>simp
@[simp] theorem aC2:wpS C Q d [] aq tm h nx=Q .norm tm (dO aq h) nx:=yg Iff.rfl
def Vp(i:Nat)(o:aB)(l:List aS)(t:Option Bool):Prop:=wpG t
   (match lightOp C.orc o.op tm (zF (F4 i d.lD) aq h)with
   |some v=>wpS C Q d l aq (cy o.dst v tm) h nx
   |none=>False)
   (wpS C Q d l aq (cy o.dst (.tuple []) tm) h nx)
@[simp] theorem aMr(i:Nat)(o:aB)(l:List aS):wpS C Q d (.L i o ::l) aq tm h nx=Vp C Q tm h nx d aq i o l (dp o.guard tm):=yg (by rw[wpS];exact Iff.rfl)
@[simp] theorem ayg(i:Nat)(o:aB)(l:List aS):Vp C Q tm h nx d aq i o l (some true)=(match lightOp C.orc o.op tm (zF (F4 i d.lD) aq h)with
   |some v=>wpS C Q d l aq (cy o.dst v tm) h nx
   |none=>False):=by simp[Vp]
@[simp] theorem avQ(i:Nat)(o:aB)(l:List aS):Vp C Q tm h nx d aq i o l (some false)=wpS C Q d l aq (cy o.dst (.tuple []) tm) h nx:=by simp[Vp]
@[simp] theorem ayh(i:Nat)(o:aB)(l:List aS):Vp C Q tm h nx d aq i o l none=False:=by simp[Vp]
@[simp low] theorem aAv(i:Nat)(o:aB)(l:List aS)(t:Bool):Vp C Q tm h nx d aq i o l (some t)=((t=true→Vp C Q tm h nx d aq i o l (some true))∧(t=false→Vp C Q tm h nx d aq i o l (some false))):=by cases t<;>simp
def Vq(i:Nat)(o:aB)(l:List aS)(t:Option Bool):Prop:=wpG t
   (match allocOp o.op tm with
   |some (v,b)=>wpS C Q d l ((i,nx,b) ::aq) (cy o.dst (v nx) tm) h nx.succ
   |none=>False)
   (wpS C Q d l aq (cy o.dst (.tuple []) tm) h nx)
@[simp] theorem aMs(i:Nat)(o:aB)(l:List aS):wpS C Q d (.A i o ::l) aq tm h nx=Vq C Q tm h nx d aq i o l (dp o.guard tm):=yg (by rw[wpS];exact Iff.rfl)
@[simp] theorem ayi(i:Nat)(o:aB)(l:List aS):Vq C Q tm h nx d aq i o l (some true)=(match allocOp o.op tm with
   |some (v,b)=>wpS C Q d l ((i,nx,b) ::aq) (cy o.dst (v nx) tm) h nx.succ
   |none=>False):=by simp[Vq]
@[simp] theorem avR(i:Nat)(o:aB)(l:List aS):Vq C Q tm h nx d aq i o l (some false)=wpS C Q d l aq (cy o.dst (.tuple []) tm) h nx:=by simp[Vq]
@[simp] theorem ayj(i:Nat)(o:aB)(l:List aS):Vq C Q tm h nx d aq i o l none=False:=by simp[Vq]
@[simp low] theorem aAw(i:Nat)(o:aB)(l:List aS)(t:Bool):Vq C Q tm h nx d aq i o l (some t)=((t=true→Vq C Q tm h nx d aq i o l (some true))∧(t=false→Vq C Q tm h nx d aq i o l (some false))):=by cases t<;>simp
def Vr(o:aB)(ad:List Nat)(l:List aS)(t:Option Bool):Prop:=wpG t
   (match aOp C.orc o.op tm (dO (aq.filter fun x=>memN x.1 ad) h) nx with
   |.val v h nx=>wpS C Q d l (aq.filter fun x=>!(memN x.1 ad)) (cy o.dst v tm) h nx
   |.call f args=>aM C f (dd (C.raw f) args (dO (aq.filter fun x=>memN x.1 ad) h)).1 (dd (C.raw f) args (dO (aq.filter fun x=>memN x.1 ad) h)).2 nx (KS C Q tm d (aq.filter fun x=>!(memN x.1 ad)) o l)
   |.yld k args=>AU C k args (dO (aq.filter fun x=>memN x.1 ad) h) nx (KS C Q tm d (aq.filter fun x=>!(memN x.1 ad)) o l)
   |.pan a=>Q (.pan a) (lY d.ds tm) (dO (aq.filter fun x=>memN x.1 ad) h) nx
   |_=>False)
   (wpS C Q d l (aq.filter fun x=>!(memN x.1 ad)) (cy o.dst (.tuple []) tm) (dO (aq.filter fun x=>memN x.1 ad) h) nx)
@[simp] theorem aMt(i:Nat)(o:aB)(ad:List Nat)(l:List aS):wpS C Q d (.H i o ad ::l) aq tm h nx=Vr C Q tm h nx d aq o ad l (dp o.guard tm):=yg (by rw[wpS];exact Iff.rfl)
@[simp] theorem ayk(o:aB)(ad:List Nat)(l:List aS):Vr C Q tm h nx d aq o ad l (some true)=(match aOp C.orc o.op tm (dO (aq.filter fun x=>memN x.1 ad) h) nx with
   |.val v h nx=>wpS C Q d l (aq.filter fun x=>!(memN x.1 ad)) (cy o.dst v tm) h nx
   |.call f args=>aM C f (dd (C.raw f) args (dO (aq.filter fun x=>memN x.1 ad) h)).1 (dd (C.raw f) args (dO (aq.filter fun x=>memN x.1 ad) h)).2 nx (KS C Q tm d (aq.filter fun x=>!(memN x.1 ad)) o l)
   |.yld k args=>AU C k args (dO (aq.filter fun x=>memN x.1 ad) h) nx (KS C Q tm d (aq.filter fun x=>!(memN x.1 ad)) o l)
   |.pan a=>Q (.pan a) (lY d.ds tm) (dO (aq.filter fun x=>memN x.1 ad) h) nx
   |_=>False):=by unfold Vr;simp only[aaU,true_implies,Bool.true_eq_false,false_implies,and_true]
@[simp] theorem avS(o:aB)(ad:List Nat)(l:List aS):Vr C Q tm h nx d aq o ad l (some false)=wpS C Q d l (aq.filter fun x=>!(memN x.1 ad)) (cy o.dst (.tuple []) tm) (dO (aq.filter fun x=>memN x.1 ad) h) nx:=by unfold Vr;simp only[aaU,true_implies,UT,false_implies,true_and]
@[simp] theorem ayl(o:aB)(ad:List Nat)(l:List aS):Vr C Q tm h nx d aq o ad l none=False:=by simp[Vr]
@[simp low] theorem aAx(o:aB)(ad:List Nat)(l:List aS)(t:Bool):Vr C Q tm h nx d aq o ad l (some t)=((t=true→Vr C Q tm h nx d aq o ad l (some true))∧(t=false→Vr C Q tm h nx d aq o ad l (some false))):=by cases t<;>simp only[true_implies,Bool.true_eq_false,UT,false_implies,and_true,true_and]
@[simp] theorem aMu(os:List (Nat×aB))(l:List aS):wpS C Q d (.R os ::l) aq tm h nx=(recheck C.orc d.lD aq tm h os=true∧wpS C Q d l aq tm h nx):=yg (by rw[wpS])
@[simp] theorem avT:dO [] h=h:=rfl
@[simp] theorem atC(x:Nat×Key×ag)(p:List (Nat×Key×ag)):dO (x ::p) h=dO p (au x.2.1 (some x.2.2) h):=rfl
@[simp] theorem atE(orc:jZ)(lD:List (Nat×List Nat)):recheck orc lD aq tm h []=true:=rfl
@[simp] theorem aq3(orc:jZ)(lD:List (Nat×List Nat))(i:Nat)(o:aB)(l:List (Nat×aB)):recheck orc lD aq tm h ((i,o) ::l)=(match dp o.guard tm with
  |some false=>match o.dst with
   |none=>false
   |some d=>match ae d tm with
    |some (.tuple [])=>recheck orc lD aq tm h l
    |_=>false
  |some true=>match o.dst with
   |none=>false
   |some d=>match ae d tm,lightOp orc o.op tm (zF (F4 i lD) aq h)with
    |some v,some u=>bif AV.beq v u then recheck orc lD aq tm h l else false
    |_,_=>false
  |none=>false):=rfl
end
attribute [simp] memN
def cY(res:List RV)(R:Out→T ag→Key→Prop):cJ:=fun e tm h nx=>match e with
 |.norm|.ret=>∃l,resultsA h tm res=some l∧R (.ret (qg (cn (aW 9999) l h).1)) (cn (aW 9999) l h).2 nx
 |.pan a=>R (.pan a) h nx
 |.exit _=>False
theorem aM.of{C:bU}{f:Nat}{p:gE}{l:List AV}{h:T ag}{nx:Key}{R:Out→T ag→Key→Prop}(hs:C.sum f l h nx=none)(hp:HF C f=some p)(hr:C.nD f=false)(hw:fJ C p.body (cY p.res R) (iu l (K 0) .nil) h nx):aM C f l h nx R:=by
 refine aM.of_wp hs hp ?_;have e:Dj C f p.res R=cY p.res R:=by funext e tm h nx;cases e<;>simp only[Dj,cY,hr]<;>rfl
 rw[e];exact hw
section
variable(res:List RV)(R:Out→T ag→Key→Prop)(tm:T AV)(h:T ag)(nx:Key)
@[simp] theorem aym:cY res R .ret tm h nx=∃l,resultsA h tm res=some l∧R (.ret (qg (cn (aW 9999) l h).1)) (cn (aW 9999) l h).2 nx:=yg Iff.rfl
@[simp] theorem avU:cY res R .norm tm h nx=∃l,resultsA h tm res=some l∧R (.ret (qg (cn (aW 9999) l h).1)) (cn (aW 9999) l h).2 nx:=yg Iff.rfl
@[simp] theorem ayn(a:AV):cY res R (.pan a) tm h nx=R (.pan a) h nx:=yg Iff.rfl
end
attribute [simp] aOp lightOp allocOp newB atAll loadB isCmp beqKind arith
attribute [simp] nth_eq dropL_eq takeC_eq putC_eq appC_eq lenL_eq beqN_eq bltN_eq ltI_dec eqI_eq
@[simp] theorem aC3(a b:Nat):Nat.ble a b=decide (a≤b):=by rw[Bool.eq_iff_iff];simp
@[simp] theorem aC4(a b:Int):Int.add a b=a+b:=rfl
@[simp] theorem aC5(a b:Int):Int.sub a b=a-b:=rfl
@[simp] theorem aC6(a b:Int):Int.mul a b=a*b:=rfl
@[simp] theorem ayo(k:IntKind)(m:Nat):ta (.int k (.lit (m:Int)))=some m:=rfl
@[simp] theorem avV(k:IntKind):ta (.int k (.lit 0))=some 0:=rfl
@[simp] theorem ayp(k:IntKind):ta (.int k (.lit 1))=some 1:=rfl
@[simp] theorem ayq(k:IntKind)(n:Nat):ta (.int k (.lit (OfNat.ofNat (n+2):Int)))=some (n+2):=rfl
@[simp] theorem avW(tm:T AV)(d:Nat):oU tm d none=some d:=rfl
@[simp] theorem avX(tm:T AV)(d:Nat)(x:PX):oU tm d (some x)=match x.at tm with|none=>none|some v=>ta v:=rfl
@[simp] theorem aC7(orc:jZ)(op:BinOp)(x y:Int):IV orc op (.lit x) (.lit y)=(match op with
  |.eql=>some (x==y)
  |.neq=>some (!(x==y))
  |.lss=>some (decide (x<y))
  |.leq=>some (!(decide (y<x)))
  |.gtr=>some (decide (y<x))
  |.geq=>some (!(decide (x<y)))
  |_=>none):=by
 cases op<;>simp[IV]
@[simp] theorem aAy(tm:T AV)(cs:List AV):Lo tm [] cs=some cs:=rfl
@[simp] theorem ayr(tm:T AV)(off size:Nat)(x:PX)(r:List (Nat×Nat×PX))(cs:List AV):Lo tm ((off,size,x) ::r) cs =
  (match x.at tm with
  |none=>none
  |some v=>bif Nat.beq (lenL v.cells) size then Xz v.cells off cs none (fun cs=>Lo tm r cs)else none):=rfl
@[simp] theorem ays(off n:Nat)(l:List AV):zu true off n l=if n≤(l.drop off).length then some (.agg ((l.drop off).take n))else none:=by simp[zu]
@[simp] theorem avY(off n:Nat)(l:List AV):zu false off n l=l[off]?:=by simp[zu]
@[simp] theorem atF(b:Bool):AV.aV (.bool b)=true:=rfl
@[simp] theorem avZ(b:Bool):AV.cells (.bool b)=[.bool b]:=rfl
@[simp] theorem av0(k:IntKind)(n:SI):AV.aV (.int k n)=true:=rfl
@[simp] theorem ayt(k:IntKind)(n:SI):AV.cells (.int k n)=[.int k n]:=rfl
@[simp] theorem av1(n c:Nat):AV.aV (.str n c)=true:=rfl
@[simp] theorem ayu(n c:Nat):AV.cells (.str n c)=[.str n c]:=rfl
@[simp] theorem av2(b:Key)(off:Nat):AV.aV (.ptr b off)=true:=rfl
@[simp] theorem ayv(b:Key)(off:Nat):AV.cells (.ptr b off)=[.ptr b off]:=rfl
@[simp] theorem atG:AV.aV (.nilp)=true:=rfl
@[simp] theorem av3:AV.cells (.nilp)=[.nilp]:=rfl
@[simp] theorem aq4(b:Key)(off len sz:Nat):AV.aV (.slice b off len sz)=true:=rfl
@[simp] theorem atH(b:Key)(off len sz:Nat):AV.cells (.slice b off len sz)=[.slice b off len sz]:=rfl
@[simp] theorem atI:AV.aV (.nils)=true:=rfl
@[simp] theorem av4:AV.cells (.nils)=[.nils]:=rfl
@[simp] theorem av5(b:Key):AV.aV (.map b)=true:=rfl
@[simp] theorem ayw(b:Key):AV.cells (.map b)=[.map b]:=rfl
@[simp] theorem atJ:AV.aV (.nilm)=true:=rfl
@[simp] theorem av6:AV.cells (.nilm)=[.nilm]:=rfl
@[simp] theorem ayx(f:Nat)(first cap:List AV):AV.aV (.fn f first cap)=true:=rfl
@[simp] theorem aAz(f:Nat)(first cap:List AV):AV.cells (.fn f first cap)=[.fn f first cap]:=rfl
@[simp] theorem atK:AV.aV (.nilf)=true:=rfl
@[simp] theorem av7:AV.cells (.nilf)=[.nilf]:=rfl
@[simp] theorem aq5(t:Nat)(v:AV):AV.aV (.iface t v)=true:=rfl
@[simp] theorem atL(t:Nat)(v:AV):AV.cells (.iface t v)=[.iface t v]:=rfl
@[simp] theorem atM:AV.aV (.nili)=true:=rfl
@[simp] theorem av8:AV.cells (.nili)=[.nili]:=rfl
@[simp] theorem ayy(l:List AV)(len sz:Nat)(fl:SF):AV.aV (.sl l len sz fl)=true:=rfl
@[simp] theorem aAA(l:List AV)(len sz:Nat)(fl:SF):AV.cells (.sl l len sz fl)=[.sl l len sz fl]:=rfl
@[simp] theorem atN(l:List AV):AV.aV (.cref l)=true:=rfl
@[simp] theorem av9(l:List AV):AV.cells (.cref l)=[.cref l]:=rfl
@[simp] theorem awa(l:List AV):AV.aV (.agg l)=false:=rfl
@[simp] theorem ayz(l:List AV):AV.cells (.agg l)=l:=rfl
@[simp] theorem aq6(l:List AV)(h:T ag):dd false l h=cn (aW 9999) l h:=rfl
@[simp] theorem atO(l:List AV)(h:T ag):dd true l h=(l,h):=rfl
@[simp] theorem ayA(g:AV→T ag→AV×T ag)(h:T ag):cn g [] h=([],h):=rfl
@[simp] theorem awb(g:AV→T ag→AV×T ag)(v:AV)(l:List AV)(h:T ag):cn g (v ::l) h=((g v h).1 ::(cn g l (g v h).2).1,(cn g l (g v h).2).2):=rfl
section
variable(n:Nat)(h:T ag)
@[simp] theorem aAB(k:IntKind)(i:SI):aW n (.int k i) h=(.int k i,h):=by cases n<;>rfl
@[simp] theorem ayB(b:Bool):aW n (.bool b) h=(.bool b,h):=by cases n<;>rfl
@[simp] theorem aAC(a b:Nat):aW n (.str a b) h=(.str a b,h):=by cases n<;>rfl
@[simp] theorem aAD(b:Key)(o:Nat):aW n (.ptr b o) h=(.ptr b o,h):=by cases n<;>rfl
@[simp] theorem ayC:aW n .nilp h=(.nilp,h):=by cases n<;>rfl
@[simp] theorem ayD:aW n .nils h=(.nils,h):=by cases n<;>rfl
@[simp] theorem aAE(b:Key):aW n (.map b) h=(.map b,h):=by cases n<;>rfl
@[simp] theorem ayE:aW n .nilm h=(.nilm,h):=by cases n<;>rfl
@[simp] theorem aC8(f:Nat)(a c:List AV):aW n (.fn f a c) h=(.fn f a c,h):=by cases n<;>rfl
@[simp] theorem ayF:aW n .nilf h=(.nilf,h):=by cases n<;>rfl
@[simp] theorem awc(t:Nat)(v:AV):aW n (.iface t v) h=(.iface t v,h):=by cases n<;>rfl
@[simp] theorem ayG:aW n .nili h=(.nili,h):=by cases n<;>rfl
@[simp] theorem ayH(l:List AV):aW n (.cref l) h=(.cref l,h):=by cases n<;>rfl
@[simp] theorem awd(l:List AV):aW n (.tuple l) h=(.tuple l,h):=by cases n<;>rfl
@[simp] theorem aC9(l:List AV)(m z:Nat)(f:SF):aW (n+1) (.sl l m z f) h=(.sl l m z .any,h):=rfl
@[simp] theorem aAF(l:List AV)(m z:Nat)(f:SF):aW 9999 (.sl l m z f) h=(.sl l m z .any,h):=rfl
@[simp] theorem aAG(l:List AV)(m z:Nat)(f:SF):aW 9998 (.sl l m z f) h=(.sl l m z .any,h):=rfl
@[simp] theorem WH(l:List AV):aW 9999 (.agg l) h=(.agg (cn (aW 9998) l h).1,(cn (aW 9998) l h).2):=rfl
end
@[simp] theorem atP(k:Key)(tm:T AV):iu [] k tm=tm:=rfl
@[simp] theorem aq7(v:AV)(l:List AV)(i:Nat)(tm:T AV):iu (v ::l) (K i) tm=iu l (K (i+1)) (au (K i) (some v) tm):=by simp only[iu,awe]
@[simp] theorem awf(v:AV):qg [v]=v:=rfl
@[simp] theorem awg(v u:AV)(l:List AV):qg (v ::u ::l)=.tuple (v ::u ::l):=rfl
attribute [simp] resultsA
@[simp] theorem AV.all_nil:([]:List AV).all AV.aV=true:=rfl
attribute [simp] gTSm setK findK keyEq kTSu
theorem aw{α:Type}{b c:Key}{v:Option α}{t:T α}(h:b.toNat<c.toNat):ae b (au c v t)=ae b t:=aaT v t h
@[simp] theorem set_set{α:Type}(k:Key)(v u:Option α):∀(t:T α),au k v (au k u t)=au k v t:=by
 induction k with
 |z=>intro t;cases t<;>rfl
 |o k ih=>intro t;cases t<;>simp only[T.amW,T.NU,ih]
 |e k ih=>intro t;cases t<;>simp only[T.amX,T.NV,ih]
structure Ext(h:T ag)(nx:Key)(h':T ag)(nx':Key):Prop where
 n:nx.toNat≤nx'.toNat
 g:∀b:Key,b.toNat<nx.toNat→ae b h'=ae b h
theorem Ext.refl(h:T ag)(nx:Key):Ext h nx h nx:=⟨dQ _,fun _ _=>rfl⟩
theorem Ext.trans{h1 h2 h3:T ag}{n1 n2 n3:Key}(a:Ext h1 n1 h2 n2)(b:Ext h2 n2 h3 n3):Ext h1 n1 h3 n3:=
 ⟨Nat.le_trans a.n b.n,fun k hk=>(b.g k (Lm hk a.n)).trans (a.g k hk)⟩
@[simp] theorem awh(a b:Bool):AV.beq (.bool a) (.bool b)=(a==b):=rfl
@[simp] theorem aDa(orc:jZ)(a b:Bool):lG orc .bool (.bool a) (.bool b)=some (a==b):=by simp[lG]
@[simp] theorem eq_int(orc:jZ)(k:IntKind)(a b:SI):lG orc .int (.int k a) (.int k b)=IV orc .eql a b:=by cases k<;>simp[lG]
@[simp] theorem aAH(orc:jZ)(l:List (Nat×M9))(a b:List AV):lG orc (.parts l) (.agg a) (.agg b)=dH orc l a b:=by simp[lG]
@[simp] theorem atQ(orc:jZ)(a b:List AV):dH orc [] a b=some true:=by simp[dH]
@[simp] theorem aq8(orc:jZ)(off:Nat)(p:M9)(l:List (Nat×M9))(a b:List AV):dH orc ((off,p) ::l) a b=(match nth off a,nth off b with
  |some x,some y=>match lG orc p x y with
   |some true=>dH orc l a b
   |some false=>some false
   |none=>none
  |_,_=>none):=by rw[dH];rfl
section
variable{C:bU}{Q:cJ}{tm:T AV}{h:T ag}{nx:Key}
theorem W.eB{c:aL}(Inv:Nat→T AV→T ag→Key→Prop){n:Nat}(hi:Inv n tm h nx)(hw:∀n tm h nx,Inv n tm h nx→W C c (aO (fun tm h nx=>∃m,m<n∧Inv m tm h nx) Q) tm h nx):W C (.loop c) Q tm h nx:=
 W.loop Inv (fun n tm h nx hi=>WI.mono (hw n tm h nx hi) fun e tm h nx hq=>by cases e<;>exact hq) hi
theorem W.Q8{c:aL}(h1:W C c (aO (W C (.loop c) Q) Q) tm h nx):W C (.loop c) Q tm h nx:=by
 intro af k cs m1 m2;refine .step (m':=⟨{af with tm:=tm,todo:=.code c ::.inLoop c ::k},cs,h,nx⟩) (bH m1 rfl) ((h1 af (.inLoop c ::k) cs m1 m2).bind ?_);rintro m ⟨e,tm',h',nx',fr,q,ha,rfl⟩;cases e with
 |norm=>cases ha;have q2:WI C (.inLoop c) Q tm' h' nx':=WI.same (y:=.code (.loop c)) (fun i e=>by cases i<;>cases e) (fun _ _ _ _=>rfl) q;refine(q2 {af with tm:=tm'} k cs m1 m2).mono ?_;rintro m ⟨e2,tm2,hh2,aN,MZ,q2,a2,t2⟩;refine⟨e2,tm2,hh2,aN,MZ,q2,?_,t2⟩;cases e2<;>exact a2
 |ret=>exact .now ⟨.ret,tm',h',nx',fr,q,ha,rfl⟩
 |exit id=>obtain⟨k2,e1,e2⟩:=ha;exact .now ⟨.exit id,tm',h',nx',fr,q,⟨k2,e1,e2⟩,rfl⟩
 |pan a=>exact .now ⟨.pan a,tm',h',nx',fr,q,ha,rfl⟩
theorem W.of{c:aL}(h1:fJ C c Q tm h nx):W C c Q tm h nx:=pw h1
end
@[simp] theorem aAI{R:Type}(l:List AV)(h:T ag)(c:List AV→T ag→R):Nd (frz 9999) l h c=c (cn (aW 9999) l h).1 (cn (aW 9999) l h).2:=yT (GD 9999) l h c
attribute [simp] appendTo repL_eq
@[simp] theorem awi:wE false=appendTo:=rfl
@[simp] theorem atS:wE true=tc:=rfl
@[simp] theorem aDb(n m:Nat):Jp n (.t (K m))=(Nat.beq n 1&&Nat.beq m 44):=by simp only[Jp,fK]
@[simp] theorem aDc(n:Nat)(a:AV):Jp n (.v a)=false:=rfl
@[simp] theorem aAJ(i:Nat):F4 i []=[]:=rfl
@[simp] theorem ayI(i j:Nat)(l:List Nat)(r:List (Nat×List Nat)):F4 i ((j,l) ::r)=if i=j then l else F4 i r:=by simp[F4]
@[simp] theorem ayJ(p:List (Nat×Key×ag))(h:T ag):zF [] p h=h:=rfl
@[simp] theorem awj(a:Nat)(l:List Nat)(p:List (Nat×Key×ag))(h:T ag):zF (a ::l) p h=dO (p.filter fun x=>memN x.1 (a ::l)) h:=by show Gs (a ::l) p h (fun _ h=>h)=_;rw[Ak]
theorem db{k:Key}{n:Nat}(h:Key.beq k (K n)=true):k=K n:=Key.eq_of_beq h
def k0:Key:=.z
def k1:=Key.o k0
def k2:=Key.e k0
def k3:=Key.o k1
def k4:=Key.e k1
def k5:=Key.o k2
def k6:=Key.e k2
def k7:=Key.o k3
def k8:=Key.e k3
def k9:=Key.o k4
def cW:=Key.e k4
def dU:=Key.o k5
def fq:=Key.e k5
def dT:=Key.o k6
def gj:=Key.e k6
def fc:=Key.o k7
def ia:=Key.e k7
def iM:=Key.o k8
def iT:=Key.e k8
def kR:=Key.o k9
def jN:=Key.e k9
def lJ:=Key.o cW
def mB:=Key.e cW
def mo:=Key.o dU
def oH:=Key.e dU
def l7:=Key.o fq
def mh:=Key.e fq
def nu:=Key.o dT
def ph:=Key.e dT
def nJ:=Key.o gj
def mj:=Key.e gj
def nK:=Key.o fc
def qG:=Key.e fc
def sS:=Key.o ia
def qZ:=Key.e ia
def qH:=Key.o iM
def uv:=Key.e iM
def sT:=Key.o iT
def tE:=Key.e iT
def rh:=Key.o kR
def bG:=Key.e kR
def pR:=Key.o jN
def qq:=Key.e jN
def rQ:=Key.o lJ
def xn:=Key.e lJ
def yZ:=Key.o mB
def y0:=Key.e mB
def Ab:=Key.o mo
def AW:=Key.e mo
def zj:=Key.o oH
def yl:=Key.e oH
def CE:=Key.o l7
def uF:=Key.e l7
def y7:=Key.o mh
def zk:=Key.e mh
def y8:=Key.o nu
def Ac:=Key.e nu
def qK:=Key.o ph
def AX:=Key.e ph
def ym:=Key.o nJ
def zl:=Key.e nJ
def CG:=Key.o mj
def BO:=Key.e mj
def Gn:=Key.o nK
def Ed:=Key.e nK
def Hb:=Key.o qG
def It:=Key.e qG
def Iu:=Key.o sS
def EP:=Key.e sS
def IX:=Key.o qZ
def F9:=Key.e qZ
def Hc:=Key.o qH
def KU:=Key.e qH
def KV:=Key.o uv
def Hd:=Key.e uv
def KW:=Key.o sT
def AT:=Key.e sT
def Iv:=Key.o tE
def Gk:=Key.e tE
def Jy:=Key.o rh
def Jz:=Key.e rh
def Kl:=Key.o bG
def IY:=Key.e bG
def KX:=Key.o pR
def Iw:=Key.e pR
def M5:=Key.o qq
def L5:=Key.e qq
def O5:=Key.o rQ
def P3:=Key.e rQ
def Mh:=Key.o xn
def QX:=Key.e xn
def UK:=Key.o yZ
def Pb:=Key.e yZ
def WA:=Key.o y0
def UL:=Key.e y0
def Zv:=Key.o Ab
def Zw:=Key.e Ab
def k97:=Key.o AW
def P7:=Key.e AW
def k99:=Key.o zj
def NK:=Key.e zj
def NL:=Key.o yl
def NM:=Key.e yl
def Ku:=Key.o CE
def Mi:=Key.e CE
def NN:=Key.o uF
def NO:=Key.e uF
def NP:=Key.o y7
def P8:=Key.e y7
def Tc:=Key.o zk
def aaA:=Key.e zk
def ad4:=Key.o y8
def al1:=Key.e y8
def al2:=Key.o Ac
def al3:=Key.e Ac
def aaB:=Key.o qK
def al4:=Key.e qK
def al5:=Key.o AX
def al6:=Key.e AX
def al7:=Key.o ym
def aaC:=Key.e ym
def al8:=Key.o zl
def al9:=Key.e zl
def ama:=Key.o CG
def amb:=Key.e CG
def amc:=Key.o BO
def amd:=Key.e BO
def ame:=Key.o Gn
def amf:=Key.e Gn
def amg:=Key.o Ed
def amh:=Key.e Ed
def ami:=Key.o Hb
def amj:=Key.e Hb
def amk:=Key.o It
def aiS:=Key.e It
def aiT:=Key.o Iu
def aiU:=Key.e Iu
def aiV:=Key.o EP
def aiW:=Key.e EP
def aiX:=Key.o IX
def aiY:=Key.e IX
def aiZ:=Key.o F9
def ai0:=Key.e F9
def ai1:=Key.o Hc
def aml:=Key.e Hc
def amm:=Key.o KU
def amn:=Key.e KU
def amo:=Key.o KV
def amp:=Key.e KV
def amq:=Key.o Hd
def amr:=Key.e Hd
def ams:=Key.o KW
def amt:=Key.e KW
def amu:=Key.o AT
def amv:=Key.e AT
def amw:=Key.o Iv
def amx:=Key.e Iv
def amy:=Key.o Gk
def amz:=Key.e Gk
def avz:=Key.o Jy
def avA:=Key.e Jy
def avB:=Key.o Jz
def avC:=Key.e Jz
def avD:=Key.o Kl
def avE:=Key.e Kl
def aAe:=Key.o IY
def aFm:=Key.e QX
def aFn:=Key.o Mi
def aFo:=Key.o aFm
def aFh:=Key.e aFn
def aFi:=Key.e aFo
@[simp] theorem aPr:k0=K 0:=db rfl
@[simp] theorem aEu:k1=K 1:=db rfl
@[simp] theorem aPs:k2=K 2:=db rfl
@[simp] theorem aPt:k3=K 3:=db rfl
@[simp] theorem aPu:k4=K 4:=db rfl
@[simp] theorem aPv:k5=K 5:=db rfl
@[simp] theorem aPw:k6=K 6:=db rfl
@[simp] theorem aPx:k7=K 7:=db rfl
@[simp] theorem aPy:k8=K 8:=db rfl
@[simp] theorem aPz:k9=K 9:=db rfl
@[simp] theorem aKP:cW=K 10:=db rfl
@[simp] theorem aKQ:dU=K 11:=db rfl
@[simp] theorem aKR:fq=K 12:=db rfl
@[simp] theorem aKS:dT=K 13:=db rfl
@[simp] theorem aKT:gj=K 14:=db rfl
@[simp] theorem aKU:fc=K 15:=db rfl
@[simp] theorem aKV:ia=K 16:=db rfl
@[simp] theorem aKW:iM=K 17:=db rfl
@[simp] theorem azD:iT=K 18:=db rfl
@[simp] theorem azE:kR=K 19:=db rfl
@[simp] theorem aKX:jN=K 20:=db rfl
@[simp] theorem aKY:lJ=K 21:=db rfl
@[simp] theorem aKZ:mB=K 22:=db rfl
@[simp] theorem aK0:mo=K 23:=db rfl
@[simp] theorem aK1:oH=K 24:=db rfl
@[simp] theorem aK2:l7=K 25:=db rfl
@[simp] theorem aK3:mh=K 26:=db rfl
@[simp] theorem aK4:nu=K 27:=db rfl
@[simp] theorem aK5:ph=K 28:=db rfl
@[simp] theorem aK6:nJ=K 29:=db rfl
@[simp] theorem aK7:mj=K 30:=db rfl
@[simp] theorem aK8:nK=K 31:=db rfl
@[simp] theorem aK9:qG=K 32:=db rfl
@[simp] theorem aLa:sS=K 33:=db rfl
@[simp] theorem aLb:qZ=K 34:=db rfl
@[simp] theorem aLc:qH=K 35:=db rfl
@[simp] theorem aLd:uv=K 36:=db rfl
@[simp] theorem aLe:sT=K 37:=db rfl
@[simp] theorem aLf:tE=K 38:=db rfl
@[simp] theorem aLg:rh=K 39:=db rfl
@[simp] theorem aLh:bG=K 40:=db rfl
@[simp] theorem aLi:pR=K 41:=db rfl
@[simp] theorem aLj:qq=K 42:=db rfl
@[simp] theorem aLk:rQ=K 43:=db rfl
@[simp] theorem aLl:xn=K 44:=db rfl
@[simp] theorem aLm:yZ=K 45:=db rfl
@[simp] theorem aLn:y0=K 46:=db rfl
@[simp] theorem aLo:Ab=K 47:=db rfl
@[simp] theorem aLp:AW=K 48:=db rfl
@[simp] theorem aLq:zj=K 49:=db rfl
@[simp] theorem aLr:yl=K 50:=db rfl
@[simp] theorem aLs:CE=K 51:=db rfl
@[simp] theorem aLt:uF=K 52:=db rfl
@[simp] theorem aLu:y7=K 53:=db rfl
@[simp] theorem aLv:zk=K 54:=db rfl
@[simp] theorem aLw:y8=K 55:=db rfl
@[simp] theorem aLx:Ac=K 56:=db rfl
@[simp] theorem aLy:qK=K 57:=db rfl
@[simp] theorem aLz:AX=K 58:=db rfl
@[simp] theorem aLA:ym=K 59:=db rfl
@[simp] theorem aLB:zl=K 60:=db rfl
@[simp] theorem aLC:CG=K 61:=db rfl
@[simp] theorem aLD:BO=K 62:=db rfl
@[simp] theorem aLE:Gn=K 63:=db rfl
@[simp] theorem aLF:Ed=K 64:=db rfl
@[simp] theorem aLG:Hb=K 65:=db rfl
@[simp] theorem aLH:It=K 66:=db rfl
@[simp] theorem aLI:Iu=K 67:=db rfl
@[simp] theorem aLJ:EP=K 68:=db rfl
@[simp] theorem aLK:IX=K 69:=db rfl
@[simp] theorem aLL:F9=K 70:=db rfl
@[simp] theorem aLM:Hc=K 71:=db rfl
@[simp] theorem aLN:KU=K 72:=db rfl
@[simp] theorem aLO:KV=K 73:=db rfl
@[simp] theorem aLP:Hd=K 74:=db rfl
@[simp] theorem aLQ:KW=K 75:=db rfl
@[simp] theorem aLR:AT=K 76:=db rfl
@[simp] theorem aLS:Iv=K 77:=db rfl
@[simp] theorem aLT:Gk=K 78:=db rfl
@[simp] theorem aLU:Jy=K 79:=db rfl
@[simp] theorem aLV:Jz=K 80:=db rfl
@[simp] theorem aLW:Kl=K 81:=db rfl
@[simp] theorem aLX:IY=K 82:=db rfl
@[simp] theorem aLY:KX=K 83:=db rfl
@[simp] theorem aLZ:Iw=K 84:=db rfl
@[simp] theorem aL0:M5=K 85:=db rfl
@[simp] theorem aL1:L5=K 86:=db rfl
@[simp] theorem aL2:O5=K 87:=db rfl
@[simp] theorem aL3:P3=K 88:=db rfl
@[simp] theorem aL4:Mh=K 89:=db rfl
@[simp] theorem aL5:QX=K 90:=db rfl
@[simp] theorem aL6:UK=K 91:=db rfl
@[simp] theorem aL7:Pb=K 92:=db rfl
@[simp] theorem aL8:WA=K 93:=db rfl
@[simp] theorem aL9:UL=K 94:=db rfl
@[simp] theorem aMa:Zv=K 95:=db rfl
@[simp] theorem aMb:Zw=K 96:=db rfl
@[simp] theorem aMc:k97=K 97:=db rfl
@[simp] theorem aMd:P7=K 98:=db rfl
@[simp] theorem aMe:k99=K 99:=db rfl
@[simp] theorem aFp:NK=K 100:=db rfl
@[simp] theorem aFq:NL=K 101:=db rfl
@[simp] theorem aFr:NM=K 102:=db rfl
@[simp] theorem aFs:Ku=K 103:=db rfl
@[simp] theorem aFt:Mi=K 104:=db rfl
@[simp] theorem aFu:NN=K 105:=db rfl
@[simp] theorem aFv:NO=K 106:=db rfl
@[simp] theorem aFw:NP=K 107:=db rfl
@[simp] theorem aFx:P8=K 108:=db rfl
@[simp] theorem aFy:Tc=K 109:=db rfl
@[simp] theorem aFz:aaA=K 110:=db rfl
@[simp] theorem aFA:ad4=K 111:=db rfl
@[simp] theorem aFB:al1=K 112:=db rfl
@[simp] theorem aFC:al2=K 113:=db rfl
@[simp] theorem aFD:al3=K 114:=db rfl
@[simp] theorem aFE:aaB=K 115:=db rfl
@[simp] theorem aFF:al4=K 116:=db rfl
@[simp] theorem aFG:al5=K 117:=db rfl
@[simp] theorem aFH:al6=K 118:=db rfl
@[simp] theorem aFI:al7=K 119:=db rfl
@[simp] theorem aFJ:aaC=K 120:=db rfl
@[simp] theorem aFK:al8=K 121:=db rfl
@[simp] theorem aFL:al9=K 122:=db rfl
@[simp] theorem aFM:ama=K 123:=db rfl
@[simp] theorem aFN:amb=K 124:=db rfl
@[simp] theorem aFO:amc=K 125:=db rfl
@[simp] theorem aFP:amd=K 126:=db rfl
@[simp] theorem aFQ:ame=K 127:=db rfl
@[simp] theorem aFR:amf=K 128:=db rfl
@[simp] theorem aFS:amg=K 129:=db rfl
@[simp] theorem aFT:amh=K 130:=db rfl
@[simp] theorem aFU:ami=K 131:=db rfl
@[simp] theorem aFV:amj=K 132:=db rfl
@[simp] theorem aFW:amk=K 133:=db rfl
@[simp] theorem aFX:aiS=K 134:=db rfl
@[simp] theorem aFY:aiT=K 135:=db rfl
@[simp] theorem aFZ:aiU=K 136:=db rfl
@[simp] theorem aF0:aiV=K 137:=db rfl
@[simp] theorem aF1:aiW=K 138:=db rfl
@[simp] theorem aF2:aiX=K 139:=db rfl
@[simp] theorem aF3:aiY=K 140:=db rfl
@[simp] theorem aF4:aiZ=K 141:=db rfl
@[simp] theorem aF5:ai0=K 142:=db rfl
@[simp] theorem aF6:ai1=K 143:=db rfl
@[simp] theorem aF7:aml=K 144:=db rfl
@[simp] theorem aF8:amm=K 145:=db rfl
@[simp] theorem aF9:amn=K 146:=db rfl
@[simp] theorem aGa:amo=K 147:=db rfl
@[simp] theorem aGb:amp=K 148:=db rfl
@[simp] theorem aGc:amq=K 149:=db rfl
@[simp] theorem aGd:amr=K 150:=db rfl
@[simp] theorem aGe:ams=K 151:=db rfl
@[simp] theorem aGf:amt=K 152:=db rfl
@[simp] theorem aGg:amu=K 153:=db rfl
@[simp] theorem aGh:amv=K 154:=db rfl
@[simp] theorem aGi:amw=K 155:=db rfl
@[simp] theorem aGj:amx=K 156:=db rfl
@[simp] theorem aGk:amy=K 157:=db rfl
@[simp] theorem aGl:amz=K 158:=db rfl
@[simp] theorem aGm:avz=K 159:=db rfl
@[simp] theorem aGn:avA=K 160:=db rfl
@[simp] theorem aGo:avB=K 161:=db rfl
@[simp] theorem aGp:avC=K 162:=db rfl
@[simp] theorem aGq:avD=K 163:=db rfl
@[simp] theorem aGr:avE=K 164:=db rfl
@[simp] theorem aGs:aAe=K 165:=db rfl
theorem hide{α:Type}{a b:α}(h:a=b):a=b:=h
abbrev I(n:Int):AV:=.int .i64 (.lit n)
def oM(d s:Key):aB:=⟨some d,.mov (.t s),none⟩
def oL(d:Key)(n:Nat)(s:Key):aB:=⟨some d,.load false n (.t s),none⟩
def oA(d:Key)(n:Nat)(s:Key):aB:=⟨some d,.load true n (.t s),none⟩
def oF(d:Key)(n:Nat)(s:Key):aB:=⟨some d,.fieldA n (.t s),none⟩
def oS(n:Nat)(a s:Key):aB:=⟨none,.store n (.t a) (.t s),none⟩
def oN(d s:Key):aB:=⟨some d,.nilc (.t s),none⟩
def oZ(d s:Key):aB:=⟨some d,.lenL (.t s),none⟩
def oE(d s:Key)(n:Int):aB:=⟨some d,.bin .eql (.t s) (.v (I n)),none⟩
def oI(d:Key)(n:Nat)(s i:Key):aB:=⟨some d,.indexL n (.t s) (.t i),none⟩
def oX(d s:Key)(n:Nat):aB:=⟨some d,.extract (.t s) n,none⟩
def oB(d s:Key):aB:=⟨some d,.box (.t s),none⟩
def oJ(d:Key)(v:AV):aB:=⟨some d,.mov (.v v),none⟩
@[simp] theorem Ls(d s:Key):oM d s=⟨some d,.mov (.t s),none⟩:=hide rfl
@[simp] theorem Lw(d:Key)(n:Nat)(s:Key):oL d n s=⟨some d,.load false n (.t s),none⟩:=hide rfl
@[simp] theorem SH(d:Key)(n:Nat)(s:Key):oA d n s=⟨some d,.load true n (.t s),none⟩:=hide rfl
@[simp] theorem SJ(d:Key)(n:Nat)(s:Key):oF d n s=⟨some d,.fieldA n (.t s),none⟩:=hide rfl
@[simp] theorem SL(n:Nat)(a s:Key):oS n a s=⟨none,.store n (.t a) (.t s),none⟩:=hide rfl
@[simp] theorem SO(d s:Key):oN d s=⟨some d,.nilc (.t s),none⟩:=hide rfl
@[simp] theorem SN(d s:Key):oZ d s=⟨some d,.lenL (.t s),none⟩:=hide rfl
@[simp] theorem SM(d s:Key)(n:Int):oE d s n=⟨some d,.bin .eql (.t s) (.v (I n)),none⟩:=hide rfl
@[simp] theorem SG(d:Key)(n:Nat)(s i:Key):oI d n s i=⟨some d,.indexL n (.t s) (.t i),none⟩:=hide rfl
@[simp] theorem SP(d s:Key)(n:Nat):oX d s n=⟨some d,.extract (.t s) n,none⟩:=hide rfl
@[simp] theorem aMf(d s:Key):oB d s=⟨some d,.box (.t s),none⟩:=hide rfl
@[simp] theorem Lx(d:Key)(v:AV):oJ d v=⟨some d,.mov (.v v),none⟩:=hide rfl
abbrev Rw:=List aB
def oO(d:Key)(o:BinOp)(a b:Key):aB:=⟨some d,.bin o (.t a) (.t b),none⟩
@[simp] theorem Lt(d:Key)(o:BinOp)(a b:Key):oO d o a b=⟨some d,.bin o (.t a) (.t b),none⟩:=hide rfl
def oK(d:Key)(o:BinOp)(a:Key)(i:Int):aB:=⟨some d,.bin o (.t a) (.v (I i)),none⟩
@[simp] theorem Lu(d:Key)(o:BinOp)(a:Key)(i:Int):oK d o a i=⟨some d,.bin o (.t a) (.v (I i)),none⟩:=hide rfl
instance:Coe Key PX:=⟨.t⟩
instance:Coe AV PX:=⟨.v⟩
instance:Coe (List aB) aL:=⟨.ops⟩
def oC(d:Key)(f:Nat)(l:List PX):aB:=⟨some d,.callF f l,none⟩
@[simp] theorem SK(d:Key)(f:Nat)(l:List PX):oC d f l=⟨some d,.callF f l,none⟩:=hide rfl
def oT(d s g:Key):aB:=⟨some d,.mov (.t s),some (g,true)⟩
@[simp] theorem aMg(d s g:Key):oT d s g=⟨some d,.mov (.t s),some (g,true)⟩:=hide rfl
def oQ(d s g:Key):aB:=⟨some d,.mov (.t s),some (g,false)⟩
@[simp] theorem aMh(d s g:Key):oQ d s g=⟨some d,.mov (.t s),some (g,false)⟩:=hide rfl
def oP(d a b:Key):aB:=⟨some d,.pick (.t a) (.t b) (.v (.bool false)),none⟩
@[simp] theorem aMi(d a b:Key):oP d a b=⟨some d,.pick (.t a) (.t b) (.v (.bool false)),none⟩:=hide rfl
@[simp] abbrev Qw(l:List AV):Option ag:=some (.cells l .fix)
end Go.Sx
namespace Go.Sx
open Go.RowKit
mutual
def AV.kf:AV→Bool
 |.bool _|.int _ _|.str _ _|.nilp|.nils|.nilm|.nilf|.nili=>true
 |.iface _ v=>AV.kf v
 |.agg l=>AV.IP l
 |.tuple l=>AV.IP l
 |.sl l _ _ .any=>AV.IP l
 |.cref l=>AV.IP l
 |.fn _ a c=>AV.IP a&&AV.IP c
 |_=>false
def AV.IP:List AV→Bool
 | []=>true
 |a ::l=>AV.kf a&&AV.IP l
end
mutual
theorem aY.kf{ρ:Nat→Int}{μ μ':Mu}(hf:∀c i v,μ.fz c i=some v→μ'.fz c i=some v):∀{a:AV} {v:Value},aY ρ μ a v→a.kf=true→aY ρ μ' a v
 |_,_,.bool b,_=>.bool b
 |_,_,.int k s n h,_=>.int k s n h
 |_,_,.str n c s h h',_=>.str n c s h h'
 |_,_,.ptr b off l a h ha,hk=>by simp[AV.kf]at hk
 |_,_,.nilp,_=>.nilp
 |_,_,.slice b off len sz cap l a h hc hl ha,hk=>by simp[AV.kf]at hk
 |_,_,.nils,_=>.nils
 |_,_,.map b l r h hr,hk=>by simp[AV.kf]at hk
 |_,_,.nilm,_=>.nilm
 |_,_,.fn f first cap vs ws h h',hk=>by simp only[AV.kf,nn]at hk;exact .fn f first cap vs ws (aA.kf hf h hk.1) (aA.kf hf h' hk.2)
 |_,_,.yld b l r h hr,hk=>by simp[AV.kf]at hk
 |_,_,.nilf,_=>.nilf
 |_,_,.iface t a v h,hk=>.iface t a v (aY.kf hf h (by simpa[AV.kf]using hk))
 |_,_,.nili,_=>.nili
 |_,_,.agg l vs h,hk=>.agg l vs (aA.kf hf h (by simpa[AV.kf]using hk))
 |_,_,.tuple l vs h,hk=>.tuple l vs (aA.kf hf h (by simpa[AV.kf]using hk))
 |_,_,.sl l len sz fl cap c o a vs h hn hl ha hff hg,hk=>by
  cases fl with
  |any=>exact .sl l len sz .any cap c o a vs (aA.kf hf h (by simpa[AV.kf]using hk)) hn hl ha (fun i v e=>hf _ _ _ (hff i v e)) trivial
  |tok b=>simp[AV.kf]at hk
 |_,_,.cref l c o a vs h ha hff,hk=>.cref l c o a vs (aA.kf hf h (by simpa[AV.kf]using hk)) ha (fun i v e=>hf _ _ _ (hff i v e))
theorem aA.kf{ρ:Nat→Int}{μ μ':Mu}(hf:∀c i v,μ.fz c i=some v→μ'.fz c i=some v):∀{l:List AV} {vs:List Value},aA ρ μ l vs→AV.IP l=true→aA ρ μ' l vs
 |_,_,.nil,_=>.nil
 |_,_,.cons a l v vs h h',hk=>by simp only[AV.IP,nn]at hk;exact .cons a l v vs (aY.kf hf h hk.1) (aA.kf hf h' hk.2)
end
structure kl(P:Program)(heap0:T ag)(w0:W0):Prop where
 size:P.globals.size≤w0.heap.size
 at_:∀b B,ae b heap0=some B→b.toNat<P.globals.size∧∃L arr elem f,B=.cells L .ro∧w0.heap[b.toNat]?=some (.cells arr elem f)∧(∀(ρ:Nat→Int) (μ:Mu),aA ρ μ L arr.toList)∧∀i v,arr[i]?=some v→w0.z b.toNat i=some v
section
variable{P:Program}{ρ:Nat→Int}{heap0:T ag}
noncomputable def Tx(heap0:T ag)(b:Key):Nat:=match ae b heap0 with
 |some (.cells L _)=>L.length
 |_=>0
noncomputable def gMu(P:Program)(heap0:T ag)(fz:Nat→Nat→Option Value):Mu:=⟨fun b=>if b.toNat<P.globals.size then some ⟨b.toNat,0,Tx heap0 b⟩else none,fz⟩
theorem Mt{fz:Nat→Nat→Option Value}{b:Key}{l:Loc}(h:(gMu P heap0 fz) b=some l):b.toNat<P.globals.size∧l=⟨b.toNat,0,Tx heap0 b⟩:=by
 have h:(if b.toNat<P.globals.size then some (⟨b.toNat,0,Tx heap0 b⟩:Loc)else none)=some l:=h;split at h
 ·rename_i hb;cases h;exact⟨hb,rfl⟩
 ·cases h
theorem Ip{w0:W0}(hL:kl P heap0 w0)(hz:∀c i v,w0.z c i=some v→∃arr elem f,w0.heap[c]?=some (.cells arr elem f)∧arr[i]?=some v){nx:Nat}(hn:P.globals.size≤nx) :
  bC P ρ w0 (gMu P heap0 w0.z) (fun b=>ae b heap0) nx w0.toWorld:=by
 have aA8:∀b:Key,b.toNat<P.globals.size→(gMu P heap0 w0.z) b=some ⟨b.toNat,0,Tx heap0 b⟩:=by intro b hb;show(if b.toNat<P.globals.size then some (⟨b.toNat,0,Tx heap0 b⟩:Loc)else none)=_;rw[if_pos hb]
 refine⟨?_,?_,?_,?_,?_,?_,Below.refl _ _,hz,?_,fun _ _ _ h=>h,fun _ _ _ h=>.inr h,?_,dQ _⟩
 ·intro b B hb;obtain⟨h1,L,arr,elem,f,rfl,h3,h4,h5⟩:=hL.at_ b B hb;have hlen:L.length=arr.size:=by simpa using(h4 ρ (gMu P heap0 w0.z)).length
  refine⟨_,_,aA8 b h1,h3,.cells L .ro _ arr elem f ?_ ?_ ?_ (fun h=>absurd rfl h) ?_⟩
  ·intro i a ha;obtain⟨v,hv,hr⟩:=(h4 ρ (gMu P heap0 w0.z)).get i a ha;exact⟨v,by simpa using hv,hr⟩
  ·show 0+Tx heap0 b≤arr.size;simp only[Tx,hb];omega
  ·show L.length≤Tx heap0 b;simp only[Tx,hb];exact dQ _
  ·intro _;show L.length=Tx heap0 b;simp only[Tx,hb]
 ·intro b b' B B' l l' h1 h2 m1 m2 bT;obtain⟨_,rfl⟩:=Mt m1;obtain⟨_,rfl⟩:=Mt m2;exact fun e=>bT (Key.toNat_inj e)
 ·intro b l m;obtain⟨h1,rfl⟩:=Mt m;exact Lm h1 hL.size
 ·intro b B l hb m;obtain⟨h1,L,arr,elem,f,rfl,_⟩:=hL.at_ b B hb;exact .inl trivial
 ·intro k hk;exact⟨_,aA8 k hk⟩
 ·intro b l m;obtain⟨h1,rfl⟩:=Mt m;omega
 ·intro b B l n hb m AO i hi;obtain⟨h1,L,arr,elem,f,rfl,_⟩:=hL.at_ b B hb;cases AO
 ·intro b L l hb m;obtain⟨_,rfl⟩:=Mt m;obtain⟨h1,L',arr,elem,f,e,h3,h4,h5⟩:=hL.at_ b _ hb;refine .inr fun Kc ee ff i v ha hv=>?_;have ha:w0.heap[b.toNat]?=some (.cells Kc ee ff):=ha;rw[h3]at ha;cases ha;exact h5 i v hv
theorem kl.am4{w0:W0}{w:World}{fz:Nat→Nat→Option Value}(hL:kl P heap0 w0)(hb:Below w0.heap.size w0.toWorld w)(hz:∀c i v,w0.z c i=some v→fz c i=some v):kl P heap0 ⟨w,fz⟩:=by refine⟨Nat.le_trans hL.size hb.size,fun b B h=>?_⟩;obtain⟨h1,L,arr,elem,f,h2,h3,h4,h5⟩:=hL.at_ b B h;refine⟨h1,L,arr,elem,f,h2,?_,h4,fun i v hv=>hz _ _ _ (h5 i v hv)⟩;show w.heap[b.toNat]?=_;rw[hb.block _ (Lm h1 hL.size)];exact h3
def aA9(tab:List (Nat×List AV×AV))(f:Nat)(l:List AV)(h:T ag)(nx:Key):Option (AV×T ag×Key):=match tab with
 | []=>none
 |(g,m,v) ::r=>bif Nat.beq f g&&AV.IU l m then some (v,h,nx)else aA9 r f l h nx
theorem GJ{C:bU}{w0:W0}{w:World}{μ0:Mu}{G0:Key→Option ag}{H:T ag}{nx:Key}(X:Ctx P ρ w0 C){f:Nat}{l:List AV}{args:Array Value}(hM:bC P ρ w0 μ0 G0 nx.toNat w)(hH:HSub H G0)(hl:aA ρ μ0 l args.toList)
  {R:Out→T ag→Key→Prop} (hR:∀o h nx,R o h nx→∃v,o=.ret v) (hc:aM C f l H nx R) :
  Calls P f args w fun e w'=>∃v h' nx' u μ G,R (.ret v) h' nx'∧e=.returned u∧aY ρ μ v u∧μ0.le μ∧bC P ρ w0 μ G nx'.toNat w'∧HSub h' G:=by
 rcases hc with⟨v,h',nx',hs,hr⟩|⟨hs,p,hp,fp⟩
 ·refine(X.sum f l H nx v h' nx' hs args w μ0 G0 hM hH hl).mono ?_;rintro e w' ⟨u,μ',G',rfl,h1,h2,h3,h4,_⟩;exact⟨v,h',nx',u,μ',G',hr,rfl,h1,h2,h3,h4⟩
 ·have hpf:Jf P f=some p:=X.fns f p hp;intro cs;have hm:FY P ρ C.orc w0 μ0 ⟨ah f p l,[],H,nx⟩ (Frame.enter P f args .normal) [] w:=
   ⟨μ0,G0,μ0.le_refl,hM,hH,zb hpf hl false,trivial,by simp[bX,pk,ah]⟩
  obtain⟨am',jk,Ik,w',⟨o,h',nx',fr,h1,hr,hfn,hdf,⟨hd,hL⟩,rfl⟩,s1,s2⟩:=Ev.sound (rest:=cs) X (fp []) hm;obtain⟨v,rfl⟩:=hR o h' nx' hr;obtain⟨Mm,l1,Wr,rfl,rfl⟩:=hL;have sG:kj C ⟨fr,[],h1,nx'⟩=.done f (qg (dd (C.nD f) l1 h1).1) (dd (C.nD f) l1 h1).2 nx':=by unfold kj;simp only[Mm];unfold Bi;simp only[hd,Mm,Wr,hfn,zq];unfold Lp;simp only[hdf,cond_false,hfn]
  have hg:=GI (rest:=cs) X s2;rw[sG]at hg;obtain⟨MZ,w2,μ,G,u,t1,t2,t3,t4,t5,t6,t7⟩:=hg;exact⟨.returned u,w2,MZ,⟨_,_,_,u,μ,G,hr,rfl,t4,t5,t6,t7⟩,s1.trans t1,t2,t3⟩
noncomputable def HN:List (Nat×gE)→T gE
 | []=>.nil
 |(i,p) ::l=>au (Key.gK 12 i) (some p) (HN l)
theorem Ty:∀{l:List (Nat×gE)} {k:Key} {p:gE},ae k (HN l)=some p→∃i,(i,p)∈l∧k=Key.gK 12 i
 | [],k,p,h=>by simp[HN]at h
 |(i,q) ::l,k,p,h=>by
  simp only[HN]at h;by_cases e:k=Key.gK 12 i
  ·subst e;rw[gTSm]at h;cases h;exact⟨i,by simp,rfl⟩
  ·rw[aG _ _ _ _ e]at h;obtain⟨j,h1,h2⟩:=Ty h;exact⟨j,List.mem_cons_of_mem _ h1,h2⟩
def Ms(P:Program):List (Nat×gE)→Prop
 | []=>True
 |(i,p) ::l=>(Nat.blt i 8000=true∧Jf P i=some p)∧Ms P l
theorem Ms.mem:∀{l:List (Nat×gE)},Ms P l→∀{i:Nat} {p:gE},(i,p)∈l→i<8000∧Jf P i=some p
 | [],_,_,_,h=>by cases h
 |(j,q) ::l,ha,i,p,h=>by
  rcases M4.1 h with e|e
  ·cases e;have:=ha.1.1;rw[bltN_eq,decide_eq_true_eq]at this;exact⟨this,ha.1.2⟩
  ·exact Ms.mem ha.2 e
noncomputable def aBa(fns:T gE)(tab:List (Nat×List AV×AV)):bU:=⟨[],fns,aA9 tab,fun _=>false,fun _=>false⟩
theorem aa8{fns:T gE}{aa7:List (Nat×gE)}(hb:fns=HN aa7)(ha:Ms P aa7){tab:List (Nat×List AV×AV)}{f:Nat}{p:gE}(h:HF (aBa fns tab) f=some p):Jf P f=some p:=by
 unfold HF at h;cases hk:Nat.beq (Key.gK 12 f).toNat f with
 |false=>rw[hk]at h;cases h
 |true=>
  rw[hk]at h;have hk:=qX hk;have h:ae (Key.gK 12 f) fns=some p:=h;rw[hb]at h;obtain⟨i,h1,h2⟩:=Ty h;obtain⟨h3,h4⟩:=ha.mem h1;have:i=f:=by have e:=congrArg Key.toNat h2;rw[hk,tP 12 i (by omega)]at e;exact e.symm
  subst this;exact h4
def ahw(P:Program)(ρ:Nat→Int)(heap0:T ag):List (Nat×List AV×AV)→Prop
 | []=>True
 |(f,l,v) ::r=>((∃p,Jf P f=some p)∧∀w0:W0,kl P heap0 w0→∀H nx,Lg P ρ w0 f l H nx v H nx)∧ahw P ρ heap0 r
theorem ahw.mem:∀{tab:List (Nat×List AV×AV)},ahw P ρ heap0 tab→∀{f:Nat} {l:List AV} {v:AV},(f,l,v)∈tab→(∃p,Jf P f=some p)∧∀w0:W0,kl P heap0 w0→∀H nx,Lg P ρ w0 f l H nx v H nx
 | [],_,_,_,_,h=>by cases h
 |(g,m,u) ::r,ht,f,l,v,h=>by
  rcases M4.1 h with e|e
  ·cases e;exact ht.1
  ·exact ahw.mem ht.2 e
end
end Go.Sx
namespace Go.Sx
open Go
theorem avL{a b:Key}(h:a.toNat≠b.toNat):a≠b:=fun e=>h (by rw[e])
theorem uG{a b:Key}(v:Option ag)(t:T ag)(h:a.toNat≠b.toNat:=by simp;try omega):ae a (au b v t)=ae a t:=aG _ _ _ _ (avL h)
variable(n:Key)(v:Option ag)(t:T ag)
@[simp] theorem aGF:ae n (au n.succ v t)=ae n t:=uG v t
@[simp] theorem aGG:ae n (au n.succ.succ v t)=ae n t:=uG v t
@[simp] theorem aGH:ae n (au n.succ.succ.succ v t)=ae n t:=uG v t
@[simp] theorem aGI:ae n (au n.succ.succ.succ.succ v t)=ae n t:=uG v t
@[simp] theorem aGJ:ae n (au n.succ.succ.succ.succ.succ v t)=ae n t:=uG v t
@[simp] theorem aGK:ae n (au n.succ.succ.succ.succ.succ.succ v t)=ae n t:=uG v t
@[simp] theorem aGL:ae n (au n.succ.succ.succ.succ.succ.succ.succ v t)=ae n t:=uG v t
@[simp] theorem aGM:ae n.succ (au n v t)=ae n.succ t:=uG v t
@[simp] theorem aGN:ae n.succ (au n.succ.succ v t)=ae n.succ t:=uG v t
@[simp] theorem aGO:ae n.succ (au n.succ.succ.succ v t)=ae n.succ t:=uG v t
@[simp] theorem aGP:ae n.succ (au n.succ.succ.succ.succ v t)=ae n.succ t:=uG v t
@[simp] theorem aGQ:ae n.succ (au n.succ.succ.succ.succ.succ v t)=ae n.succ t:=uG v t
@[simp] theorem aGR:ae n.succ (au n.succ.succ.succ.succ.succ.succ v t)=ae n.succ t:=uG v t
@[simp] theorem aGS:ae n.succ (au n.succ.succ.succ.succ.succ.succ.succ v t)=ae n.succ t:=uG v t
@[simp] theorem aGT:ae n.succ.succ (au n v t)=ae n.succ.succ t:=uG v t
@[simp] theorem aGU:ae n.succ.succ (au n.succ v t)=ae n.succ.succ t:=uG v t
@[simp] theorem aGV:ae n.succ.succ (au n.succ.succ.succ v t)=ae n.succ.succ t:=uG v t
@[simp] theorem aGW:ae n.succ.succ (au n.succ.succ.succ.succ v t)=ae n.succ.succ t:=uG v t
@[simp] theorem aGX:ae n.succ.succ (au n.succ.succ.succ.succ.succ v t)=ae n.succ.succ t:=uG v t
@[simp] theorem aGY:ae n.succ.succ (au n.succ.succ.succ.succ.succ.succ v t)=ae n.succ.succ t:=uG v t
@[simp] theorem aGZ:ae n.succ.succ (au n.succ.succ.succ.succ.succ.succ.succ v t)=ae n.succ.succ t:=uG v t
@[simp] theorem aG0:ae n.succ.succ.succ (au n v t)=ae n.succ.succ.succ t:=uG v t
@[simp] theorem aG1:ae n.succ.succ.succ (au n.succ v t)=ae n.succ.succ.succ t:=uG v t
@[simp] theorem aG2:ae n.succ.succ.succ (au n.succ.succ v t)=ae n.succ.succ.succ t:=uG v t
@[simp] theorem aG3:ae n.succ.succ.succ (au n.succ.succ.succ.succ v t)=ae n.succ.succ.succ t:=uG v t
@[simp] theorem aG4:ae n.succ.succ.succ (au n.succ.succ.succ.succ.succ v t)=ae n.succ.succ.succ t:=uG v t
@[simp] theorem aG5:ae n.succ.succ.succ (au n.succ.succ.succ.succ.succ.succ v t)=ae n.succ.succ.succ t:=uG v t
@[simp] theorem aG6:ae n.succ.succ.succ (au n.succ.succ.succ.succ.succ.succ.succ v t)=ae n.succ.succ.succ t:=uG v t
@[simp] theorem aG7:ae n.succ.succ.succ.succ (au n v t)=ae n.succ.succ.succ.succ t:=uG v t
@[simp] theorem aG8:ae n.succ.succ.succ.succ (au n.succ v t)=ae n.succ.succ.succ.succ t:=uG v t
@[simp] theorem aG9:ae n.succ.succ.succ.succ (au n.succ.succ v t)=ae n.succ.succ.succ.succ t:=uG v t
@[simp] theorem aHa:ae n.succ.succ.succ.succ (au n.succ.succ.succ v t)=ae n.succ.succ.succ.succ t:=uG v t
@[simp] theorem aHb:ae n.succ.succ.succ.succ (au n.succ.succ.succ.succ.succ v t)=ae n.succ.succ.succ.succ t:=uG v t
@[simp] theorem aHc:ae n.succ.succ.succ.succ (au n.succ.succ.succ.succ.succ.succ v t)=ae n.succ.succ.succ.succ t:=uG v t
@[simp] theorem aHd:ae n.succ.succ.succ.succ (au n.succ.succ.succ.succ.succ.succ.succ v t)=ae n.succ.succ.succ.succ t:=uG v t
@[simp] theorem aHe:ae n.succ.succ.succ.succ.succ (au n v t)=ae n.succ.succ.succ.succ.succ t:=uG v t
@[simp] theorem aHf:ae n.succ.succ.succ.succ.succ (au n.succ v t)=ae n.succ.succ.succ.succ.succ t:=uG v t
@[simp] theorem aHg:ae n.succ.succ.succ.succ.succ (au n.succ.succ v t)=ae n.succ.succ.succ.succ.succ t:=uG v t
@[simp] theorem aHh:ae n.succ.succ.succ.succ.succ (au n.succ.succ.succ v t)=ae n.succ.succ.succ.succ.succ t:=uG v t
@[simp] theorem aHi:ae n.succ.succ.succ.succ.succ (au n.succ.succ.succ.succ v t)=ae n.succ.succ.succ.succ.succ t:=uG v t
@[simp] theorem aHj:ae n.succ.succ.succ.succ.succ (au n.succ.succ.succ.succ.succ.succ v t)=ae n.succ.succ.succ.succ.succ t:=uG v t
@[simp] theorem aHk:ae n.succ.succ.succ.succ.succ (au n.succ.succ.succ.succ.succ.succ.succ v t)=ae n.succ.succ.succ.succ.succ t:=uG v t
@[simp] theorem aHl:ae n.succ.succ.succ.succ.succ.succ (au n v t)=ae n.succ.succ.succ.succ.succ.succ t:=uG v t
@[simp] theorem aHm:ae n.succ.succ.succ.succ.succ.succ (au n.succ v t)=ae n.succ.succ.succ.succ.succ.succ t:=uG v t
@[simp] theorem aHn:ae n.succ.succ.succ.succ.succ.succ (au n.succ.succ v t)=ae n.succ.succ.succ.succ.succ.succ t:=uG v t
@[simp] theorem aHo:ae n.succ.succ.succ.succ.succ.succ (au n.succ.succ.succ v t)=ae n.succ.succ.succ.succ.succ.succ t:=uG v t
@[simp] theorem aHp:ae n.succ.succ.succ.succ.succ.succ (au n.succ.succ.succ.succ v t)=ae n.succ.succ.succ.succ.succ.succ t:=uG v t
@[simp] theorem aHq:ae n.succ.succ.succ.succ.succ.succ (au n.succ.succ.succ.succ.succ v t)=ae n.succ.succ.succ.succ.succ.succ t:=uG v t
@[simp] theorem aHr:ae n.succ.succ.succ.succ.succ.succ (au n.succ.succ.succ.succ.succ.succ.succ v t)=ae n.succ.succ.succ.succ.succ.succ t:=uG v t
@[simp] theorem aHs:ae n.succ.succ.succ.succ.succ.succ.succ (au n v t)=ae n.succ.succ.succ.succ.succ.succ.succ t:=uG v t
@[simp] theorem aHt:ae n.succ.succ.succ.succ.succ.succ.succ (au n.succ v t)=ae n.succ.succ.succ.succ.succ.succ.succ t:=uG v t
@[simp] theorem aHu:ae n.succ.succ.succ.succ.succ.succ.succ (au n.succ.succ v t)=ae n.succ.succ.succ.succ.succ.succ.succ t:=uG v t
@[simp] theorem aHv:ae n.succ.succ.succ.succ.succ.succ.succ (au n.succ.succ.succ v t)=ae n.succ.succ.succ.succ.succ.succ.succ t:=uG v t
@[simp] theorem aHw:ae n.succ.succ.succ.succ.succ.succ.succ (au n.succ.succ.succ.succ v t)=ae n.succ.succ.succ.succ.succ.succ.succ t:=uG v t
@[simp] theorem aHx:ae n.succ.succ.succ.succ.succ.succ.succ (au n.succ.succ.succ.succ.succ v t)=ae n.succ.succ.succ.succ.succ.succ.succ t:=uG v t
@[simp] theorem aHy:ae n.succ.succ.succ.succ.succ.succ.succ (au n.succ.succ.succ.succ.succ.succ v t)=ae n.succ.succ.succ.succ.succ.succ.succ t:=uG v t
@[simp] theorem ayd(k:IntKind):ta (.int k (.lit 2))=some 2:=rfl
@[simp] theorem atl(k:IntKind):ta (.int k (.lit 3))=some 3:=rfl
theorem nW:∀(k:Key),Key.beq k k=true
 |.z=>rfl
 |.o k=>by rw[Key.beq];exact nW k
 |.e k=>by rw[Key.beq];exact nW k
theorem aeb(f:SF):SF.beq f f=true:=by cases f<;>simp[SF.beq,nW]
mutual
def AV.lits:AV→Bool
 |.int _ (.lit _)=>true
 |.int _ _=>false
 |.fn _ a c=>AV.gS a&&AV.gS c
 |.iface _ v=>AV.lits v
 |.agg l=>AV.gS l
 |.tuple l=>AV.gS l
 |.sl l _ _ _=>AV.gS l
 |.cref l=>AV.gS l
 |_=>true
def AV.gS:List AV→Bool
 | []=>true
 |v ::l=>AV.lits v&&AV.gS l
end
mutual
theorem beq_refl:∀(v:AV),AV.lits v=true→AV.beq v v=true
 |.bool b,_=>by simp[AV.beq]
 |.int k (.lit n),_=>by cases k<;>simp[AV.beq,SI.beq]
 |.int k (.var n),h=>by simp[AV.lits]at h
 |.int k (.bin o k' a b),h=>by simp[AV.lits]at h
 |.str n c,_=>by simp[AV.beq]
 |.ptr b o,_=>by simp[AV.beq,nW]
 |.nilp,_=>by simp[AV.beq]
 |.slice b o l s,_=>by simp[AV.beq,nW]
 |.nils,_=>by simp[AV.beq]
 |.map b,_=>by simp[AV.beq,nW]
 |.nilm,_=>by simp[AV.beq]
 |.fn f a c,h=>by simp[AV.lits]at h;simp[AV.beq,vB a h.1,vB c h.2]
 |.yld l,_=>by simp[AV.beq,nW]
 |.nilf,_=>by simp[AV.beq]
 |.iface t v,h=>by simp[AV.lits]at h;simp[AV.beq,beq_refl v h]
 |.nili,_=>by simp[AV.beq]
 |.agg l,h=>by simp[AV.lits]at h;simp[AV.beq,vB l h]
 |.tuple l,h=>by simp[AV.lits]at h;simp[AV.beq,vB l h]
 |.sl l n z f,h=>by simp[AV.lits]at h;simp[AV.beq,aeb,vB l h]
 |.cref l,h=>by simp[AV.lits]at h;simp[AV.beq,vB l h]
theorem vB:∀(l:List AV),AV.gS l=true→AV.IU l l=true
 | [],_=>by simp[AV.IU]
 |v ::l,h=>by simp[AV.gS]at h;simp[AV.IU,beq_refl v h.1,vB l h.2]
end
theorem aaM:∀{l:List AV},(∀x∈l,AV.lits x=true)→AV.gS l=true
 | [],_=>by simp[AV.gS]
 |v ::l,h=>by simp[AV.gS,h v (by simp),aaM (l:=l) fun x hx=>h x (by simp[hx])]
theorem WG:∀{l:List AV},AV.gS l=true→∀x∈l,AV.lits x=true
 | [],_,x,hx=>by simp at hx
 |v ::l,h,x,hx=>by
  simp[AV.gS]at h;rcases M4.1 hx with rfl|hx
  ·exact h.1
  ·exact WG h.2 x hx
end Go.Sx
namespace Go.Sx
open Go
structure Fn(C:bU)(f:Nat)(p:gE):Prop where
 get:HF C f=some p
 off:∀l h nx,C.sum f l h nx=none
 nD:C.nD f=false
theorem Fn.call{C:bU}{f:Nat}{p:gE}(S:Fn C f p){l:List AV}{h:T ag}{nx:Key}{R:Out→T ag→Key→Prop}(hw:fJ C p.body (cY p.res R) (iu l (K 0) .nil) h nx):aM C f l h nx R:=
 aM.of (S.off _ _ _) S.get S.nD hw
abbrev S:=Nat×Nat
def UC(c:AV):Prop:=∀n h,aW n c h=(c,h)
theorem Xs(l:List AV)(n z:Nat):UC (.sl l n z .any):=fun k h=>by cases k<;>rfl
theorem CU:UC .nils:=fun k h=>by cases k<;>rfl
theorem dG(k:IntKind)(n:SI):UC (.int k n):=fun k h=>by cases k<;>rfl
theorem wC(a b:Nat):UC (.str a b):=fun k h=>by cases k<;>rfl
theorem akU(b:Bool):UC (.bool b):=fun k h=>by cases k<;>rfl
theorem dw{n:Nat}:∀{l:List AV} {h:T ag},(∀x∈l,UC x)→cn (aW n) l h=(l,h)
 | [],_,_=>rfl
 |v ::l,h,hs=>by have h1:=hs v (by simp) n h;have h2:=dw (n:=n) (l:=l) (h:=h) fun x hx=>hs x (by simp[hx]);simp only[cn,h1,h2]
theorem CM{n:Nat}{b:Key}{len sz:Nat}{l:List AV}{H:T ag}(hg:ae b H=some (.cells l .part))(hl:l.length=len*sz)(hs:∀x∈l,UC x):aW (n+1) (.slice b 0 len sz) H=(.sl l len sz .any,au b none H):=by simp only[aW,L9,hg,List.drop_zero];rw[if_pos (by omega),PV (by omega),dw hs]
theorem wF{n:Nat}{b:Key}{len sz:Nat}{l:List AV}{H:T ag}(hg:ae b H=some (.cells l .fix))(hl:l.length=len*sz)(hs:∀x∈l,UC x):aW (n+1) (.slice b 0 len sz) H=(.sl l len sz .any,au b (some (.cells l .ro)) H):=by simp only[aW,L9,hg,List.drop_zero];rw[if_pos (by omega),PV (by omega),dw hs]
def Pur(C:bU)(f:Nat)(l:List AV)(P:Out→Prop):Prop:=∀h nx,aM C f l h nx (fun o h' nx'=>P o∧Ext h nx h' nx')
theorem Pur.mono{C:bU}{f:Nat}{l:List AV}{P Q:Out→Prop}(hp:Pur C f l P)(hq:∀o,P o→Q o):Pur C f l Q:=
 fun h nx=>(hp h nx).mono fun o _ _ ⟨a,b⟩=>⟨hq o a,b⟩
theorem E0(h:T ag)(nx:Key)(B:ag):Ext h nx (au nx (some B) h) nx.succ:=by have s1:=kTSu nx;exact⟨by omega,fun b hb=>by rw[aw hb]⟩
theorem Ext.put{h h':T ag}{nx nx' k:Key}{B:Option ag}(e:Ext h nx h' nx')(hk:nx.toNat≤k.toNat):Ext h nx (au k B h') nx':=
 ⟨e.n,fun b hb=>by rw[aw (by omega)];exact e.g b hb⟩
theorem Ext.up{h h':T ag}{nx nx' n2:Key}(e:Ext h nx h' nx')(hn:nx'.toNat≤n2.toNat):Ext h nx h' n2:=⟨by have:=e.n;omega,e.g⟩
section
variable{α:Type}
def ai(enc:α→List AV)(l:List α):List AV:=l.flatMap enc
structure Flat(z:Nat)(enc:α→List AV):Prop where
 len:∀x,(enc x).length=z
 wH:∀x,∀y∈enc x,UC y
 cell:∀x,∀y∈enc x,AV.aV y=true
 lits:∀x,AV.gS (enc x)=true
variable{z:Nat}{enc:α→List AV}
@[simp] theorem aiu(enc:α→List AV):ai enc []=[]:=rfl
theorem dm(enc:α→List AV)(x:α)(l:List α):ai enc (x ::l)=enc x++ai enc l:=rfl
theorem kG(enc:α→List AV)(l m:List α):ai enc (l++m)=ai enc l++ai enc m:=by simp[ai]
theorem kD(enc:α→List AV)(x:α):ai enc [x]=enc x:=by simp[ai]
theorem Flat.rows(F:Flat z enc):∀(l:List α),(ai enc l).length=l.length*z
 | []=>by simp
 |x ::l=>by rw[dm,Ll,F.len,F.rows l,zqi,Nat.add_mul,Nat.one_mul,Nat.add_comm]
theorem Flat.drop(F:Flat z enc):∀(l:List α) (i:Nat),(ai enc l).drop (i*z)=ai enc (l.drop i)
 |l,0=>by simp
 | [],i+1=>by simp
 |x ::l,i+1=>by
  have hx:(enc x).length=z:=F.len x;have hz:z≤(i+1)*z:=Nat.le_mul_of_pos_left _ (Nat.succ_pos _);have he:(i+1)*z-z=i*z:=by rw[Nat.add_mul,Nat.one_mul];omega
  rw[dm,zqq,List.drop_eq_nil_of_le (by omega),List.nil_append,hx,he,F.drop l i];simp
theorem Flat.take(F:Flat z enc):∀(l:List α) (i:Nat),(ai enc l).take (i*z)=ai enc (l.take i)
 |l,0=>by simp
 | [],i+1=>by simp
 |x ::l,i+1=>by
  have hx:(enc x).length=z:=F.len x;have hz:z≤(i+1)*z:=Nat.le_mul_of_pos_left _ (Nat.succ_pos _);have he:(i+1)*z-z=i*z:=by rw[Nat.add_mul,Nat.one_mul];omega
  rw[dm,zqw,PV (by omega),hx,he,F.take l i];simp[dm]
theorem Flat.at(F:Flat z enc){l:List α}{i:Nat}(hi:i<l.length):((ai enc l).drop (i*z)).take z=enc l[i]:=by rw[F.drop,zqt hi,dm,List.take_append_of_le_length (by rw[F.len];exact dQ _),PV (by rw[F.len];exact dQ _)]
theorem Flat.IL(F:Flat z enc)(l:List α):∀y∈ai enc l,UC y:=by intro y hy;obtain⟨x,_,hx⟩:=List.mem_flatMap.1 hy;exact F.wH x y hx
theorem Flat.cells(F:Flat z enc)(l:List α):∀y∈ai enc l,AV.aV y=true:=by intro y hy;obtain⟨x,_,hx⟩:=List.mem_flatMap.1 hy;exact F.cell x y hx
theorem Flat.auW(F:Flat z enc)(l:List α):(ai enc l).all AV.aV=true:=AQ.2 (F.cells l)
theorem Flat.agM(F:Flat z enc)(l:List α):AV.gS (ai enc l)=true:=by refine aaM fun y hy=>?_;obtain⟨x,_,hx⟩:=List.mem_flatMap.1 hy;exact WG (F.lits x) y hx
def gR(z:Nat)(enc:α→List AV)(c:AV)(l:List α):Prop:=(c=.nils∧l=[])∨c=.sl (ai enc l) l.length z .any
theorem gR.wH{c:AV}{l:List α}(h:gR z enc c l):UC c:=by
 rcases h with⟨rfl,_⟩|rfl
 ·exact CU
 ·exact Xs _ _ _
theorem gR.cell{c:AV}{l:List α}(h:gR z enc c l):c.aV=true∧c.cells=[c]:=by rcases h with⟨rfl,_⟩|rfl<;>exact⟨rfl,rfl⟩
end
structure App(c:AV)(l:List AV)(len sz:Nat)(h:T ag)(nx n0:Key):Prop where
 is:(c=.nils∧l=[]∧len=0)∨(∃b:Key,c=.slice b 0 len sz∧ae b h=some (.cells l .part)∧n0.toNat≤b.toNat∧b.toNat<nx.toNat∧l.length=len*sz)∨
  (∃t:Key,c=.sl l len sz (.tok t)∧ae t h=some .tok∧n0.toNat≤t.toNat∧t.toNat<nx.toNat)
section
variable{c:AV}{l new:List AV}{len sz m:Nat}{h h':T ag}{nx nx' n0:Key}
theorem App.nil(sz:Nat):App .nils [] 0 sz h nx n0:=⟨.inl ⟨rfl,rfl,rfl⟩⟩
theorem App.fX(ha:App c l len sz h nx n0)(h0:n0.toNat≤nx.toNat)(hn:new.length=m*sz)(hl:len+m≤1048576)(hc:new.all AV.aV=true) :
  ∃c' h' nx',appendTo sz c new m h nx=.val c' h' nx'∧App c' (l++new) (len+m) sz h' nx' n0∧nx.toNat≤nx'.toNat∧(∀b:Key,b.toNat<n0.toNat→ae b h'=ae b h)∧∀b:Key,b.toNat<nx.toNat→(∀B,ae b h=some B→B≠.tok∧∀l,B≠.cells l .part)→ae b h'=ae b h:=by
 have s1:=kTSu nx;by_cases hm:m=0
 ·subst hm;have:new=[]:=zqr (by omega);subst this;rcases id ha.is with⟨rfl,rfl,rfl⟩|⟨b,rfl,hb,AO,cH,XG⟩|⟨t,rfl,ht,AO,cH⟩
  ·exact⟨.nils,h,nx,by simp,by simpa using ha,dQ _,fun _ _=>rfl,fun _ _ _=>rfl⟩
  ·exact⟨.slice b 0 len sz,h,nx,by have Ta:len≤1048576:=hl;simp[hb,Ta],by simpa using ha,dQ _,fun _ _=>rfl,fun _ _ _=>rfl⟩
  ·exact⟨.sl l len sz (.tok t),h,nx,by simp,by simpa using ha,dQ _,fun _ _=>rfl,fun _ _ _=>rfl⟩
 ·rcases id ha.is with⟨rfl,rfl,rfl⟩|⟨b,rfl,hb,AO,cH,XG⟩|⟨t,rfl,ht,AO,cH⟩
  ·have Mm:m≤1048576:=by omega
   exact⟨.slice nx 0 (0+m) sz,au nx (some (.cells new .part)) h,nx.succ,by simp[hm,Mm],⟨.inr (.inl ⟨nx,rfl,by simp,by omega,by omega,by simpa using hn⟩)⟩,by omega,fun b hb=>aw (by omega),fun b hb _=>aw hb⟩
  ·cases hw:Jo sz with
   |true=>
    refine⟨.slice nx 0 (len+m) sz,au nx (some (.cells (l++new) .part)) (au b none h),nx.succ,?_,⟨.inr (.inl ⟨nx,rfl,by simp,by omega,by omega,by rw[Ll,XG,hn,Nat.add_mul]⟩)⟩,by omega,fun x hx=>?_,fun x hx hk=>?_⟩
    ·simp[hl,hc,hb,XG,hm,hw]
    ·rw[aw (by omega),aw (by omega)]
    ·rw[aw hx,aG];rintro rfl;exact(hk _ hb).2 l rfl
   |false=>
    refine⟨.sl (l++new) (len+m) sz (.tok nx),au nx (some .tok) (au b none h),nx.succ,?_,⟨.inr (.inr ⟨nx,rfl,by simp,by omega,by omega⟩)⟩,by omega,fun x hx=>?_,fun x hx hk=>?_⟩
    ·simp[hl,hc,hb,XG,hm,hw]
    ·rw[aw (by omega),aw (by omega)]
    ·rw[aw hx,aG];rintro rfl;exact(hk _ hb).2 l rfl
  ·refine⟨.sl (l++new) (len+m) sz (.tok nx),au nx (some .tok) (au t none h),nx.succ,?_,⟨.inr (.inr ⟨nx,rfl,by simp,by omega,by omega⟩)⟩,by omega,fun x hx=>?_,fun x hx hk=>?_⟩
   ·simp[hl,hc,ht,hm]
   ·rw[aw (by omega),aw (by omega)]
   ·rw[aw hx,aG];rintro rfl;exact(hk _ ht).1 rfl
theorem App.bZ(ha:App c l len sz h nx n0)(hn:nx.toNat≤nx'.toNat)(hg:∀b:Key,b.toNat<nx.toNat→(ae b h=some .tok∨∃l,ae b h=some (.cells l .part))→ae b h'=ae b h):App c l len sz h' nx' n0:=by
 refine⟨?_⟩;rcases ha.is with⟨rfl,rfl,rfl⟩|⟨b,rfl,hb,AO,cH,XG⟩|⟨t,rfl,ht,AO,cH⟩
 ·exact .inl ⟨rfl,rfl,rfl⟩
 ·exact .inr (.inl ⟨b,rfl,by rw[hg b cH (.inr ⟨_,hb⟩)];exact hb,AO,by omega,XG⟩)
 ·exact .inr (.inr ⟨t,rfl,by rw[hg t cH (.inl ht)];exact ht,AO,by omega⟩)
theorem App.ext(ha:App c l len sz h nx n0)(e:Ext h nx h' nx'):App c l len sz h' nx' n0:=ha.bZ e.n fun b hb _=>e.g b hb
theorem App.cell(ha:App c l len sz h nx n0):c.aV=true∧c.cells=[c]:=by rcases ha.is with⟨rfl,rfl,rfl⟩|⟨b,rfl,_⟩|⟨t,rfl,_⟩<;>exact⟨rfl,rfl⟩
theorem App.set{k:Key}{B:Option ag}(ha:App c l len sz h nx n0)(hk:∀B,ae k h=some B→B≠.tok∧∀l,B≠.cells l .part):App c l len sz (au k B h) nx n0:=
 ha.bZ (dQ _) fun b _ hx=>aG _ _ _ _ fun e=>by
  subst e;rcases hx with hx|⟨l,hx⟩
  ·exact(hk _ hx).1 rfl
  ·exact(hk _ hx).2 _ rfl
theorem App.Mg(ha:App c l len sz h nx n0)(orc:jZ){tm:T AV}{k:Key}(hk:ae k tm=some c):lightOp orc (.lenL (.t k)) tm h=some (I len):=by rcases ha.is with⟨rfl,rfl,rfl⟩|⟨b,rfl,_⟩|⟨t,rfl,_⟩<;>simp[hk]
theorem App.aed(ha:App c l len sz h nx n0)(hs:∀y∈l,UC y)(n:Nat) :
  ((aW (n+1) c h).1=.nils∧l=[]∧len=0∨(aW (n+1) c h).1=.sl l len sz .any)∧∀b:Key,b.toNat<n0.toNat→ae b (aW (n+1) c h).2=ae b h:=by
 rcases ha.is with⟨rfl,rfl,rfl⟩|⟨b,rfl,hb,AO,cH,XG⟩|⟨t,rfl,ht,AO,cH⟩
 ·exact⟨.inl ⟨rfl,rfl,rfl⟩,fun _ _=>rfl⟩
 ·rw[CM hb XG hs];exact⟨.inr rfl,fun x hx=>aw (by omega)⟩
 ·exact⟨.inr rfl,fun _ _=>rfl⟩
theorem App.OC{α:Type}{enc:α→List AV}(F:Flat sz enc){us:List α}(ha:App c (ai enc us) us.length sz h nx n0)(n:Nat) :
  gR sz enc (aW (n+1) c h).1 us∧∀b:Key,b.toNat<n0.toNat→ae b (aW (n+1) c h).2=ae b h:=by
 obtain⟨h1,h2⟩:=ha.aed (F.IL us) n;refine⟨?_,h2⟩;rcases h1 with⟨e,_,e3⟩|e
 ·exact .inl ⟨e,zqr e3⟩
 ·exact .inr e
theorem App.IS{α:Type}{enc:α→List AV}(F:Flat sz enc){us:List α}(ha:App c (ai enc us) us.length sz h nx n0)(h0:n0.toNat≤nx.toNat)(hl:us.length+1≤1048576)(x:α) :
  ∃c' h' nx',appendTo sz c (enc x) 1 h nx=.val c' h' nx'∧App c' (ai enc (us ++ [x])) (us ++ [x]).length sz h' nx' n0∧nx.toNat≤nx'.toNat∧(∀b:Key,b.toNat<n0.toNat→ae b h'=ae b h)∧∀b:Key,b.toNat<nx.toNat→(∀B,ae b h=some B→B≠.tok∧∀l,B≠.cells l .part)→ae b h'=ae b h:=by
 obtain⟨c',h',nx',a,b,c,d,e⟩:=ha.fX (new:=enc x) (m:=1) h0 (by rw[F.len,Nat.one_mul]) hl (AQ.2 (F.cell x));exact⟨c',h',nx',a,by rw[kG,kD,Ll];exact b,c,d,e⟩
end
end Go.Sx
