/- A part of the proof. No condition. -/
import Derived.Test.YtecbfpngkfdkoaaGreatP5
set_option linter.unusedSimpArgs false
set_option linter.unusedVariables false
set_option linter.unusedSectionVars false
namespace Go.Sx
open Go.RowKit
inductive Ex where
 |norm
 |ret
 |exit (id:Nat)
 |pan (a:AV)
def Aft(af:nN)(k:List dD):Ex→T AV→nN→Prop
 |.norm,tm,fr=>fr={af with tm:=tm,todo:=k}
 |.ret,tm,fr=>∃t,fr={af with tm:=tm,todo:=.code .ret ::t}
 |.exit id,tm,fr=>∃k2,nT id k2=nT id k∧fr={af with tm:=tm,todo:=.code (.exit id) ::k2}
 |.pan a,tm,fr=>fr={af with tm:=tm,todo:=[],mode:=.pan a false}
def Lv:Option Nat→aI
 |none=>.ret
 |some i=>.exit i
abbrev dh:=Ex→T AV→T ah→Key→Prop
def Stop(Q:dh)(af:nN)(k:List dD)(cs:List nN)(m:AM):Prop:=∃e ay h' nx' fr,Q e ay h' nx'∧Aft af k e ay fr∧m=⟨fr,cs,h',nx'⟩
def WI(C:bQ)(x:dD)(Q:dh)(tm:T AV)(h:T ah)(nx:Key):Prop:=
 ∀(af:nN) (k:List dD) (cs:List nN),af.mode=.run→True→Ev C (Stop Q af k cs) ⟨{af with tm:=tm,todo:=x ::k},cs,h,nx⟩
abbrev W(C:bQ)(c:aI):dh→T AV→T ah→Key→Prop:=WI C (.code c)
section
variable{C:bQ}{Q Q':dh}{tm:T AV}{h:T ah}{nx:Key}
theorem WI.mono{x:dD}(hw:WI C x Q tm h nx)(hq:∀e tm h nx,Q e tm h nx→Q' e tm h nx):WI C x Q' tm h nx:=by intro af k cs h1 h2;refine(hw af k cs h1 h2).mono ?_;rintro m ⟨e,ay,h',nx',fr,q,a,t⟩;exact⟨e,ay,h',nx',fr,hq _ _ _ _ q,a,t⟩
theorem bB{m:AM}{r:SR}(hm:m.fr.mode=.run)(hr:cK C m.fr m.cs m.h m.nx=r):jP C m=r:=by unfold jP;simp only[hm];exact hr
theorem Stop.not{y:dD}{af:nN}{k:List dD}{cs cs2:List nN}(hy:∀i,y≠.code (Lv i))(h1:af.mode=.run):¬Stop Q af k cs ⟨{af with tm:=tm,todo:=y ::k},cs2,h,nx⟩:=by
 rintro⟨e,ay,h',nx',fr,q,a,t⟩;simp only[AM.mk.injEq]at t;obtain⟨e0,_⟩:=t;cases e with
 |norm=>cases a;simp at e0
 |ret=>obtain⟨_,rfl⟩:=a;simp at e0;exact hy none e0.2.1
 |exit id=>obtain⟨_,_,rfl⟩:=a;simp at e0;exact hy (some id) e0.2.1
 |pan a'=>cases a;simp at e0
theorem WI.to{x y:dD}(hs:∀(af:nN) (k:List dD) (cs:List nN),af.mode=.run→True→cK C {af with tm:=tm,todo:=x ::k} cs h nx=.next ⟨{af with tm:=tm,todo:=y ::k},cs,h,nx⟩)(hw:WI C y Q tm h nx):WI C x Q tm h nx:=by intro af k cs h1 h2;exact .step (bB h1 (hs af k cs h1 h2)) (hw af k cs h1 h2)
theorem W.skip(hq:Q .norm tm h nx):W C .skip Q tm h nx:=by intro af k cs h1 h2;exact .step (bB h1 rfl) (.now ⟨.norm,tm,h,nx,_,hq,rfl,rfl⟩)
theorem W.ret(hq:Q .ret tm h nx):W C .ret Q tm h nx:=by intro af k cs h1 h2;exact .now ⟨.ret,tm,h,nx,_,hq,⟨k,rfl⟩,rfl⟩
theorem W.exit{id:Nat}(hq:Q (.exit id) tm h nx):W C (.exit id) Q tm h nx:=by intro af k cs h1 h2;exact .now ⟨.exit id,tm,h,nx,_,hq,⟨k,rfl,rfl⟩,rfl⟩
theorem W.seq{a b:aI}(hw:W C a (fun e tm h nx=>match e with|.norm=>W C b Q tm h nx|e=>Q e tm h nx) tm h nx):W C (.seq a b) Q tm h nx:=by
 intro af k cs h1 h2;refine .step (m':=⟨{af with tm:=tm,todo:=.code a ::.code b ::k},cs,h,nx⟩) (bB h1 rfl) ((hw af (.code b ::k) cs h1 h2).bind ?_);rintro m ⟨e,ay,h',nx',fr,q,ha,rfl⟩;cases e with
 |norm=>cases ha;refine(q {af with tm:=ay} k cs h1 h2).mono ?_;rintro m ⟨e2,aJ,hh2,aN,OB,q2,a2,t2⟩;refine⟨e2,aJ,hh2,aN,OB,q2,?_,t2⟩;cases e2<;>exact a2
 |ret=>exact .now ⟨.ret,ay,h',nx',fr,q,ha,rfl⟩
 |exit id=>obtain⟨k2,e1,e2⟩:=ha;exact .now ⟨.exit id,ay,h',nx',fr,q,⟨k2,e1,e2⟩,rfl⟩
 |pan a=>exact .now ⟨.pan a,ay,h',nx',fr,q,ha,rfl⟩
theorem W.cond{x:PX}{a b:aI}{t:Bool}(hx:x.at tm=some (.bool t))(hw:W C (if t then a else b) Q tm h nx):W C (.cond x a b) Q tm h nx:=by refine WI.to (y:=.code (if t then a else b)) ?_ hw;intro af k cs h1 h2;simp only[cK,hx];cases t<;>rfl
theorem W.block{id:Nat}{c:aI}(hw:W C c (fun e tm h nx=>match e with|.exit j=>if j=id then Q .norm tm h nx else Q (.exit j) tm h nx|e=>Q e tm h nx) tm h nx):W C (.block id c) Q tm h nx:=by
 intro af k cs h1 h2;refine .step (m':=⟨{af with tm:=tm,todo:=.code c ::.inBlock id ::k},cs,h,nx⟩) (bB h1 rfl) ((hw af (.inBlock id ::k) cs h1 h2).bind ?_);rintro m ⟨e,ay,h',nx',fr,q,ha,rfl⟩;cases e with
 |norm=>cases ha;exact .step (bB h1 rfl) (.now ⟨.norm,ay,h',nx',_,q,rfl,rfl⟩)
 |ret=>exact .now ⟨.ret,ay,h',nx',fr,q,ha,rfl⟩
 |exit j=>
  obtain⟨k2,e1,rfl⟩:=ha;by_cases hj:j=id
  ·subst hj;simp only[if_true]at q;refine .step (m':=⟨{af with tm:=ay,todo:=k},cs,h',nx'⟩) (bB h1 ?_) (.now ⟨.norm,ay,h',nx',_,q,rfl,rfl⟩);simp only[cK,e1,nT,beqN_eq,decide_true,cond_true]
  ·simp only[if_neg hj]at q;refine .now ⟨.exit j,ay,h',nx',_,q,⟨k2,?_,rfl⟩,rfl⟩;rw[e1];simp only[nT,beqN_eq,show ¬id=j from fun e=>hj e.symm,decide_false,cond_false]
 |pan a=>exact .now ⟨.pan a,ay,h',nx',fr,q,ha,rfl⟩
theorem W.loop{c:aI}(Inv:Nat→T AV→T ah→Key→Prop)
  (hw:∀n tm h nx,Inv n tm h nx→W C c (fun e tm h nx=>match e with|.norm=>∃m,m<n∧Inv m tm h nx|e=>Q e tm h nx) tm h nx) {n:Nat} (hi:Inv n tm h nx):W C (.loop c) Q tm h nx:=by
 have key:∀(n:Nat) (tm:T AV) (h:T ah) (nx:Key),Inv n tm h nx→WI C (.inLoop c) Q tm h nx:=by
  intro n
  induction n using Nat.strongRecOn with
  |_ n ih=>
   intro tm h nx hi af k cs h1 h2;refine .step (m':=⟨{af with tm:=tm,todo:=.code c ::.inLoop c ::k},cs,h,nx⟩) (bB h1 rfl) ((hw n tm h nx hi af (.inLoop c ::k) cs h1 h2).bind ?_);rintro m ⟨e,ay,h',nx',fr,q,ha,rfl⟩;cases e with
   |norm=>cases ha;obtain⟨m,hm,him⟩:=q;refine(ih m hm ay h' nx' him {af with tm:=ay} k cs h1 h2).mono ?_;rintro m ⟨e2,aJ,hh2,aN,OB,q2,a2,t2⟩;refine⟨e2,aJ,hh2,aN,OB,q2,?_,t2⟩;cases e2<;>exact a2
   |ret=>exact .now ⟨.ret,ay,h',nx',fr,q,ha,rfl⟩
   |exit id=>obtain⟨k2,e1,e2⟩:=ha;exact .now ⟨.exit id,ay,h',nx',fr,q,⟨k2,e1,e2⟩,rfl⟩
   |pan a=>exact .now ⟨.pan a,ay,h',nx',fr,q,ha,rfl⟩
 intro af k cs h1 h2;exact Ev.same (by rw[bB (m:=⟨{af with tm:=tm,todo:=.inLoop c ::k},cs,h,nx⟩) h1 rfl,bB (m:=⟨{af with tm:=tm,todo:=.code (.loop c) ::k},cs,h,nx⟩) h1 rfl];rfl)
  (Stop.not (fun i e=>by cases i<;>cases e) h1) (key n tm h nx hi af k cs h1 h2)
inductive Out where
 |ret (v:AV)
 |pan (a:AV)
noncomputable def IP(C:bQ)(f:Nat):Option fe:=bif Nat.beq (Key.gj 12 f).toNat f then ae (Key.gj 12 f) C.fns else none
def Left(C:bQ)(f:Nat)(fr:nN)(h1:T ah)(o:Out)(h':T ah):Prop:=fr.dfs=[]∧match o with
 |.ret v=>fr.mode=.ret∧∃l,resultsA h1 fr.tm fr.res=some l∧v=pG (dc (C.mY f) l h1).1∧h'=(dc (C.mY f) l h1).2
 |.pan a=>fr.mode=.pan a false∧h'=h1
def aCH(C:bQ)(f:Nat)(R:Out→T ah→Key→Prop)(cs:List nN)(m:AM):Prop:=∃o h' nx' fr h1,R o h' nx'∧fr.fn=f∧fr.H6=false∧Left C f fr h1 o h'∧m=⟨fr,cs,h1,nx'⟩
def aG(C:bQ)(f:Nat)(l:List AV)(h:T ah)(nx:Key)(R:Out→T ah→Key→Prop):Prop:=
 (∃v h' nx',C.sum f l h nx=some (v,h',nx')∧R (.ret v) h' nx')∨
 (C.sum f l h nx=none∧∃p,IP C f=some p∧∀cs,Ev C (aCH C f R cs) ⟨ai f p l,cs,h,nx⟩)
theorem aG.mono{f:Nat}{l:List AV}{R R':Out→T ah→Key→Prop}(hc:aG C f l h nx R)(hr:∀o h nx,R o h nx→R' o h nx):aG C f l h nx R':=by
 rcases hc with⟨v,h',nx',h1,h2⟩|⟨h1,p,h2,h3⟩
 ·exact .inl ⟨v,h',nx',h1,hr _ _ _ h2⟩
 ·refine .inr ⟨h1,p,h2,fun cs=>(h3 cs).mono ?_⟩;rintro m ⟨o,h',nx',fr,h1,q,r⟩;exact⟨o,h',nx',fr,h1,hr _ _ _ q,r⟩
def Dz(C:bQ)(f:Nat)(res:List RV)(R:Out→T ah→Key→Prop):dh:=fun e tm h nx=>match e with
 |.norm|.ret=>∃l,resultsA h tm res=some l∧R (.ret (pG (dc (C.mY f) l h).1)) (dc (C.mY f) l h).2 nx
 |.pan a=>R (.pan a) h nx
 |.exit _=>False
theorem aG.adZ{f:Nat}{p:fe}{l:List AV}{R:Out→T ah→Key→Prop}(hs:C.sum f l h nx=none)(hp:IP C f=some p)(hw:W C p.body (Dz C f p.res R) (iN l .z .nil) h nx):aG C f l h nx R:=by
 refine .inr ⟨hs,p,hp,fun cs=>(hw (ai f p l) [] cs rfl trivial).bind ?_⟩;rintro m ⟨e,ay,h',nx',fr,q,ha,rfl⟩;cases e with
 |norm=>cases ha;obtain⟨l1,hl,hr⟩:=q;exact .step (m':=⟨{ai f p l with tm:=ay,todo:=[],mode:=.ret},cs,h',nx'⟩) (bB rfl rfl) (.now ⟨_,_,nx',_,h',hr,rfl,rfl,⟨rfl,rfl,l1,hl,rfl,rfl⟩,rfl⟩)
 |ret=>obtain⟨t',rfl⟩:=ha;obtain⟨l1,hl,hr⟩:=q;exact .step (m':=⟨{ai f p l with tm:=ay,todo:=.code .ret ::t',mode:=.ret},cs,h',nx'⟩) (bB rfl rfl) (.now ⟨_,_,nx',_,h',hr,rfl,rfl,⟨rfl,rfl,l1,hl,rfl,rfl⟩,rfl⟩)
 |exit id=>exact q.elim
 |pan a=>cases ha;exact .now ⟨.pan a,h',nx',_,h',q,rfl,rfl,⟨rfl,rfl,rfl⟩,rfl⟩
theorem W.ops{l:List aA}(hw:WI C (.ops l) Q tm h nx):W C (.ops l) Q tm h nx:=
 WI.to (y:=.ops l) (fun _ _ _ _ _=>rfl) hw
theorem WI.ati{l:List aA}{ay:T AV}{h':T ah}{nx':Key}(hr:lX C.orc l tm h nx=.fin ay h' nx')(hq:Q .norm ay h' nx'):WI C (.ops l) Q tm h nx:=by intro af k cs h1 h2;refine .step (m':=⟨{af with tm:=ay,todo:=k},cs,h',nx'⟩) (bB h1 ?_) (.now ⟨.norm,ay,h',nx',_,hq,rfl,rfl⟩);simp only[cK,hr]
theorem YE{S:AM→Prop}{f:Nat}{args:List AV}{fr c:nN}{cs:List nN}{R:Out→T ah→Key→Prop}(hc:aG C f (dc (C.raw f) args h).1 (dc (C.raw f) args h).2 nx R)
  (RG:∀v,∃iR,dw v fr=some iR) (Dk:fr.mode=.run) {m:AM} (hm:jP C m=jU C (.call f args) fr c cs h nx)
  (Cq:∀v h' nx' iR,R (.ret v) h' nx'→dw v fr=some iR→Ev C S ⟨iR,cs,h',nx'⟩)
  (ap4:∀a h' nx',R (.pan a) h' nx'→Ev C S ⟨{fr with mode:=.pan a false,todo:=[],tm:=(match fr.todo with|.staged _ d _ ::_=>LD d.ds fr.tm (fun t=>t)|_=>fr.tm)},cs,h',nx'⟩):Ev C S m:=by
 rcases hc with⟨v,h',nx',hs,hr⟩|⟨hs,p,hp,gM⟩
 ·obtain⟨iR,hf⟩:=RG v;refine .step (m':=⟨iR,cs,h',nx'⟩) ?_ (Cq v h' nx' iR hr hf);rw[hm];simp only[jU,yV,hs,hf]
 ·have hen:jP C m=.next ⟨ai f p (dc (C.raw f) args h).1,fr ::cs,(dc (C.raw f) args h).2,nx⟩:=by rw[hm];simp only[jU,yV,hs];unfold H7;have hp':(bif Nat.beq (Key.gj 12 f).toNat f then ae (Key.gj 12 f) C.fns else none)=some p:=hp;simp only[hp',EN];rfl
  refine .step hen ((gM (fr ::cs)).bind ?_);rintro m2 ⟨o,h',nx',OB,h1,hr,hfn,hdf,⟨hd,hL⟩,rfl⟩;cases o with
  |ret v=>obtain⟨Sa,l,hl,rfl,rfl⟩:=hL;obtain⟨iR,hf⟩:=RG (pG (dc (C.mY f) l h1).1);refine .step (m':=⟨iR,cs,(dc (C.mY f) l h1).2,nx'⟩) ?_ (Cq _ _ nx' iR hr hf);unfold jP;simp only[Sa];unfold AN;simp only[hd,Sa,hl,hfn,yV];unfold MX;simp only[hdf,cond_false,hf]
  |pan a=>obtain⟨Sa,rfl⟩:=hL;refine .step ?_ (ap4 a h' nx' hr);unfold jP;simp only[Sa];unfold AN;simp only[hd,Sa,Dk];rfl
theorem WI.ap5{l:List aA}{f:Nat}{args:List AV}{o:aA}{rest:List aA}{ef:T AV}{h1:T ah}{bS:Key}{R:Out→T ah→Key→Prop}(hr:lX C.orc l tm h nx=.ev (.call f args) (o ::rest) ef h1 bS)
  (hc:aG C f (dc (C.raw f) args h1).1 (dc (C.raw f) args h1).2 bS R)
  (Cq:∀v h2 aN,R (.ret v) h2 aN→WI C (.ops rest) Q (cr o.dst v ef) h2 aN)
  (ap4:∀a h2 aN,R (.pan a) h2 aN→Q (.pan a) ef h2 aN):WI C (.ops l) Q tm h nx:=by
 intro af k cs m1 m2;have ei:jP C ⟨{af with tm:=tm,todo:=.ops l ::k},cs,h,nx⟩=jU C (.call f args) {af with tm:=ef,todo:=.ops (o ::rest) ::k} {af with tm:=ef,todo:=[]} cs h1 bS:=by refine bB m1 ?_;simp only[cK,hr]
 have hfe:∀v,dw v {af with tm:=ef,todo:=.ops (o ::rest) ::k}=some {af with tm:=cr o.dst v ef,todo:=.ops rest ::k}:=fun v=>by simp only[dw,fO]
 refine YE (fr:={af with tm:=ef,todo:=.ops (o ::rest) ::k}) (c:={af with tm:=ef,todo:=[]}) (cs:=cs) hc (fun v=>⟨_,hfe v⟩) m1 ei ?_ ?_
 ·intro v h' nx' iR hR hf;rw[hfe]at hf;cases hf;refine(Cq v h' nx' hR {af with tm:=cr o.dst v ef} k cs m1 m2).mono ?_;rintro m ⟨e2,aJ,hh2,aN,OB,q2,a2,t2⟩;refine⟨e2,aJ,hh2,aN,OB,q2,?_,t2⟩;cases e2<;>exact a2
 ·intro a h' nx' hR;exact .now ⟨.pan a,ef,h',nx',_,ap4 a h' nx' hR,rfl,rfl⟩
theorem W.staged{l:List aS}{d:SD}(hw:WI C (.staged l d []) Q tm h nx):W C (.staged l d) Q tm h nx:=
 WI.to (y:=.staged l d []) (fun _ _ _ _ _=>rfl) hw
theorem WI.ax3{l:List aS}{d:SD}{au:List (Nat×Key×ah)}{ay:T AV}{h':T ah}{nx':Key}(hr:jn C.orc d.kB l au tm h nx=.fin ay h' nx')(hq:Q .norm ay h' nx'):WI C (.staged l d au) Q tm h nx:=by intro af k cs h1 h2;refine .step (m':=⟨{af with tm:=ay,todo:=k},cs,h',nx'⟩) (bB h1 ?_) (.now ⟨.norm,ay,h',nx',_,hq,rfl,rfl⟩);simp only[cK,hr]
theorem WI.atj{l:List aS}{d:SD}{au DS:List (Nat×Key×ah)}{f:Nat}{args:List AV}{i:Nat}{o:aA}{ad:List Nat}{rest:List aS}{ef:T AV}{h1:T ah}{bS:Key}{R:Out→T ah→Key→Prop}
  (hr:jn C.orc d.kB l au tm h nx=.ev (.call f args) (.H i o ad ::rest) DS ef h1 bS)
  (hc:aG C f (dc (C.raw f) args h1).1 (dc (C.raw f) args h1).2 bS R)
  (Cq:∀v h2 aN,R (.ret v) h2 aN→WI C (.staged rest d DS) Q (cr o.dst v ef) h2 aN)
  (ap4:∀a h2 aN,R (.pan a) h2 aN→Q (.pan a) (kV d.ds ef) h2 aN):WI C (.staged l d au) Q tm h nx:=by
 intro af k cs m1 m2;have ei:jP C ⟨{af with tm:=tm,todo:=.staged l d au ::k},cs,h,nx⟩=jU C (.call f args) {af with tm:=ef,todo:=.staged (.H i o ad ::rest) d DS ::k} {af with tm:=kV d.ds ef,todo:=[]} cs h1 bS:=by refine bB m1 ?_;simp only[cK,hr,qW]
 have hfe:∀v,dw v {af with tm:=ef,todo:=.staged (.H i o ad ::rest) d DS ::k}=some {af with tm:=cr o.dst v ef,todo:=.staged rest d DS ::k}:=fun v=>by simp only[dw,fO]
 refine YE (fr:={af with tm:=ef,todo:=.staged (.H i o ad ::rest) d DS ::k}) (c:={af with tm:=kV d.ds ef,todo:=[]}) (cs:=cs) hc (fun v=>⟨_,hfe v⟩) m1 ei ?_ ?_
 ·intro v h' nx' iR hR hf;rw[hfe]at hf;cases hf;refine(Cq v h' nx' hR {af with tm:=cr o.dst v ef} k cs m1 m2).mono ?_;rintro m ⟨e2,aJ,hh2,aN,OB,q2,a2,t2⟩;refine⟨e2,aJ,hh2,aN,OB,q2,?_,t2⟩;cases e2<;>exact a2
 ·intro a h' nx' hR;simp only[qW];exact .now ⟨.pan a,kV d.ds ef,h',nx',_,ap4 a h' nx' hR,rfl,rfl⟩
theorem WI.atk{l:List aA}{a:AV}{rest:List aA}{ef:T AV}{h1:T ah}{bS:Key}(hr:lX C.orc l tm h nx=.ev (.pan a) rest ef h1 bS)(hq:Q (.pan a) ef h1 bS):WI C (.ops l) Q tm h nx:=by intro af k cs m1 m2;refine .step (m':=⟨{af with tm:=ef,todo:=[],mode:=.pan a false},cs,h1,bS⟩) (bB m1 ?_) (.now ⟨.pan a,ef,h1,bS,_,hq,rfl,rfl⟩);simp only[cK,hr,jU]
noncomputable def atl:List Key→List AV→T AV→Option (T AV)
 | [],[],tm=>some tm
 |k ::l,v ::m,tm=>atl l m (aw k (some v) tm)
 |_,_,_=>none
theorem ad4{R:Type}:∀(l:List Key) (m:List AV) (tm:T AV) (bad:R) (c:T AV→R),Y9 l m tm bad c=match atl l m tm with|some tm=>c tm|none=>bad
 | [],[],_,_,_=>rfl
 | [],_ ::_,_,_,_=>rfl
 |_ ::_,[],_,_,_=>rfl
 |k ::l,v ::m,tm,bad,c=>by show yM k (some v) tm (fun tm=>Y9 l m tm bad c)=_;rw[sTCe];exact ad4 l m _ bad c
def Mm(R:Out→T ah→Key→Prop)(l:Key)(fn:Nat)(tm:T AV)(res:List RV)(ps:List Key)(a b:aI)(d:Key):dh:=fun e _ h nx=>(∃p,ae l h=some (.loop .busy p fn tm res ps a b d))∧match e with
 |.norm=>R (.ret (.bool true)) (aw l (some (.loop .ready none fn tm res ps a b d)) h) nx
 |.ret=>R (.ret (.bool false)) (aw l (some (.loop .done (some .ret) fn tm res ps a b d)) h) nx
 |.exit i=>R (.ret (.bool false)) (aw l (some (.loop .done (some (.exit i)) fn tm res ps a b d)) h) nx
 |.pan _=>False
def C8(C:bQ)(l:Key)(args:List AV)(h:T ah)(nx:Key)(R:Out→T ah→Key→Prop):Prop:=
 ∃fn tm res ps a b d,(∃p,ae l h=some (.loop .ready p fn tm res ps a b d))∧∃ef,atl ps args tm=some ef∧
  W C a (fun e aJ h2 aN=>e=.norm∧∃p,ae l h2=some (.loop .ready p fn tm res ps a b d)∧W C b (Mm R l fn tm res ps a b d) aJ (aw l (some (.loop .busy p fn tm res ps a b d)) h2) aN) ef h nx
theorem Jl{jump:Option aI}{fr c c':nN}{cs:List nN}{l:Key}{st:LS}{p:Option aI}{fn:Nat}{ef:T AV}{res:List RV}{ps:List Key}{a b:aI}{d:Key}(hr:fr.vW=some l)(hl:ae l h=some (.loop st p fn ef res ps a b d))
  (hf:dw (.bool (match jump with|none=>true|some _=>false)) c=some c'):LP jump fr (c ::cs) h nx=.next ⟨c',cs,aw l (some (.loop (match jump with|none=>.ready|some _=>.done) jump fn ef res ps a b d)) h,nx⟩:=by
 unfold LP;rw[hr];dsimp only;rw[hl];cases jump with
 |none=>have hf:dw (.bool true) c=some c':=hf;simp only[sTCe,hf]
 |some j=>have hf:dw (.bool false) c=some c':=hf;simp only[sTCe,hf]
theorem ad5{S:AM→Prop}{l:Key}{args:List AV}{fr c:nN}{cs:List nN}{R:Out→T ah→Key→Prop}(hc:C8 C l args h nx R)
  (RG:∀v,∃iR,dw v fr=some iR) {m:AM} (hm:jP C m=jU C (.yld l args) fr c cs h nx)
  (Cq:∀v h' nx' iR,R (.ret v) h' nx'→dw v fr=some iR→Ev C S ⟨iR,cs,h',nx'⟩):Ev C S m:=by
 obtain⟨fn,tm,res,ps,a,b,d,⟨p,hl⟩,ef,hz,hw⟩:=hc;refine .step (m':=⟨{fn:=fn,tm:=ef,todo:=[.code a,.beginRound,.code b],dfs:=[],mode:=.run,H6:=false,vW:=some l,res:=res},fr ::cs,h,nx⟩) ?_ ?_
 ·rw[hm];simp only[jU,hl,ad4,hz]
 ·refine(hw {fn:=fn,tm:=ef,todo:=[],dfs:=[],mode:=.run,H6:=false,vW:=some l,res:=res} [.beginRound,.code b] (fr ::cs) rfl trivial).bind ?_;rintro m2 ⟨e,aJ,h2,aN,OB,⟨rfl,p2,QN,OF⟩,ha,rfl⟩;cases ha;refine .step (m':=⟨{fn:=fn,tm:=aJ,todo:=[.code b],dfs:=[],mode:=.run,H6:=false,vW:=some l,res:=res},fr ::cs,aw l (some (.loop .busy p2 fn tm res ps a b d)) h2,aN⟩) (bB rfl ?_) ?_
  ·simp only[cK,QN,sTCe]
  ·refine(OF {fn:=fn,tm:=aJ,todo:=[],dfs:=[],mode:=.run,H6:=false,vW:=some l,res:=res} [] (fr ::cs) rfl trivial).bind ?_;rintro m3 ⟨e,Pb,h3,bY,fr3,⟨⟨p3,hl3⟩,q⟩,ha,rfl⟩;cases e with
   |norm=>cases ha;obtain⟨iR,hf⟩:=RG (.bool true);refine .step (m':=⟨iR,cs,_,bY⟩) (bB rfl ?_) (Cq _ _ bY iR q hf);exact Jl (jump:=none) (fr:={fn:=fn,tm:=Pb,todo:=[],dfs:=[],mode:=.run,H6:=false,vW:=some l,res:=res}) rfl hl3 hf
   |ret=>obtain⟨t,rfl⟩:=ha;obtain⟨iR,hf⟩:=RG (.bool false);refine .step (m':=⟨iR,cs,_,bY⟩) (bB rfl ?_) (Cq _ _ bY iR q hf);exact Jl (jump:=some .ret) (fr:={fn:=fn,tm:=Pb,todo:=.code .ret ::t,dfs:=[],mode:=.run,H6:=false,vW:=some l,res:=res}) rfl hl3 hf
   |exit i=>obtain⟨k2,hk,rfl⟩:=ha;obtain⟨iR,hf⟩:=RG (.bool false);refine .step (m':=⟨iR,cs,_,bY⟩) (bB rfl ?_) (Cq _ _ bY iR q hf);have hk:nT i k2=none:=hk;simp only[cK,hk];exact Jl (jump:=some (.exit i)) (fr:={fn:=fn,tm:=Pb,todo:=.code (.exit i) ::k2,dfs:=[],mode:=.run,H6:=false,vW:=some l,res:=res}) rfl hl3 hf
   |pan a=>exact q.elim
theorem WI.atm{l:List aA}{lk:Key}{args:List AV}{o:aA}{rest:List aA}{ef:T AV}{h1:T ah}{bS:Key}{R:Out→T ah→Key→Prop}(hr:lX C.orc l tm h nx=.ev (.yld lk args) (o ::rest) ef h1 bS)
  (hc:C8 C lk args h1 bS R) (Cq:∀v h2 aN,R (.ret v) h2 aN→WI C (.ops rest) Q (cr o.dst v ef) h2 aN):WI C (.ops l) Q tm h nx:=by
 intro af k cs m1 m2;have ei:jP C ⟨{af with tm:=tm,todo:=.ops l ::k},cs,h,nx⟩=jU C (.yld lk args) {af with tm:=ef,todo:=.ops (o ::rest) ::k} {af with tm:=ef,todo:=[]} cs h1 bS:=by refine bB m1 ?_;simp only[cK,hr]
 have hfe:∀v,dw v {af with tm:=ef,todo:=.ops (o ::rest) ::k}=some {af with tm:=cr o.dst v ef,todo:=.ops rest ::k}:=fun v=>by simp only[dw,fO]
 refine ad5 (fr:={af with tm:=ef,todo:=.ops (o ::rest) ::k}) (c:={af with tm:=ef,todo:=[]}) (cs:=cs) hc (fun v=>⟨_,hfe v⟩) ei ?_;intro v h' nx' iR hR hf;rw[hfe]at hf;cases hf;refine(Cq v h' nx' hR {af with tm:=cr o.dst v ef} k cs m1 m2).mono ?_;rintro m ⟨e2,aJ,hh2,aN,OB,q2,a2,t2⟩;refine⟨e2,aJ,hh2,aN,OB,q2,?_,t2⟩;cases e2<;>exact a2
theorem WI.ax4{l:List aS}{d:SD}{au DS:List (Nat×Key×ah)}{lk:Key}{args:List AV}{i:Nat}{o:aA}{ad:List Nat}{rest:List aS}{ef:T AV}{h1:T ah}{bS:Key}{R:Out→T ah→Key→Prop}
  (hr:jn C.orc d.kB l au tm h nx=.ev (.yld lk args) (.H i o ad ::rest) DS ef h1 bS)
  (hc:C8 C lk args h1 bS R) (Cq:∀v h2 aN,R (.ret v) h2 aN→WI C (.staged rest d DS) Q (cr o.dst v ef) h2 aN):WI C (.staged l d au) Q tm h nx:=by
 intro af k cs m1 m2;have ei:jP C ⟨{af with tm:=tm,todo:=.staged l d au ::k},cs,h,nx⟩=jU C (.yld lk args) {af with tm:=ef,todo:=.staged (.H i o ad ::rest) d DS ::k} {af with tm:=kV d.ds ef,todo:=[]} cs h1 bS:=by refine bB m1 ?_;simp only[cK,hr,qW]
 have hfe:∀v,dw v {af with tm:=ef,todo:=.staged (.H i o ad ::rest) d DS ::k}=some {af with tm:=cr o.dst v ef,todo:=.staged rest d DS ::k}:=fun v=>by simp only[dw,fO]
 refine ad5 (fr:={af with tm:=ef,todo:=.staged (.H i o ad ::rest) d DS ::k}) (c:={af with tm:=kV d.ds ef,todo:=[]}) (cs:=cs) hc (fun v=>⟨_,hfe v⟩) ei ?_;intro v h' nx' iR hR hf;rw[hfe]at hf;cases hf;refine(Cq v h' nx' hR {af with tm:=cr o.dst v ef} k cs m1 m2).mono ?_;rintro m ⟨e2,aJ,hh2,aN,OB,q2,a2,t2⟩;refine⟨e2,aJ,hh2,aN,OB,q2,?_,t2⟩;cases e2<;>exact a2
end
end Go.Sx
namespace Go.Sx
def K(n:Nat):Key:=bif Nat.blt n 4095 then Key.gj 12 n else Key.gj n n
theorem sP:∀(f n:Nat),n+1<2^(f+1)→(Key.gj f n).toNat=n
 |0,n,h=>by
  have:n=0:=by omega
  subst this;rfl
 |f+1,n,h=>by
  unfold Key.gj;have hp:2^(f+1+1)=2*2^(f+1):=by rw[Nat.pow_succ,Nat.mul_comm]
  cases h0:Nat.beq n 0 with
  |true=>have:=rZ h0;subst this;rfl
  |false=>
   have hn:n≠0:=by intro e;subst e;cases h0
   simp only[cond_false];cases h1:Nat.beq (n%2) 1 with
   |true=>have h1:=rZ h1;simp only[cond_true,Key.toNat,sP f (n / 2) (by omega)];omega
   |false=>
    have h1:n%2≠1:=by intro e;rw[e]at h1;cases h1
    simp only[cond_false,Key.toNat,sP f (n / 2-1) (by omega)];omega
theorem Tm(n:Nat):(K n).toNat=n:=by
 unfold K;cases h:Nat.blt n 4095 with
 |true=>rw[bltN_eq,decide_eq_true_eq]at h;exact sP 12 n (by omega)
 |false=>refine sP n n ?_;have:n+1<2^(n+1):=Nat.lt_two_pow_self;exact this
theorem aCE{i j:Nat}(h:K i=K j):i=j:=by rw[←Tm i,←Tm j,h]
theorem axf(n:Nat):(K n).succ=K (n+1):=Key.toNat_inj (by rw[kTSu,Tm,Tm])
theorem get_set_K{α:Type}(i j:Nat)(v:Option α)(t:T α):ae (K i) (aw (K j) v t)=if i=j then v else ae (K i) t:=by
 by_cases h:i=j
 ·subst h;rw[if_pos rfl,gTSm]
 ·rw[if_neg h,aU _ _ _ _ (fun e=>h (aCE e))]
section
variable{orc:jR}{tm:T AV}{h:T ah}{nx:Key}
theorem at_t(k:Key):(PX.t k).at tm=ae k tm:=rfl
theorem at_v(a:AV):(PX.v a).at tm=some a:=rfl
theorem ahq:lX orc [] tm h nx=.fin tm h nx:=rfl
theorem putTm_some(k:Key)(v:AV):cr (some k) v tm=aw k (some v) tm:=rfl
theorem putTm_none(v:AV):cr none v tm=tm:=rfl
theorem wants_none:di none tm=some true:=rfl
theorem wants_some(k:Key)(b:Bool):di (some (k,b)) tm=match ae k tm with
  |some (.bool c)=>some (c==b)
  |some (.tuple [])=>some false
  |_=>none:=rfl
theorem ltI_dec(a b:Int):X3 a b=decide (a<b):=PT a b
theorem aB{n:Int}(h1:-9223372036854775808≤n)(h2:n<9223372036854775808):aW .i64 n=n:=by
 rw[iC];have:IntKind.wrap .i64 n=n:=by
  rw[←iC];simp only[aW,full,half,PT];have h3:Int.emod n 18446744073709551616=n%18446744073709551616:=rfl;rw[h3];by_cases h0:0≤n
  ·rw[show n%18446744073709551616=n by omega];have:decide (n<9223372036854775808)=true:=by simpa using h2
   rw[this];rfl
  ·rw[show n%18446744073709551616=n+18446744073709551616 by omega];have:decide (n+18446744073709551616<9223372036854775808)=false:=by simp;omega
   rw[this];show n+18446744073709551616-18446744073709551616=n;omega
 exact this
end
end Go.Sx
namespace Go.Sx
open Go.RowKit
def wpG(t:Option Bool)(A B:Prop):Prop:=match t with
 |none=>False
 |some t=>(t=true→A)∧(t=false→B)
noncomputable def lA(C:bQ)(Q:dh):List aA→T AV→T ah→Key→Prop
 | [],tm,h,nx=>Q .norm tm h nx
 |o ::l,tm,h,nx=>wpG (di o.guard tm)
   (match aOp C.orc o.op tm h nx with
   |.val v h nx=>lA C Q l (cr o.dst v tm) h nx
   |.call f args=>aG C f (dc (C.raw f) args h).1 (dc (C.raw f) args h).2 nx (fun out h nx=>match out with
    |.ret v=>lA C Q l (cr o.dst v tm) h nx
    |.pan a=>Q (.pan a) tm h nx)
   |.yld k args=>C8 C k args h nx (fun out h nx=>match out with
    |.ret v=>lA C Q l (cr o.dst v tm) h nx
    |.pan a=>Q (.pan a) tm h nx)
   |.pan a=>Q (.pan a) tm h nx
   |_=>False)
   (lA C Q l (cr o.dst (.tuple []) tm) h nx)
noncomputable def wpS(C:bQ)(Q:dh)(d:SD):List aS→List (Nat×Key×ah)→T AV→T ah→Key→Prop
 | [],au,tm,h,nx=>Q .norm tm (dJ au h) nx
 |.L i o ::l,au,tm,h,nx=>wpG (di o.guard tm)
   (match lightOp C.orc o.op tm (zf (HF i d.kB) au h)with
   |some v=>wpS C Q d l au (cr o.dst v tm) h nx
   |none=>False)
   (wpS C Q d l au (cr o.dst (.tuple []) tm) h nx)
 |.A i o ::l,au,tm,h,nx=>wpG (di o.guard tm)
   (match allocOp o.op tm with
   |some (v,b)=>wpS C Q d l ((i,nx,b) ::au) (cr o.dst (v nx) tm) h nx.succ
   |none=>False)
   (wpS C Q d l au (cr o.dst (.tuple []) tm) h nx)
 |.H i o ad ::l,au,tm,h,nx=>wpG (di o.guard tm)
   (match aOp C.orc o.op tm (dJ (au.filter fun x=>memN x.1 ad) h) nx with
   |.val v h nx=>wpS C Q d l (au.filter fun x=>!(memN x.1 ad)) (cr o.dst v tm) h nx
   |.call f args=>aG C f (dc (C.raw f) args (dJ (au.filter fun x=>memN x.1 ad) h)).1 (dc (C.raw f) args (dJ (au.filter fun x=>memN x.1 ad) h)).2 nx (fun out h nx=>match out with
    |.ret v=>wpS C Q d l (au.filter fun x=>!(memN x.1 ad)) (cr o.dst v tm) h nx
    |.pan a=>Q (.pan a) (kV d.ds tm) h nx)
   |.yld k args=>C8 C k args (dJ (au.filter fun x=>memN x.1 ad) h) nx (fun out h nx=>match out with
    |.ret v=>wpS C Q d l (au.filter fun x=>!(memN x.1 ad)) (cr o.dst v tm) h nx
    |.pan a=>Q (.pan a) (kV d.ds tm) h nx)
   |.pan a=>Q (.pan a) (kV d.ds tm) (dJ (au.filter fun x=>memN x.1 ad) h) nx
   |_=>False)
   (wpS C Q d l (au.filter fun x=>!(memN x.1 ad)) (cr o.dst (.tuple []) tm) (dJ (au.filter fun x=>memN x.1 ad) h) nx)
 |.R os ::l,au,tm,h,nx=>recheck C.orc d.kB au tm h os=true∧wpS C Q d l au tm h nx
def aQ(W:T AV→T ah→Key→Prop)(Q:dh):dh:=fun e tm h nx=>match e with
 |.norm=>W tm h nx
 |e=>Q e tm h nx
def aC(id:Nat)(Q:dh):dh:=fun e tm h nx=>match e with
 |.exit j=>if j=id then Q .norm tm h nx else Q (.exit j) tm h nx
 |e=>Q e tm h nx
noncomputable def gn(C:bQ):aI→dh→T AV→T ah→Key→Prop
 |.skip,Q,tm,h,nx=>Q .norm tm h nx
 |.ops l,Q,tm,h,nx=>lA C Q l tm h nx
 |.staged l d,Q,tm,h,nx=>wpS C Q d l [] tm h nx
 |.seq a b,Q,tm,h,nx=>gn C a (aQ (gn C b Q) Q) tm h nx
 |.cond x a b,Q,tm,h,nx=>match x.at tm with
  |some (.bool t)=>(t=true→gn C a Q tm h nx)∧(t=false→gn C b Q tm h nx)
  |_=>False
 |.block id c,Q,tm,h,nx=>gn C c (aC id Q) tm h nx
 |.loop c,Q,tm,h,nx=>W C (.loop c) Q tm h nx
 |.rangeF f ps a b,Q,tm,h,nx=>W C (.rangeF f ps a b) Q tm h nx
 |.exit id,Q,tm,h,nx=>Q (.exit id) tm h nx
 |.ret,Q,tm,h,nx=>Q .ret tm h nx
section
variable{C:bQ}{Q:dh}
theorem WI.same{x y:dD}{tm aJ:T AV}{h h2:T ah}{nx aN:Key}(hy:∀i,y≠.code (Lv i))(hs:∀(af:nN) (k:List dD) (cs:List nN),af.mode=.run→cK C {af with tm:=tm,todo:=x ::k} cs h nx=cK C {af with tm:=aJ,todo:=y ::k} cs h2 aN)
  (hw:WI C y Q aJ h2 aN):WI C x Q tm h nx:=by
 intro af k cs h1 SU;exact Ev.same (by rw[bB (m:=⟨{af with tm:=aJ,todo:=y ::k},cs,h2,aN⟩) h1 rfl,bB (m:=⟨{af with tm:=tm,todo:=x ::k},cs,h,nx⟩) h1 rfl];exact hs af k cs h1)
  (Stop.not hy h1) (hw af k cs h1 SU)
theorem Ek:∀{l:List aA} {tm:T AV} {h:T ah} {nx:Key},lA C Q l tm h nx→WI C (.ops l) Q tm h nx
 | [],tm,h,nx,hw=>WI.ati ahq hw
 |o ::l,tm,h,nx,hw=>by
  unfold lA at hw;cases hg:di o.guard tm with
  |none=>rw[hg]at hw;exact hw.elim
  |some t=>
   rw[hg]at hw;have Lg:∀{aJ:T AV} {h2:T ah} {aN:Key},lX C.orc (o ::l) tm h nx=lX C.orc l aJ h2 aN→lA C Q l aJ h2 aN→WI C (.ops (o ::l)) Q tm h nx:=by intro aJ h2 aN he OF;refine WI.same (y:=.ops l) (fun i e=>by cases i<;>cases e) ?_ (Ek OF);intro af k cs _;show(match lX C.orc (o ::l) tm h nx with|.fin tm h nx=>_|.ev r rest tm h nx=>_)=(match lX C.orc l aJ h2 aN with|.fin tm h nx=>_|.ev r rest tm h nx=>_);rw[he]
   cases t with
   |false=>refine Lg ?_ (hw.2 rfl);rw[ry,hg];simp only[fO]
   |true=>
    have hw:=hw.1 rfl;cases ha:aOp C.orc o.op tm h nx with
    |val v h' nx'=>rw[ha]at hw;refine Lg ?_ hw;rw[ry,hg,ha];simp only[fO]
    |call f args=>rw[ha]at hw;refine WI.ap5 (by rw[ry,hg,ha]) hw (fun v h2 aN hr=>Ek hr) (fun a h2 aN hr=>hr)
    |pan a=>rw[ha]at hw;exact WI.atk (by rw[ry,hg,ha]) hw
    |yld k args=>rw[ha]at hw;exact WI.atm (by rw[ry,hg,ha]) hw (fun v h2 aN hr=>Ek hr)
    |dfr f args=>rw[ha]at hw;exact hw.elim
    |recover=>rw[ha]at hw;exact hw.elim
    |bad n=>rw[ha]at hw;exact hw.elim
theorem El{d:SD}:∀{l:List aS} {au:List (Nat×Key×ah)} {tm:T AV} {h:T ah} {nx:Key},wpS C Q d l au tm h nx→WI C (.staged l d au) Q tm h nx
 | [],au,tm,h,nx,hw=>WI.ax3 (by show Ig au h (fun h=>RS.fin tm h nx)=_;rw[Jm]) hw
 |x ::l,au,tm,h,nx,hw=>by
  have Lg:∀{pend2:List (Nat×Key×ah)} {aJ:T AV} {h2:T ah} {aN:Key},jn C.orc d.kB (x ::l) au tm h nx=jn C.orc d.kB l pend2 aJ h2 aN→wpS C Q d l pend2 aJ h2 aN→WI C (.staged (x ::l) d au) Q tm h nx:=by intro pend2 aJ h2 aN he OF;refine WI.same (y:=.staged l d pend2) (fun i e=>by cases i<;>cases e) ?_ (El OF);intro af k cs _;show(match jn C.orc d.kB (x ::l) au tm h nx with|.fin tm h nx=>_|.ev r rest au tm h nx=>_)=(match jn C.orc d.kB l pend2 aJ h2 aN with|.fin tm h nx=>_|.ev r rest au tm h nx=>_);rw[he]
  cases x with
  |L i o=>
   unfold wpS at hw;cases hg:di o.guard tm with
   |none=>rw[hg]at hw;exact hw.elim
   |some t=>
    rw[hg]at hw;cases t with
    |false=>refine Lg ?_ (hw.2 rfl);rw[aax,hg];simp only[fO]
    |true=>
     have hw:=hw.1 rfl;cases hl:lightOp C.orc o.op tm (zf (HF i d.kB) au h)with
     |none=>rw[hl]at hw;exact hw.elim
     |some v=>rw[hl]at hw;refine Lg ?_ hw;rw[aax,hg,hl];simp only[fO]
  |A i o=>
   unfold wpS at hw;cases hg:di o.guard tm with
   |none=>rw[hg]at hw;exact hw.elim
   |some t=>
    rw[hg]at hw;cases t with
    |false=>refine Lg ?_ (hw.2 rfl);rw[aay,hg];simp only[fO]
    |true=>
     have hw:=hw.1 rfl;cases hl:allocOp o.op tm with
     |none=>rw[hl]at hw;exact hw.elim
     |some vb=>obtain⟨v,b⟩:=vb;rw[hl]at hw;refine Lg ?_ hw;rw[aay,hg,hl];simp only[fO]
  |H i o ad=>
   unfold wpS at hw;cases hg:di o.guard tm with
   |none=>rw[hg]at hw;exact hw.elim
   |some t=>
    rw[hg]at hw;cases t with
    |false=>refine Lg ?_ (hw.2 rfl);rw[aaz,zH,hg];simp only[fO]
    |true=>
     have hw:=hw.1 rfl;have gM:jn C.orc d.kB (.H i o ad ::l) au tm h nx=(match aOp C.orc o.op tm (dJ (au.filter fun x=>memN x.1 ad) h) nx with
       |.val v h nx=>ze o.dst (some v) tm fun tm=>jn C.orc d.kB l (au.filter fun x=>!(memN x.1 ad)) tm h nx
       |r=>.ev r (.H i o ad ::l) (au.filter fun x=>!(memN x.1 ad)) tm (dJ (au.filter fun x=>memN x.1 ad) h) nx):=by
      rw[aaz,zH,hg];rfl
     cases ha:aOp C.orc o.op tm (dJ (au.filter fun x=>memN x.1 ad) h) nx with
     |val v h' nx'=>rw[ha]at hw gM;refine Lg ?_ hw;rw[gM];simp only[fO]
     |call f args=>rw[ha]at hw gM;exact WI.atj gM hw (fun v h2 aN hr=>El hr) (fun a h2 aN hr=>hr)
     |pan a=>rw[ha]at hw gM;intro af k cs m1 m2;refine .step (m':=⟨{af with tm:=kV d.ds tm,todo:=[],mode:=.pan a false},cs,_,nx⟩) (bB m1 ?_) (.now ⟨.pan a,kV d.ds tm,_,nx,_,hw,rfl,rfl⟩);simp only[cK,gM,qW,jU]
     |yld k args=>rw[ha]at hw gM;exact WI.ax4 gM hw (fun v h2 aN hr=>El hr)
     |dfr f args=>rw[ha]at hw;exact hw.elim
     |recover=>rw[ha]at hw;exact hw.elim
     |bad n=>rw[ha]at hw;exact hw.elim
  |R os=>unfold wpS at hw;refine Lg ?_ hw.2;rw[ZG,hw.1];rfl
theorem om:∀{c:aI} {Q:dh} {tm:T AV} {h:T ah} {nx:Key},gn C c Q tm h nx→W C c Q tm h nx
 |.skip,Q,tm,h,nx,hw=>W.skip hw
 |.ops l,Q,tm,h,nx,hw=>W.ops (Ek hw)
 |.staged l d,Q,tm,h,nx,hw=>W.staged (El hw)
 |.seq a b,Q,tm,h,nx,hw=>by
  have hw:gn C a (aQ (gn C b Q) Q) tm h nx:=hw;refine W.seq ((om hw).mono fun e tm h nx hq=>?_);cases e with
  |norm=>exact om hq
  |_=>exact hq
 |.cond x a b,Q,tm,h,nx,hw=>by
  unfold gn at hw;split at hw
  ·rename_i t hx;refine W.cond hx ?_;cases t with
   |true=>exact om (hw.1 rfl)
   |false=>exact om (hw.2 rfl)
  ·exact hw.elim
 |.block id c,Q,tm,h,nx,hw=>by
  have hw:gn C c (aC id Q) tm h nx:=hw;refine W.block ((om hw).mono fun e tm h nx hq=>?_);cases e with
  |exit j=>exact hq
  |_=>exact hq
 |.loop c,Q,tm,h,nx,hw=>hw
 |.rangeF f ps a b,Q,tm,h,nx,hw=>hw
 |.exit id,Q,tm,h,nx,hw=>W.exit hw
 |.ret,Q,tm,h,nx,hw=>W.ret hw
theorem aG.of_wp{f:Nat}{p:fe}{l:List AV}{h:T ah}{nx:Key}{R:Out→T ah→Key→Prop}(hs:C.sum f l h nx=none)(hp:IP C f=some p)(hw:gn C p.body (Dz C f p.res R) (iN l .z .nil) h nx):aG C f l h nx R:=
 aG.adZ hs hp (om hw)
end
end Go.Sx
namespace Go.Sx
noncomputable def A(b:Key):Nat→Key
 |0=>b
 |i+1=>(A b i).succ
theorem aiw(b:Key):∀i,(A b i).toNat=b.toNat+i
 |0=>rfl
 |i+1=>by simp only[A,kTSu,aiw b i];omega
@[simp] theorem aIL(b:Key)(i:Nat):(A b i).succ=A b (i+1):=rfl
@[simp] theorem aza{α:Type}(b:Key)(i j:Nat)(v:Option α)(t:T α):ae (A b i) (aw (A b j) v t)=if i=j then v else ae (A b i) t:=by
 by_cases h:i=j
 ·subst h;rw[if_pos rfl,gTSm]
 ·rw[if_neg h,aU];intro e;have:=congrArg Key.toNat e;simp only[aiw]at this;omega
theorem acd{α:Type}{b:Key}{c:Key}(v:Option α)(t:T α)(h:b.toNat<c.toNat):ae b (aw c v t)=ae b t:=
 aU _ _ _ _ (fun e=>by rw[e]at h;exact absurd h (Nat.lt_irrefl _))
attribute [simp] get_set_K at_t at_v putTm_some putTm_none wants_none wants_some okV sTCe
@[simp] theorem ZL(W:T AV→T ah→Key→Prop)(Q:dh)(tm:T AV)(h:T ah)(nx:Key):aQ W Q .norm tm h nx=W tm h nx:=propext Iff.rfl
@[simp] theorem auJ(W:T AV→T ah→Key→Prop)(Q:dh)(tm:T AV)(h:T ah)(nx:Key):aQ W Q .ret tm h nx=Q .ret tm h nx:=propext Iff.rfl
@[simp] theorem ash(W:T AV→T ah→Key→Prop)(Q:dh)(i:Nat)(tm:T AV)(h:T ah)(nx:Key):aQ W Q (.exit i) tm h nx=Q (.exit i) tm h nx:=propext Iff.rfl
@[simp] theorem auK(W:T AV→T ah→Key→Prop)(Q:dh)(a:AV)(tm:T AV)(h:T ah)(nx:Key):aQ W Q (.pan a) tm h nx=Q (.pan a) tm h nx:=propext Iff.rfl
@[simp] theorem aop(j:Nat)(Q:dh)(tm:T AV)(h:T ah)(nx:Key):aC j Q .norm tm h nx=Q .norm tm h nx:=propext Iff.rfl
@[simp] theorem aqU(j:Nat)(Q:dh)(tm:T AV)(h:T ah)(nx:Key):aC j Q .ret tm h nx=Q .ret tm h nx:=propext Iff.rfl
@[simp] theorem aoq(j:Nat)(Q:dh)(i:Nat)(tm:T AV)(h:T ah)(nx:Key):aC j Q (.exit i) tm h nx=if i=j then Q .norm tm h nx else Q (.exit i) tm h nx:=propext Iff.rfl
@[simp] theorem aqV(j:Nat)(Q:dh)(a:AV)(tm:T AV)(h:T ah)(nx:Key):aC j Q (.pan a) tm h nx=Q (.pan a) tm h nx:=propext Iff.rfl
theorem yL{p q:Prop}(h:p↔q):p=q:=propext h
section
variable(C:bQ)(Q:dh)(tm:T AV)(h:T ah)(nx:Key)(d:SD)(au:List (Nat×Key×ah))
@[simp] theorem ace(t:Bool)(A B:Prop):wpG (some t) A B=((t=true→A)∧(t=false→B)):=yL Iff.rfl
@[simp] theorem aBm(A B:Prop):wpG none A B=False:=yL Iff.rfl
@[simp] theorem aBn:gn C .skip Q tm h nx=Q .norm tm h nx:=yL Iff.rfl
@[simp] theorem cz(l:List aA):gn C (.ops l) Q tm h nx=lA C Q l tm h nx:=yL Iff.rfl
@[simp] theorem bO(l:List aS)(d:SD):gn C (.staged l d) Q tm h nx=wpS C Q d l [] tm h nx:=yL Iff.rfl
@[simp] theorem bM(a b:aI):gn C (.seq a b) Q tm h nx=gn C a (aQ (gn C b Q) Q) tm h nx:=yL Iff.rfl
@[simp] theorem gL(x:PX)(a b:aI):gn C (.cond x a b) Q tm h nx=(match x.at tm with
  |some (.bool t)=>(t=true→gn C a Q tm h nx)∧(t=false→gn C b Q tm h nx)
  |_=>False):=yL Iff.rfl
@[simp] theorem Dy(id:Nat)(c:aI):gn C (.block id c) Q tm h nx=gn C c (aC id Q) tm h nx:=yL Iff.rfl
@[simp] theorem aBo(c:aI):gn C (.loop c) Q tm h nx=W C (.loop c) Q tm h nx:=yL Iff.rfl
@[simp] theorem aBp(id:Nat):gn C (.exit id) Q tm h nx=Q (.exit id) tm h nx:=yL Iff.rfl
@[simp] theorem aD5:gn C .ret Q tm h nx=Q .ret tm h nx:=yL Iff.rfl
@[simp] theorem arJ:lA C Q [] tm h nx=Q .norm tm h nx:=yL Iff.rfl
def KO(o:aA)(l:List aA):Out→T ah→Key→Prop:=fun out h nx=>match out with
 |.ret v=>lA C Q l (cr o.dst v tm) h nx
 |.pan a=>Q (.pan a) tm h nx
def KS(o:aA)(l:List aS):Out→T ah→Key→Prop:=fun out h nx=>match out with
 |.ret v=>wpS C Q d l au (cr o.dst v tm) h nx
 |.pan a=>Q (.pan a) (kV d.ds tm) h nx
@[simp] theorem aIM(o:aA)(l:List aA)(v:AV):KO C Q tm o l (.ret v) h nx=lA C Q l (cr o.dst v tm) h nx:=yL Iff.rfl
@[simp] theorem aIN(o:aA)(l:List aA)(a:AV):KO C Q tm o l (.pan a) h nx=Q (.pan a) tm h nx:=yL Iff.rfl
@[simp] theorem aIO(o:aA)(l:List aS)(v:AV):KS C Q tm d au o l (.ret v) h nx=wpS C Q d l au (cr o.dst v tm) h nx:=yL Iff.rfl
@[simp] theorem aIP(o:aA)(l:List aS)(a:AV):KS C Q tm d au o l (.pan a) h nx=Q (.pan a) (kV d.ds tm) h nx:=yL Iff.rfl
def W6(o:aA)(l:List aA)(t:Option Bool):Prop:=wpG t
   (match aOp C.orc o.op tm h nx with
   |.val v h nx=>lA C Q l (cr o.dst v tm) h nx
   |.call f args=>aG C f (dc (C.raw f) args h).1 (dc (C.raw f) args h).2 nx (KO C Q tm o l)
   |.yld k args=>C8 C k args h nx (KO C Q tm o l)
   |.pan a=>Q (.pan a) tm h nx
   |_=>False)
   (lA C Q l (cr o.dst (.tuple []) tm) h nx)
@[simp] theorem abo(o:aA)(l:List aA):lA C Q (o ::l) tm h nx=W6 C Q tm h nx o l (di o.guard tm):=yL (by rw[lA];exact Iff.rfl)
@[simp] theorem X4(o:aA)(l:List aA):W6 C Q tm h nx o l (some true)=(match aOp C.orc o.op tm h nx with
   |.val v h nx=>lA C Q l (cr o.dst v tm) h nx
   |.call f args=>aG C f (dc (C.raw f) args h).1 (dc (C.raw f) args h).2 nx (KO C Q tm o l)
   |.yld k args=>C8 C k args h nx (KO C Q tm o l)
   |.pan a=>Q (.pan a) tm h nx
   |_=>False):=by simp[W6]
@[simp] theorem awQ(o:aA)(l:List aA):W6 C Q tm h nx o l (some false)=lA C Q l (cr o.dst (.tuple []) tm) h nx:=by simp[W6]
@[simp] theorem azb(o:aA)(l:List aA):W6 C Q tm h nx o l none=False:=by simp[W6]
@[simp low] theorem aBq(o:aA)(l:List aA)(t:Bool):W6 C Q tm h nx o l (some t)=((t=true→W6 C Q tm h nx o l (some true))∧(t=false→W6 C Q tm h nx o l (some false))):=by cases t<;>simp
@[simp] theorem aD6:wpS C Q d [] au tm h nx=Q .norm tm (dJ au h) nx:=yL Iff.rfl
def W7(i:Nat)(o:aA)(l:List aS)(t:Option Bool):Prop:=wpG t
   (match lightOp C.orc o.op tm (zf (HF i d.kB) au h)with
   |some v=>wpS C Q d l au (cr o.dst v tm) h nx
   |none=>False)
   (wpS C Q d l au (cr o.dst (.tuple []) tm) h nx)
@[simp] theorem aNP(i:Nat)(o:aA)(l:List aS):wpS C Q d (.L i o ::l) au tm h nx=W7 C Q tm h nx d au i o l (di o.guard tm):=yL (by rw[wpS];exact Iff.rfl)
@[simp] theorem azc(i:Nat)(o:aA)(l:List aS):W7 C Q tm h nx d au i o l (some true)=(match lightOp C.orc o.op tm (zf (HF i d.kB) au h)with
   |some v=>wpS C Q d l au (cr o.dst v tm) h nx
   |none=>False):=by simp[W7]
@[simp] theorem awR(i:Nat)(o:aA)(l:List aS):W7 C Q tm h nx d au i o l (some false)=wpS C Q d l au (cr o.dst (.tuple []) tm) h nx:=by simp[W7]
@[simp] theorem azd(i:Nat)(o:aA)(l:List aS):W7 C Q tm h nx d au i o l none=False:=by simp[W7]
@[simp low] theorem aBr(i:Nat)(o:aA)(l:List aS)(t:Bool):W7 C Q tm h nx d au i o l (some t)=((t=true→W7 C Q tm h nx d au i o l (some true))∧(t=false→W7 C Q tm h nx d au i o l (some false))):=by cases t<;>simp
def W8(i:Nat)(o:aA)(l:List aS)(t:Option Bool):Prop:=wpG t
   (match allocOp o.op tm with
   |some (v,b)=>wpS C Q d l ((i,nx,b) ::au) (cr o.dst (v nx) tm) h nx.succ
   |none=>False)
   (wpS C Q d l au (cr o.dst (.tuple []) tm) h nx)
@[simp] theorem aNQ(i:Nat)(o:aA)(l:List aS):wpS C Q d (.A i o ::l) au tm h nx=W8 C Q tm h nx d au i o l (di o.guard tm):=yL (by rw[wpS];exact Iff.rfl)
@[simp] theorem aze(i:Nat)(o:aA)(l:List aS):W8 C Q tm h nx d au i o l (some true)=(match allocOp o.op tm with
   |some (v,b)=>wpS C Q d l ((i,nx,b) ::au) (cr o.dst (v nx) tm) h nx.succ
   |none=>False):=by simp[W8]
@[simp] theorem awS(i:Nat)(o:aA)(l:List aS):W8 C Q tm h nx d au i o l (some false)=wpS C Q d l au (cr o.dst (.tuple []) tm) h nx:=by simp[W8]
@[simp] theorem azf(i:Nat)(o:aA)(l:List aS):W8 C Q tm h nx d au i o l none=False:=by simp[W8]
@[simp low] theorem aBs(i:Nat)(o:aA)(l:List aS)(t:Bool):W8 C Q tm h nx d au i o l (some t)=((t=true→W8 C Q tm h nx d au i o l (some true))∧(t=false→W8 C Q tm h nx d au i o l (some false))):=by cases t<;>simp
def W9(o:aA)(ad:List Nat)(l:List aS)(t:Option Bool):Prop:=wpG t
   (match aOp C.orc o.op tm (dJ (au.filter fun x=>memN x.1 ad) h) nx with
   |.val v h nx=>wpS C Q d l (au.filter fun x=>!(memN x.1 ad)) (cr o.dst v tm) h nx
   |.call f args=>aG C f (dc (C.raw f) args (dJ (au.filter fun x=>memN x.1 ad) h)).1 (dc (C.raw f) args (dJ (au.filter fun x=>memN x.1 ad) h)).2 nx (KS C Q tm d (au.filter fun x=>!(memN x.1 ad)) o l)
   |.yld k args=>C8 C k args (dJ (au.filter fun x=>memN x.1 ad) h) nx (KS C Q tm d (au.filter fun x=>!(memN x.1 ad)) o l)
   |.pan a=>Q (.pan a) (kV d.ds tm) (dJ (au.filter fun x=>memN x.1 ad) h) nx
   |_=>False)
   (wpS C Q d l (au.filter fun x=>!(memN x.1 ad)) (cr o.dst (.tuple []) tm) (dJ (au.filter fun x=>memN x.1 ad) h) nx)
@[simp] theorem aNR(i:Nat)(o:aA)(ad:List Nat)(l:List aS):wpS C Q d (.H i o ad ::l) au tm h nx=W9 C Q tm h nx d au o ad l (di o.guard tm):=yL (by rw[wpS];exact Iff.rfl)
@[simp] theorem azg(o:aA)(ad:List Nat)(l:List aS):W9 C Q tm h nx d au o ad l (some true)=(match aOp C.orc o.op tm (dJ (au.filter fun x=>memN x.1 ad) h) nx with
   |.val v h nx=>wpS C Q d l (au.filter fun x=>!(memN x.1 ad)) (cr o.dst v tm) h nx
   |.call f args=>aG C f (dc (C.raw f) args (dJ (au.filter fun x=>memN x.1 ad) h)).1 (dc (C.raw f) args (dJ (au.filter fun x=>memN x.1 ad) h)).2 nx (KS C Q tm d (au.filter fun x=>!(memN x.1 ad)) o l)
   |.yld k args=>C8 C k args (dJ (au.filter fun x=>memN x.1 ad) h) nx (KS C Q tm d (au.filter fun x=>!(memN x.1 ad)) o l)
   |.pan a=>Q (.pan a) (kV d.ds tm) (dJ (au.filter fun x=>memN x.1 ad) h) nx
   |_=>False):=by unfold W9;simp only[ace,true_implies,Bool.true_eq_false,false_implies,and_true]
@[simp] theorem awT(o:aA)(ad:List Nat)(l:List aS):W9 C Q tm h nx d au o ad l (some false)=wpS C Q d l (au.filter fun x=>!(memN x.1 ad)) (cr o.dst (.tuple []) tm) (dJ (au.filter fun x=>memN x.1 ad) h) nx:=by unfold W9;simp only[ace,true_implies,XY,false_implies,true_and]
@[simp] theorem azh(o:aA)(ad:List Nat)(l:List aS):W9 C Q tm h nx d au o ad l none=False:=by simp[W9]
@[simp low] theorem aBt(o:aA)(ad:List Nat)(l:List aS)(t:Bool):W9 C Q tm h nx d au o ad l (some t)=((t=true→W9 C Q tm h nx d au o ad l (some true))∧(t=false→W9 C Q tm h nx d au o ad l (some false))):=by cases t<;>simp only[true_implies,Bool.true_eq_false,XY,false_implies,and_true,true_and]
@[simp] theorem aNS(os:List (Nat×aA))(l:List aS):wpS C Q d (.R os ::l) au tm h nx=(recheck C.orc d.kB au tm h os=true∧wpS C Q d l au tm h nx):=yL (by rw[wpS])
@[simp] theorem awU:dJ [] h=h:=rfl
@[simp] theorem auL(x:Nat×Key×ah)(p:List (Nat×Key×ah)):dJ (x ::p) h=dJ p (aw x.2.1 (some x.2.2) h):=rfl
@[simp] theorem auM(orc:jR)(kB:List (Nat×List Nat)):recheck orc kB au tm h []=true:=rfl
@[simp] theorem asi(orc:jR)(kB:List (Nat×List Nat))(i:Nat)(o:aA)(l:List (Nat×aA)):recheck orc kB au tm h ((i,o) ::l)=(match di o.guard tm with
  |some false=>match o.dst with
   |none=>false
   |some d=>match ae d tm with
    |some (.tuple [])=>recheck orc kB au tm h l
    |_=>false
  |some true=>match o.dst with
   |none=>false
   |some d=>match ae d tm,lightOp orc o.op tm (zf (HF i kB) au h)with
    |some v,some u=>bif AV.beq v u then recheck orc kB au tm h l else false
    |_,_=>false
  |none=>false):=rfl
end
attribute [simp] memN
def bZ(res:List RV)(R:Out→T ah→Key→Prop):dh:=fun e tm h nx=>match e with
 |.norm|.ret=>∃l,resultsA h tm res=some l∧R (.ret (pG (bG (aM 9999) l h).1)) (bG (aM 9999) l h).2 nx
 |.pan a=>R (.pan a) h nx
 |.exit _=>False
theorem aG.of{C:bQ}{f:Nat}{p:fe}{l:List AV}{h:T ah}{nx:Key}{R:Out→T ah→Key→Prop}(hs:C.sum f l h nx=none)(hp:IP C f=some p)(hr:C.mY f=false)(hw:gn C p.body (bZ p.res R) (iN l (K 0) .nil) h nx):aG C f l h nx R:=by
 refine aG.of_wp hs hp ?_;have e:Dz C f p.res R=bZ p.res R:=by funext e tm h nx;cases e<;>simp only[Dz,bZ,hr]<;>rfl
 rw[e];exact hw
section
variable(res:List RV)(R:Out→T ah→Key→Prop)(tm:T AV)(h:T ah)(nx:Key)
@[simp] theorem azi:bZ res R .ret tm h nx=∃l,resultsA h tm res=some l∧R (.ret (pG (bG (aM 9999) l h).1)) (bG (aM 9999) l h).2 nx:=yL Iff.rfl
@[simp] theorem awV:bZ res R .norm tm h nx=∃l,resultsA h tm res=some l∧R (.ret (pG (bG (aM 9999) l h).1)) (bG (aM 9999) l h).2 nx:=yL Iff.rfl
@[simp] theorem azj(a:AV):bZ res R (.pan a) tm h nx=R (.pan a) h nx:=yL Iff.rfl
end
attribute [simp] aOp lightOp allocOp newB atAll loadB isCmp beqKind arith
attribute [simp] nth_eq dropL_eq takeC_eq putC_eq appC_eq lenL_eq beqN_eq bltN_eq ltI_dec eqI_eq
@[simp] theorem aD7(a b:Nat):Nat.ble a b=decide (a≤b):=by rw[Bool.eq_iff_iff];simp
@[simp] theorem aD8(a b:Int):Int.add a b=a+b:=rfl
@[simp] theorem aD9(a b:Int):Int.sub a b=a-b:=rfl
@[simp] theorem aEa(a b:Int):Int.mul a b=a*b:=rfl
@[simp] theorem azk(k:IntKind)(m:Nat):ra (.int k (.lit (m:Int)))=some m:=rfl
@[simp] theorem awW(k:IntKind):ra (.int k (.lit 0))=some 0:=rfl
@[simp] theorem azl(k:IntKind):ra (.int k (.lit 1))=some 1:=rfl
@[simp] theorem azm(k:IntKind)(n:Nat):ra (.int k (.lit (OfNat.ofNat (n+2):Int)))=some (n+2):=rfl
@[simp] theorem awX(tm:T AV)(d:Nat):nS tm d none=some d:=rfl
@[simp] theorem awY(tm:T AV)(d:Nat)(x:PX):nS tm d (some x)=match x.at tm with|none=>none|some v=>ra v:=rfl
@[simp] theorem aEb(orc:jR)(op:BinOp)(x y:Int):JR orc op (.lit x) (.lit y)=(match op with
  |.eql=>some (x==y)
  |.neq=>some (!(x==y))
  |.lss=>some (decide (x<y))
  |.leq=>some (!(decide (y<x)))
  |.gtr=>some (decide (y<x))
  |.geq=>some (!(decide (x<y)))
  |_=>none):=by
 cases op<;>simp[JR]
@[simp] theorem aBu(tm:T AV)(cs:List AV):MW tm [] cs=some cs:=rfl
@[simp] theorem azn(tm:T AV)(off size:Nat)(x:PX)(r:List (Nat×Nat×PX))(cs:List AV):MW tm ((off,size,x) ::r) cs =
  (match x.at tm with
  |none=>none
  |some v=>bif Nat.beq (lenL v.cells) size then abl v.cells off cs none (fun cs=>MW tm r cs)else none):=rfl
@[simp] theorem azo(off n:Nat)(l:List AV):yX true off n l=if n≤(l.drop off).length then some (.agg ((l.drop off).take n))else none:=by simp[yX]
@[simp] theorem awZ(off n:Nat)(l:List AV):yX false off n l=l[off]?:=by simp[yX]
@[simp] theorem auN(b:Bool):AV.aT (.bool b)=true:=rfl
@[simp] theorem aw0(b:Bool):AV.cells (.bool b)=[.bool b]:=rfl
@[simp] theorem aw1(k:IntKind)(n:SI):AV.aT (.int k n)=true:=rfl
@[simp] theorem azp(k:IntKind)(n:SI):AV.cells (.int k n)=[.int k n]:=rfl
@[simp] theorem aw2(n c:Nat):AV.aT (.str n c)=true:=rfl
@[simp] theorem azq(n c:Nat):AV.cells (.str n c)=[.str n c]:=rfl
@[simp] theorem aw3(b:Key)(off:Nat):AV.aT (.ptr b off)=true:=rfl
@[simp] theorem azr(b:Key)(off:Nat):AV.cells (.ptr b off)=[.ptr b off]:=rfl
@[simp] theorem auO:AV.aT (.nilp)=true:=rfl
@[simp] theorem aw4:AV.cells (.nilp)=[.nilp]:=rfl
@[simp] theorem asj(b:Key)(off len sz:Nat):AV.aT (.slice b off len sz)=true:=rfl
@[simp] theorem auP(b:Key)(off len sz:Nat):AV.cells (.slice b off len sz)=[.slice b off len sz]:=rfl
@[simp] theorem auQ:AV.aT (.nils)=true:=rfl
@[simp] theorem aw5:AV.cells (.nils)=[.nils]:=rfl
@[simp] theorem aw6(b:Key):AV.aT (.map b)=true:=rfl
@[simp] theorem azs(b:Key):AV.cells (.map b)=[.map b]:=rfl
@[simp] theorem auR:AV.aT (.nilm)=true:=rfl
@[simp] theorem aw7:AV.cells (.nilm)=[.nilm]:=rfl
@[simp] theorem azt(f:Nat)(first cap:List AV):AV.aT (.fn f first cap)=true:=rfl
@[simp] theorem aBv(f:Nat)(first cap:List AV):AV.cells (.fn f first cap)=[.fn f first cap]:=rfl
@[simp] theorem auS:AV.aT (.nilf)=true:=rfl
@[simp] theorem aw8:AV.cells (.nilf)=[.nilf]:=rfl
@[simp] theorem asl(t:Nat)(v:AV):AV.aT (.iface t v)=true:=rfl
@[simp] theorem auT(t:Nat)(v:AV):AV.cells (.iface t v)=[.iface t v]:=rfl
@[simp] theorem auU:AV.aT (.nili)=true:=rfl
@[simp] theorem aw9:AV.cells (.nili)=[.nili]:=rfl
@[simp] theorem azu(l:List AV)(len sz:Nat)(fl:SF):AV.aT (.sl l len sz fl)=true:=rfl
@[simp] theorem aBw(l:List AV)(len sz:Nat)(fl:SF):AV.cells (.sl l len sz fl)=[.sl l len sz fl]:=rfl
@[simp] theorem auV(l:List AV):AV.aT (.cref l)=true:=rfl
@[simp] theorem axa(l:List AV):AV.cells (.cref l)=[.cref l]:=rfl
@[simp] theorem axb(l:List AV):AV.aT (.agg l)=false:=rfl
@[simp] theorem azv(l:List AV):AV.cells (.agg l)=l:=rfl
@[simp] theorem asm(l:List AV)(h:T ah):dc false l h=bG (aM 9999) l h:=rfl
@[simp] theorem auW(l:List AV)(h:T ah):dc true l h=(l,h):=rfl
@[simp] theorem azw(g:AV→T ah→AV×T ah)(h:T ah):bG g [] h=([],h):=rfl
@[simp] theorem axc(g:AV→T ah→AV×T ah)(v:AV)(l:List AV)(h:T ah):bG g (v ::l) h=((g v h).1 ::(bG g l (g v h).2).1,(bG g l (g v h).2).2):=rfl
section
variable(n:Nat)(h:T ah)
@[simp] theorem aBx(k:IntKind)(i:SI):aM n (.int k i) h=(.int k i,h):=by cases n<;>rfl
@[simp] theorem azx(b:Bool):aM n (.bool b) h=(.bool b,h):=by cases n<;>rfl
@[simp] theorem aBy(a b:Nat):aM n (.str a b) h=(.str a b,h):=by cases n<;>rfl
@[simp] theorem aBz(b:Key)(o:Nat):aM n (.ptr b o) h=(.ptr b o,h):=by cases n<;>rfl
@[simp] theorem azy:aM n .nilp h=(.nilp,h):=by cases n<;>rfl
@[simp] theorem azz:aM n .nils h=(.nils,h):=by cases n<;>rfl
@[simp] theorem aBA(b:Key):aM n (.map b) h=(.map b,h):=by cases n<;>rfl
@[simp] theorem azA:aM n .nilm h=(.nilm,h):=by cases n<;>rfl
@[simp] theorem aEc(f:Nat)(a c:List AV):aM n (.fn f a c) h=(.fn f a c,h):=by cases n<;>rfl
@[simp] theorem azB:aM n .nilf h=(.nilf,h):=by cases n<;>rfl
@[simp] theorem axd(t:Nat)(v:AV):aM n (.iface t v) h=(.iface t v,h):=by cases n<;>rfl
@[simp] theorem azC:aM n .nili h=(.nili,h):=by cases n<;>rfl
@[simp] theorem azD(l:List AV):aM n (.cref l) h=(.cref l,h):=by cases n<;>rfl
@[simp] theorem axe(l:List AV):aM n (.tuple l) h=(.tuple l,h):=by cases n<;>rfl
@[simp] theorem aEd(l:List AV)(m z:Nat)(f:SF):aM (n+1) (.sl l m z f) h=(.sl l m z .any,h):=rfl
@[simp] theorem aBB(l:List AV)(m z:Nat)(f:SF):aM 9999 (.sl l m z f) h=(.sl l m z .any,h):=rfl
@[simp] theorem aBC(l:List AV)(m z:Nat)(f:SF):aM 9998 (.sl l m z f) h=(.sl l m z .any,h):=rfl
@[simp] theorem Yq(l:List AV):aM 9999 (.agg l) h=(.agg (bG (aM 9998) l h).1,(bG (aM 9998) l h).2):=rfl
end
@[simp] theorem auX(k:Key)(tm:T AV):iN [] k tm=tm:=rfl
@[simp] theorem asn(v:AV)(l:List AV)(i:Nat)(tm:T AV):iN (v ::l) (K i) tm=iN l (K (i+1)) (aw (K i) (some v) tm):=by simp only[iN,axf]
@[simp] theorem axg(v:AV):pG [v]=v:=rfl
@[simp] theorem axh(v u:AV)(l:List AV):pG (v ::u ::l)=.tuple (v ::u ::l):=rfl
attribute [simp] resultsA
@[simp] theorem AV.all_nil:([]:List AV).all AV.aT=true:=rfl
attribute [simp] gTSm setK findK keyEq kTSu
theorem ax{α:Type}{b c:Key}{v:Option α}{t:T α}(h:b.toNat<c.toNat):ae b (aw c v t)=ae b t:=acd v t h
@[simp] theorem set_set{α:Type}(k:Key)(v u:Option α):∀(t:T α),aw k v (aw k u t)=aw k v t:=by
 induction k with
 |z=>intro t;cases t<;>rfl
 |o k ih=>intro t;cases t<;>simp only[T.aor,T.Pz,ih]
 |e k ih=>intro t;cases t<;>simp only[T.aos,T.PA,ih]
structure Ext(h:T ah)(nx:Key)(h':T ah)(nx':Key):Prop where
 n:nx.toNat≤nx'.toNat
 g:∀b:Key,b.toNat<nx.toNat→ae b h'=ae b h
theorem Ext.refl(h:T ah)(nx:Key):Ext h nx h nx:=⟨fg _,fun _ _=>rfl⟩
theorem Ext.trans{h1 h2 h3:T ah}{n1 n2 n3:Key}(a:Ext h1 n1 h2 n2)(b:Ext h2 n2 h3 n3):Ext h1 n1 h3 n3:=
 ⟨Nat.le_trans a.n b.n,fun k hk=>(b.g k (OX hk a.n)).trans (a.g k hk)⟩
@[simp] theorem axi(a b:Bool):AV.beq (.bool a) (.bool b)=(a==b):=rfl
@[simp] theorem aEe(orc:jR)(a b:Bool):kE orc .bool (.bool a) (.bool b)=some (a==b):=by simp[kE]
@[simp] theorem eq_int(orc:jR)(k:IntKind)(a b:SI):kE orc .int (.int k a) (.int k b)=JR orc .eql a b:=by cases k<;>simp[kE]
@[simp] theorem aBD(orc:jR)(l:List (Nat×OL))(a b:List AV):kE orc (.parts l) (.agg a) (.agg b)=dB orc l a b:=by simp[kE]
@[simp] theorem auY(orc:jR)(a b:List AV):dB orc [] a b=some true:=by simp[dB]
@[simp] theorem aso(orc:jR)(off:Nat)(p:OL)(l:List (Nat×OL))(a b:List AV):dB orc ((off,p) ::l) a b=(match nth off a,nth off b with
  |some x,some y=>match kE orc p x y with
   |some true=>dB orc l a b
   |some false=>some false
   |none=>none
  |_,_=>none):=by rw[dB];rfl
section
variable{C:bQ}{Q:dh}{tm:T AV}{h:T ah}{nx:Key}
theorem W.dy{c:aI}(Inv:Nat→T AV→T ah→Key→Prop){n:Nat}(hi:Inv n tm h nx)(hw:∀n tm h nx,Inv n tm h nx→W C c (aQ (fun tm h nx=>∃m,m<n∧Inv m tm h nx) Q) tm h nx):W C (.loop c) Q tm h nx:=
 W.loop Inv (fun n tm h nx hi=>WI.mono (hw n tm h nx hi) fun e tm h nx hq=>by cases e<;>exact hq) hi
theorem W.LB{c:aI}(h1:W C c (aQ (W C (.loop c) Q) Q) tm h nx):W C (.loop c) Q tm h nx:=by
 intro af k cs m1 m2;refine .step (m':=⟨{af with tm:=tm,todo:=.code c ::.inLoop c ::k},cs,h,nx⟩) (bB m1 rfl) ((h1 af (.inLoop c ::k) cs m1 m2).bind ?_);rintro m ⟨e,ay,h',nx',fr,q,ha,rfl⟩;cases e with
 |norm=>cases ha;have q2:WI C (.inLoop c) Q ay h' nx':=WI.same (y:=.code (.loop c)) (fun i e=>by cases i<;>cases e) (fun _ _ _ _=>rfl) q;refine(q2 {af with tm:=ay} k cs m1 m2).mono ?_;rintro m ⟨e2,aJ,hh2,aN,OB,q2,a2,t2⟩;refine⟨e2,aJ,hh2,aN,OB,q2,?_,t2⟩;cases e2<;>exact a2
 |ret=>exact .now ⟨.ret,ay,h',nx',fr,q,ha,rfl⟩
 |exit id=>obtain⟨k2,e1,e2⟩:=ha;exact .now ⟨.exit id,ay,h',nx',fr,q,⟨k2,e1,e2⟩,rfl⟩
 |pan a=>exact .now ⟨.pan a,ay,h',nx',fr,q,ha,rfl⟩
theorem W.of{c:aI}(h1:gn C c Q tm h nx):W C c Q tm h nx:=om h1
end
@[simp] theorem aBE{R:Type}(l:List AV)(h:T ah)(c:List AV→T ah→R):OO (frz 9999) l h c=c (bG (aM 9999) l h).1 (bG (aM 9999) l h).2:=yp (H4 9999) l h c
attribute [simp] appendTo repL_eq
@[simp] theorem aBF(i:Nat):HF i []=[]:=rfl
@[simp] theorem azE(i j:Nat)(l:List Nat)(r:List (Nat×List Nat)):HF i ((j,l) ::r)=if i=j then l else HF i r:=by simp[HF]
@[simp] theorem azF(p:List (Nat×Key×ah))(h:T ah):zf [] p h=h:=rfl
@[simp] theorem axj(a:Nat)(l:List Nat)(p:List (Nat×Key×ah))(h:T ah):zf (a ::l) p h=dJ (p.filter fun x=>memN x.1 (a ::l)) h:=by show HS (a ::l) p h (fun _ h=>h)=_;rw[zH]
theorem db{k:Key}{n:Nat}(h:Key.beq k (K n)=true):k=K n:=Key.eq_of_beq h
def k0:Key:=.z
def k1:=Key.o k0
def k2:=Key.e k0
def k3:=Key.o k1
def k4:=Key.e k1
def k5:=Key.o k2
def k6:=Key.e k2
def k7:=Key.o k3
def k8:=Key.e k3
def k9:=Key.o k4
def bP:=Key.e k4
def cM:=Key.o k5
def dn:=Key.e k5
def dj:=Key.o k6
def dz:=Key.e k6
def du:=Key.o k7
def dK:=Key.e k7
def fu:=Key.o k8
def fZ:=Key.e k8
def fI:=Key.o k9
def fJ:=Key.e k9
def gJ:=Key.o bP
def gO:=Key.e bP
def iI:=Key.o cM
def gA:=Key.e cM
def iJ:=Key.o dn
def jj:=Key.e dn
def iV:=Key.o dj
def kz:=Key.e dj
def mD:=Key.o dz
def jt:=Key.e dz
def kF:=Key.o du
def np:=Key.e du
def mR:=Key.o dK
def mS:=Key.e dK
def lq:=Key.o fu
def od:=Key.e fu
def nq:=Key.o fZ
def kO:=Key.e fZ
def mL:=Key.o fI
def bw:=Key.e fI
def mQ:=Key.o fJ
def mq:=Key.e fJ
def mM:=Key.o gJ
def vL:=Key.e gJ
def tH:=Key.o gO
def uy:=Key.e gO
def wH:=Key.o iI
def wW:=Key.e iI
def tD:=Key.o gA
def tE:=Key.e gA
def vN:=Key.o iJ
def uz:=Key.e iJ
def wI:=Key.o jj
def uA:=Key.e jj
def tK:=Key.o iV
def uB:=Key.e iV
def uC:=Key.o kz
def oe:=Key.e kz
def tI:=Key.o mD
def vO:=Key.e mD
def uD:=Key.o jt
def uE:=Key.e jt
def nP:=Key.o kF
def wJ:=Key.e kF
def yI:=Key.o np
def zx:=Key.e np
def wa:=Key.o mR
def wc:=Key.e mR
def yJ:=Key.o mS
def yK:=Key.e mS
def Aw:=Key.o lq
def BZ:=Key.e lq
def zy:=Key.o od
def zz:=Key.e od
def Ax:=Key.o nq
def Gj:=Key.e nq
def EL:=Key.o kO
def Cw:=Key.e kO
def HH:=Key.o mL
def JG:=Key.e mL
def JH:=Key.o bw
def HI:=Key.e bw
def HQ:=Key.o mQ
def JT:=Key.e mQ
def KM:=Key.o mq
def KN:=Key.e mq
def IH:=Key.o mM
def LV:=Key.e mM
def II:=Key.o vL
def LW:=Key.e vL
def OI:=Key.o tH
def KP:=Key.e tH
def OJ:=Key.o uy
def MA:=Key.e uy
def Td:=Key.o wH
def Te:=Key.e wH
def UM:=Key.o wW
def Tf:=Key.e wW
def k99:=Key.o tD
def LX:=Key.e tD
def LY:=Key.o tE
def LZ:=Key.e tE
def L0:=Key.o vN
def JU:=Key.e vN
def L1:=Key.o uz
def R7:=Key.e uz
def R9:=Key.o wI
def WX:=Key.e wI
def abR:=Key.o uA
def anp:=Key.e uA
def afg:=Key.o tK
def anq:=Key.e tK
def anr:=Key.o uB
def ans:=Key.e uB
def abS:=Key.o uC
def ant:=Key.e uC
def anu:=Key.o oe
def anv:=Key.e oe
def anw:=Key.o tI
def abT:=Key.e tI
def anx:=Key.o vO
def anz:=Key.e vO
def anA:=Key.o uD
def anB:=Key.e uD
def anC:=Key.o uE
def anD:=Key.e uE
def anE:=Key.o nP
def anF:=Key.e nP
def anG:=Key.o wJ
def anH:=Key.e wJ
def anI:=Key.o yI
def anJ:=Key.e yI
def anK:=Key.o zx
def akc:=Key.e zx
def akd:=Key.o wa
def ake:=Key.e wa
def akf:=Key.o wc
def akg:=Key.e wc
def akh:=Key.o yJ
def aki:=Key.e yJ
def akj:=Key.o yK
def akk:=Key.e yK
def akl:=Key.o Aw
def anL:=Key.e Aw
def anM:=Key.o BZ
def anN:=Key.e BZ
def anO:=Key.o zy
def anP:=Key.e zy
def anQ:=Key.o zz
def anR:=Key.e zz
def anS:=Key.o Ax
def anT:=Key.e Ax
def anU:=Key.o Gj
def anV:=Key.e Gj
def anW:=Key.o EL
def anX:=Key.e EL
def anY:=Key.o Cw
def anZ:=Key.e Cw
def awu:=Key.o HH
def awv:=Key.e HH
def aww:=Key.o JG
def awx:=Key.e JG
def awy:=Key.o JH
def awz:=Key.e JH
def aA1:=Key.o HI
def aGe:=Key.e LW
def aGf:=Key.o JU
def aGg:=Key.o aGe
def aF8:=Key.e aGf
def aF9:=Key.e aGg
@[simp] theorem aQP:k0=K 0:=db rfl
@[simp] theorem aFm:k1=K 1:=db rfl
@[simp] theorem aQQ:k2=K 2:=db rfl
@[simp] theorem aQR:k3=K 3:=db rfl
@[simp] theorem aQS:k4=K 4:=db rfl
@[simp] theorem aQT:k5=K 5:=db rfl
@[simp] theorem aQU:k6=K 6:=db rfl
@[simp] theorem aQV:k7=K 7:=db rfl
@[simp] theorem aQW:k8=K 8:=db rfl
@[simp] theorem aQX:k9=K 9:=db rfl
@[simp] theorem aL0:bP=K 10:=db rfl
@[simp] theorem aL1:cM=K 11:=db rfl
@[simp] theorem aL2:dn=K 12:=db rfl
@[simp] theorem aL3:dj=K 13:=db rfl
@[simp] theorem aL4:dz=K 14:=db rfl
@[simp] theorem aL5:du=K 15:=db rfl
@[simp] theorem aL6:dK=K 16:=db rfl
@[simp] theorem aL7:fu=K 17:=db rfl
@[simp] theorem aAt:fZ=K 18:=db rfl
@[simp] theorem aAu:fI=K 19:=db rfl
@[simp] theorem aL8:fJ=K 20:=db rfl
@[simp] theorem aL9:gJ=K 21:=db rfl
@[simp] theorem aMa:gO=K 22:=db rfl
@[simp] theorem aMb:iI=K 23:=db rfl
@[simp] theorem aMc:gA=K 24:=db rfl
@[simp] theorem aMd:iJ=K 25:=db rfl
@[simp] theorem aMe:jj=K 26:=db rfl
@[simp] theorem aMf:iV=K 27:=db rfl
@[simp] theorem aMg:kz=K 28:=db rfl
@[simp] theorem aMh:mD=K 29:=db rfl
@[simp] theorem aMi:jt=K 30:=db rfl
@[simp] theorem aMj:kF=K 31:=db rfl
@[simp] theorem aMk:np=K 32:=db rfl
@[simp] theorem aMl:mR=K 33:=db rfl
@[simp] theorem aMm:mS=K 34:=db rfl
@[simp] theorem aMn:lq=K 35:=db rfl
@[simp] theorem aMo:od=K 36:=db rfl
@[simp] theorem aMp:nq=K 37:=db rfl
@[simp] theorem aMq:kO=K 38:=db rfl
@[simp] theorem aMr:mL=K 39:=db rfl
@[simp] theorem aMs:bw=K 40:=db rfl
@[simp] theorem aMt:mQ=K 41:=db rfl
@[simp] theorem aMu:mq=K 42:=db rfl
@[simp] theorem aMv:mM=K 43:=db rfl
@[simp] theorem aMw:vL=K 44:=db rfl
@[simp] theorem aMx:tH=K 45:=db rfl
@[simp] theorem aMy:uy=K 46:=db rfl
@[simp] theorem aMz:wH=K 47:=db rfl
@[simp] theorem aMA:wW=K 48:=db rfl
@[simp] theorem aMB:tD=K 49:=db rfl
@[simp] theorem aMC:tE=K 50:=db rfl
@[simp] theorem aMD:vN=K 51:=db rfl
@[simp] theorem aME:uz=K 52:=db rfl
@[simp] theorem aMF:wI=K 53:=db rfl
@[simp] theorem aMG:uA=K 54:=db rfl
@[simp] theorem aMH:tK=K 55:=db rfl
@[simp] theorem aMI:uB=K 56:=db rfl
@[simp] theorem aMJ:uC=K 57:=db rfl
@[simp] theorem aMK:oe=K 58:=db rfl
@[simp] theorem aML:tI=K 59:=db rfl
@[simp] theorem aMM:vO=K 60:=db rfl
@[simp] theorem aMN:uD=K 61:=db rfl
@[simp] theorem aMO:uE=K 62:=db rfl
@[simp] theorem aMP:nP=K 63:=db rfl
@[simp] theorem aMQ:wJ=K 64:=db rfl
@[simp] theorem aMR:yI=K 65:=db rfl
@[simp] theorem aMS:zx=K 66:=db rfl
@[simp] theorem aMT:wa=K 67:=db rfl
@[simp] theorem aMU:wc=K 68:=db rfl
@[simp] theorem aMV:yJ=K 69:=db rfl
@[simp] theorem aMW:yK=K 70:=db rfl
@[simp] theorem aMX:Aw=K 71:=db rfl
@[simp] theorem aMY:BZ=K 72:=db rfl
@[simp] theorem aMZ:zy=K 73:=db rfl
@[simp] theorem aM0:zz=K 74:=db rfl
@[simp] theorem aM1:Ax=K 75:=db rfl
@[simp] theorem aM2:Gj=K 76:=db rfl
@[simp] theorem aM3:EL=K 77:=db rfl
@[simp] theorem aM4:Cw=K 78:=db rfl
@[simp] theorem aM5:HH=K 79:=db rfl
@[simp] theorem aM6:JG=K 80:=db rfl
@[simp] theorem aM7:JH=K 81:=db rfl
@[simp] theorem aM8:HI=K 82:=db rfl
@[simp] theorem aM9:HQ=K 83:=db rfl
@[simp] theorem aNa:JT=K 84:=db rfl
@[simp] theorem aNb:KM=K 85:=db rfl
@[simp] theorem aNc:KN=K 86:=db rfl
@[simp] theorem aNd:IH=K 87:=db rfl
@[simp] theorem aNe:LV=K 88:=db rfl
@[simp] theorem aNf:II=K 89:=db rfl
@[simp] theorem aNg:LW=K 90:=db rfl
@[simp] theorem aNh:OI=K 91:=db rfl
@[simp] theorem aNi:KP=K 92:=db rfl
@[simp] theorem aNj:OJ=K 93:=db rfl
@[simp] theorem aNk:MA=K 94:=db rfl
@[simp] theorem aNl:Td=K 95:=db rfl
@[simp] theorem aNm:Te=K 96:=db rfl
@[simp] theorem aNn:UM=K 97:=db rfl
@[simp] theorem aNo:Tf=K 98:=db rfl
@[simp] theorem aNp:k99=K 99:=db rfl
@[simp] theorem aGh:LX=K 100:=db rfl
@[simp] theorem aGi:LY=K 101:=db rfl
@[simp] theorem aGj:LZ=K 102:=db rfl
@[simp] theorem aGk:L0=K 103:=db rfl
@[simp] theorem aGl:JU=K 104:=db rfl
@[simp] theorem aGm:L1=K 105:=db rfl
@[simp] theorem aGn:R7=K 106:=db rfl
@[simp] theorem aGo:R9=K 107:=db rfl
@[simp] theorem aGp:WX=K 108:=db rfl
@[simp] theorem aGq:abR=K 109:=db rfl
@[simp] theorem aGr:anp=K 110:=db rfl
@[simp] theorem aGs:afg=K 111:=db rfl
@[simp] theorem aGt:anq=K 112:=db rfl
@[simp] theorem aGu:anr=K 113:=db rfl
@[simp] theorem aGv:ans=K 114:=db rfl
@[simp] theorem aGw:abS=K 115:=db rfl
@[simp] theorem aGx:ant=K 116:=db rfl
@[simp] theorem aGy:anu=K 117:=db rfl
@[simp] theorem aGz:anv=K 118:=db rfl
@[simp] theorem aGA:anw=K 119:=db rfl
@[simp] theorem aGB:abT=K 120:=db rfl
@[simp] theorem aGC:anx=K 121:=db rfl
@[simp] theorem aGD:anz=K 122:=db rfl
@[simp] theorem aGE:anA=K 123:=db rfl
@[simp] theorem aGF:anB=K 124:=db rfl
@[simp] theorem aGG:anC=K 125:=db rfl
@[simp] theorem aGH:anD=K 126:=db rfl
@[simp] theorem aGI:anE=K 127:=db rfl
@[simp] theorem aGJ:anF=K 128:=db rfl
@[simp] theorem aGK:anG=K 129:=db rfl
@[simp] theorem aGL:anH=K 130:=db rfl
@[simp] theorem aGM:anI=K 131:=db rfl
@[simp] theorem aGN:anJ=K 132:=db rfl
@[simp] theorem aGO:anK=K 133:=db rfl
@[simp] theorem aGP:akc=K 134:=db rfl
@[simp] theorem aGQ:akd=K 135:=db rfl
@[simp] theorem aGR:ake=K 136:=db rfl
@[simp] theorem aGS:akf=K 137:=db rfl
@[simp] theorem aGT:akg=K 138:=db rfl
@[simp] theorem aGU:akh=K 139:=db rfl
@[simp] theorem aGV:aki=K 140:=db rfl
@[simp] theorem aGW:akj=K 141:=db rfl
@[simp] theorem aGX:akk=K 142:=db rfl
@[simp] theorem aGY:akl=K 143:=db rfl
@[simp] theorem aGZ:anL=K 144:=db rfl
@[simp] theorem aG0:anM=K 145:=db rfl
@[simp] theorem aG1:anN=K 146:=db rfl
@[simp] theorem aG2:anO=K 147:=db rfl
@[simp] theorem aG3:anP=K 148:=db rfl
@[simp] theorem aG4:anQ=K 149:=db rfl
@[simp] theorem aG5:anR=K 150:=db rfl
@[simp] theorem aG6:anS=K 151:=db rfl
@[simp] theorem aG7:anT=K 152:=db rfl
@[simp] theorem aG8:anU=K 153:=db rfl
@[simp] theorem aG9:anV=K 154:=db rfl
@[simp] theorem aHa:anW=K 155:=db rfl
@[simp] theorem aHb:anX=K 156:=db rfl
@[simp] theorem aHc:anY=K 157:=db rfl
@[simp] theorem aHd:anZ=K 158:=db rfl
@[simp] theorem aHe:awu=K 159:=db rfl
@[simp] theorem aHf:awv=K 160:=db rfl
@[simp] theorem aHg:aww=K 161:=db rfl
@[simp] theorem aHh:awx=K 162:=db rfl
@[simp] theorem aHi:awy=K 163:=db rfl
@[simp] theorem aHj:awz=K 164:=db rfl
@[simp] theorem aHk:aA1=K 165:=db rfl
theorem hide{α:Type}{a b:α}(h:a=b):a=b:=h
abbrev I(n:Int):AV:=.int .i64 (.lit n)
def oM(d s:Key):aA:=⟨some d,.mov (.t s),none⟩
def oL(d:Key)(n:Nat)(s:Key):aA:=⟨some d,.load false n (.t s),none⟩
def oA(d:Key)(n:Nat)(s:Key):aA:=⟨some d,.load true n (.t s),none⟩
def oF(d:Key)(n:Nat)(s:Key):aA:=⟨some d,.fieldA n (.t s),none⟩
def oS(n:Nat)(a s:Key):aA:=⟨none,.store n (.t a) (.t s),none⟩
def oN(d s:Key):aA:=⟨some d,.nilc (.t s),none⟩
def oZ(d s:Key):aA:=⟨some d,.lenL (.t s),none⟩
def oE(d s:Key)(n:Int):aA:=⟨some d,.bin .eql (.t s) (.v (I n)),none⟩
def oI(d:Key)(n:Nat)(s i:Key):aA:=⟨some d,.indexL n (.t s) (.t i),none⟩
def oX(d s:Key)(n:Nat):aA:=⟨some d,.extract (.t s) n,none⟩
def oB(d s:Key):aA:=⟨some d,.box (.t s),none⟩
def oJ(d:Key)(v:AV):aA:=⟨some d,.mov (.v v),none⟩
@[simp] theorem at8(d s:Key):oM d s=⟨some d,.mov (.t s),none⟩:=hide rfl
@[simp] theorem aub(d:Key)(n:Nat)(s:Key):oL d n s=⟨some d,.load false n (.t s),none⟩:=hide rfl
@[simp] theorem aNq(d:Key)(n:Nat)(s:Key):oA d n s=⟨some d,.load true n (.t s),none⟩:=hide rfl
@[simp] theorem aNr(d:Key)(n:Nat)(s:Key):oF d n s=⟨some d,.fieldA n (.t s),none⟩:=hide rfl
@[simp] theorem aNs(n:Nat)(a s:Key):oS n a s=⟨none,.store n (.t a) (.t s),none⟩:=hide rfl
@[simp] theorem aNt(d s:Key):oN d s=⟨some d,.nilc (.t s),none⟩:=hide rfl
@[simp] theorem aNu(d s:Key):oZ d s=⟨some d,.lenL (.t s),none⟩:=hide rfl
@[simp] theorem aNv(d s:Key)(n:Int):oE d s n=⟨some d,.bin .eql (.t s) (.v (I n)),none⟩:=hide rfl
@[simp] theorem aNw(d:Key)(n:Nat)(s i:Key):oI d n s i=⟨some d,.indexL n (.t s) (.t i),none⟩:=hide rfl
@[simp] theorem aNx(d s:Key)(n:Nat):oX d s n=⟨some d,.extract (.t s) n,none⟩:=hide rfl
@[simp] theorem aNy(d s:Key):oB d s=⟨some d,.box (.t s),none⟩:=hide rfl
@[simp] theorem auc(d:Key)(v:AV):oJ d v=⟨some d,.mov (.v v),none⟩:=hide rfl
abbrev Rw:=List aA
def oO(d:Key)(o:BinOp)(a b:Key):aA:=⟨some d,.bin o (.t a) (.t b),none⟩
@[simp] theorem at9(d:Key)(o:BinOp)(a b:Key):oO d o a b=⟨some d,.bin o (.t a) (.t b),none⟩:=hide rfl
def oK(d:Key)(o:BinOp)(a:Key)(i:Int):aA:=⟨some d,.bin o (.t a) (.v (I i)),none⟩
@[simp] theorem aua(d:Key)(o:BinOp)(a:Key)(i:Int):oK d o a i=⟨some d,.bin o (.t a) (.v (I i)),none⟩:=hide rfl
instance:Coe Key PX:=⟨.t⟩
instance:Coe AV PX:=⟨.v⟩
instance:Coe (List aA) aI:=⟨.ops⟩
def oC(d:Key)(f:Nat)(l:List PX):aA:=⟨some d,.callF f l,none⟩
@[simp] theorem aNz(d:Key)(f:Nat)(l:List PX):oC d f l=⟨some d,.callF f l,none⟩:=hide rfl
def oT(d s g:Key):aA:=⟨some d,.mov (.t s),some (g,true)⟩
@[simp] theorem aNA(d s g:Key):oT d s g=⟨some d,.mov (.t s),some (g,true)⟩:=hide rfl
def oQ(d s g:Key):aA:=⟨some d,.mov (.t s),some (g,false)⟩
@[simp] theorem aNB(d s g:Key):oQ d s g=⟨some d,.mov (.t s),some (g,false)⟩:=hide rfl
def oP(d a b:Key):aA:=⟨some d,.pick (.t a) (.t b) (.v (.bool false)),none⟩
@[simp] theorem aNC(d a b:Key):oP d a b=⟨some d,.pick (.t a) (.t b) (.v (.bool false)),none⟩:=hide rfl
end Go.Sx
namespace Go.Sx
open Go.RowKit
mutual
def AV.kf:AV→Bool
 |.bool _|.int _ _|.str _ _|.nilp|.nils|.nilm|.nilf|.nili=>true
 |.iface _ v=>AV.kf v
 |.agg l=>AV.JO l
 |.tuple l=>AV.JO l
 |.sl l _ _ .any=>AV.JO l
 |.cref l=>AV.JO l
 |.fn _ a c=>AV.JO a&&AV.JO c
 |_=>false
def AV.JO:List AV→Bool
 | []=>true
 |a ::l=>AV.kf a&&AV.JO l
end
mutual
theorem aY.kf{ρ:Nat→Int}{μ μ':Mu}(hf:∀c i v,μ.fz c i=some v→μ'.fz c i=some v):∀{a:AV} {v:Value},aY ρ μ a v→a.kf=true→aY ρ μ' a v
 |_,_,.bool b,_=>.bool b
 |_,_,.int k s n h,_=>.int k s n h
 |_,_,.str n c s h h',_=>.str n c s h h'
 |_,_,.ptr b off l a h ha,hk=>by simp[AV.kf]at hk
 |_,_,.nilp,_=>.nilp
 |_,_,.slice b off len sz cap l a h hc hl ha,hk=>by simp[AV.kf]at hk
 |_,_,.nils,_=>.nils
 |_,_,.map b l r h hr,hk=>by simp[AV.kf]at hk
 |_,_,.nilm,_=>.nilm
 |_,_,.fn f first cap vs ws h h',hk=>by simp only[AV.kf,mP]at hk;exact .fn f first cap vs ws (az.kf hf h hk.1) (az.kf hf h' hk.2)
 |_,_,.yld b l r h hr,hk=>by simp[AV.kf]at hk
 |_,_,.nilf,_=>.nilf
 |_,_,.iface t a v h,hk=>.iface t a v (aY.kf hf h (by simpa[AV.kf]using hk))
 |_,_,.nili,_=>.nili
 |_,_,.agg l vs h,hk=>.agg l vs (az.kf hf h (by simpa[AV.kf]using hk))
 |_,_,.tuple l vs h,hk=>.tuple l vs (az.kf hf h (by simpa[AV.kf]using hk))
 |_,_,.sl l len sz fl cap c o a vs h hn hl ha hff hg,hk=>by
  cases fl with
  |any=>exact .sl l len sz .any cap c o a vs (az.kf hf h (by simpa[AV.kf]using hk)) hn hl ha (fun i v e=>hf _ _ _ (hff i v e)) trivial
  |tok b=>simp[AV.kf]at hk
 |_,_,.cref l c o a vs h ha hff,hk=>.cref l c o a vs (az.kf hf h (by simpa[AV.kf]using hk)) ha (fun i v e=>hf _ _ _ (hff i v e))
theorem az.kf{ρ:Nat→Int}{μ μ':Mu}(hf:∀c i v,μ.fz c i=some v→μ'.fz c i=some v):∀{l:List AV} {vs:List Value},az ρ μ l vs→AV.JO l=true→az ρ μ' l vs
 |_,_,.nil,_=>.nil
 |_,_,.cons a l v vs h h',hk=>by simp only[AV.JO,mP]at hk;exact .cons a l v vs (aY.kf hf h hk.1) (az.kf hf h' hk.2)
end
structure jQ(P:Program)(heap0:T ah)(w0:W0):Prop where
 size:P.globals.size≤w0.heap.size
 at_:∀b B,ae b heap0=some B→b.toNat<P.globals.size∧∃L arr elem f,B=.cells L .ro∧w0.heap[b.toNat]?=some (.cells arr elem f)∧(∀(ρ:Nat→Int) (μ:Mu),az ρ μ L arr.toList)∧∀i v,arr[i]?=some v→w0.z b.toNat i=some v
section
variable{P:Program}{ρ:Nat→Int}{heap0:T ah}
noncomputable def U4(heap0:T ah)(b:Key):Nat:=match ae b heap0 with
 |some (.cells L _)=>L.length
 |_=>0
noncomputable def gMu(P:Program)(heap0:T ah)(fz:Nat→Nat→Option Value):Mu:=⟨fun b=>if b.toNat<P.globals.size then some ⟨b.toNat,0,U4 heap0 b⟩else none,fz⟩
theorem NW{fz:Nat→Nat→Option Value}{b:Key}{l:Loc}(h:(gMu P heap0 fz) b=some l):b.toNat<P.globals.size∧l=⟨b.toNat,0,U4 heap0 b⟩:=by
 have h:(if b.toNat<P.globals.size then some (⟨b.toNat,0,U4 heap0 b⟩:Loc)else none)=some l:=h;split at h
 ·rename_i hb;cases h;exact⟨hb,rfl⟩
 ·cases h
theorem JI{w0:W0}(hL:jQ P heap0 w0)(hz:∀c i v,w0.z c i=some v→∃arr elem f,w0.heap[c]?=some (.cells arr elem f)∧arr[i]?=some v){nx:Nat}(hn:P.globals.size≤nx) :
  bA P ρ w0 (gMu P heap0 w0.z) (fun b=>ae b heap0) nx w0.toWorld:=by
 have aB3:∀b:Key,b.toNat<P.globals.size→(gMu P heap0 w0.z) b=some ⟨b.toNat,0,U4 heap0 b⟩:=by intro b hb;show(if b.toNat<P.globals.size then some (⟨b.toNat,0,U4 heap0 b⟩:Loc)else none)=_;rw[if_pos hb]
 refine⟨?_,?_,?_,?_,?_,?_,Below.refl _ _,hz,?_,fun _ _ _ h=>h,fun _ _ _ h=>.inr h,?_,fg _⟩
 ·intro b B hb;obtain⟨h1,L,arr,elem,f,rfl,h3,h4,h5⟩:=hL.at_ b B hb;have hlen:L.length=arr.size:=by simpa using(h4 ρ (gMu P heap0 w0.z)).length
  refine⟨_,_,aB3 b h1,h3,.cells L .ro _ arr elem f ?_ ?_ ?_ (fun h=>absurd rfl h) ?_⟩
  ·intro i a ha;obtain⟨v,hv,hr⟩:=(h4 ρ (gMu P heap0 w0.z)).get i a ha;exact⟨v,by simpa using hv,hr⟩
  ·show 0+U4 heap0 b≤arr.size;simp only[U4,hb];omega
  ·show L.length≤U4 heap0 b;simp only[U4,hb];exact fg _
  ·intro _;show L.length=U4 heap0 b;simp only[U4,hb]
 ·intro b b' B B' l l' h1 h2 m1 m2 bX;obtain⟨_,rfl⟩:=NW m1;obtain⟨_,rfl⟩:=NW m2;exact fun e=>bX (Key.toNat_inj e)
 ·intro b l m;obtain⟨h1,rfl⟩:=NW m;exact OX h1 hL.size
 ·intro b B l hb m;obtain⟨h1,L,arr,elem,f,rfl,_⟩:=hL.at_ b B hb;exact .inl trivial
 ·intro k hk;exact⟨_,aB3 k hk⟩
 ·intro b l m;obtain⟨h1,rfl⟩:=NW m;omega
 ·intro b B l n hb m Ap i hi;obtain⟨h1,L,arr,elem,f,rfl,_⟩:=hL.at_ b B hb;cases Ap
 ·intro b L l hb m;obtain⟨_,rfl⟩:=NW m;obtain⟨h1,L',arr,elem,f,e,h3,h4,h5⟩:=hL.at_ b _ hb;refine .inr fun LH ee ff i v ha hv=>?_;have ha:w0.heap[b.toNat]?=some (.cells LH ee ff):=ha;rw[h3]at ha;cases ha;exact h5 i v hv
theorem jQ.aoz{w0:W0}{w:World}{fz:Nat→Nat→Option Value}(hL:jQ P heap0 w0)(hb:Below w0.heap.size w0.toWorld w)(hz:∀c i v,w0.z c i=some v→fz c i=some v):jQ P heap0 ⟨w,fz⟩:=by refine⟨Nat.le_trans hL.size hb.size,fun b B h=>?_⟩;obtain⟨h1,L,arr,elem,f,h2,h3,h4,h5⟩:=hL.at_ b B h;refine⟨h1,L,arr,elem,f,h2,?_,h4,fun i v hv=>hz _ _ _ (h5 i v hv)⟩;show w.heap[b.toNat]?=_;rw[hb.block _ (OX h1 hL.size)];exact h3
def aB4(tab:List (Nat×List AV×AV))(f:Nat)(l:List AV)(h:T ah)(nx:Key):Option (AV×T ah×Key):=match tab with
 | []=>none
 |(g,m,v) ::r=>bif Nat.beq f g&&AV.JQ l m then some (v,h,nx)else aB4 r f l h nx
theorem IV{C:bQ}{w0:W0}{w:World}{μ0:Mu}{G0:Key→Option ah}{H:T ah}{nx:Key}(X:Ctx P ρ w0 C){f:Nat}{l:List AV}{args:Array Value}(hM:bA P ρ w0 μ0 G0 nx.toNat w)(hH:HSub H G0)(hl:az ρ μ0 l args.toList)
  {R:Out→T ah→Key→Prop} (hR:∀o h nx,R o h nx→∃v,o=.ret v) (hc:aG C f l H nx R) :
  Calls P f args w fun e w'=>∃v h' nx' u μ G,R (.ret v) h' nx'∧e=.returned u∧aY ρ μ v u∧μ0.le μ∧bA P ρ w0 μ G nx'.toNat w'∧HSub h' G:=by
 rcases hc with⟨v,h',nx',hs,hr⟩|⟨hs,p,hp,gM⟩
 ·refine(X.sum f l H nx v h' nx' hs args w μ0 G0 hM hH hl).mono ?_;rintro e w' ⟨u,μ',G',rfl,h1,h2,h3,h4,_⟩;exact⟨v,h',nx',u,μ',G',hr,rfl,h1,h2,h3,h4⟩
 ·have hpf:J9 P f=some p:=X.fns f p hp;intro cs;have hm:HD P ρ C.orc w0 μ0 ⟨ai f p l,[],H,nx⟩ (Frame.enter P f args .normal) [] w:=
   ⟨μ0,G0,μ0.le_refl,hM,hH,yE hpf hl false,trivial,by simp[bR,pk,ai]⟩
  obtain⟨am',iR,Jt,w',⟨o,h',nx',fr,h1,hr,hfn,hdf,⟨hd,hL⟩,rfl⟩,s1,s2⟩:=Ev.sound (rest:=cs) X (gM []) hm;obtain⟨v,rfl⟩:=hR o h' nx' hr;obtain⟨Sa,l1,Pp,rfl,rfl⟩:=hL;have GF:jP C ⟨fr,[],h1,nx'⟩=.done f (pG (dc (C.mY f) l1 h1).1) (dc (C.mY f) l1 h1).2 nx':=by unfold jP;simp only[Sa];unfold AN;simp only[hd,Sa,Pp,hfn,yV];unfold MX;simp only[hdf,cond_false,hfn]
  have hg:=H8 (rest:=cs) X s2;rw[GF]at hg;obtain⟨OB,w2,μ,G,u,t1,t2,t3,t4,t5,t6,t7⟩:=hg;exact⟨.returned u,w2,OB,⟨_,_,_,u,μ,G,hr,rfl,t4,t5,t6,t7⟩,s1.trans t1,t2,t3⟩
noncomputable def IX:List (Nat×fe)→T fe
 | []=>.nil
 |(i,p) ::l=>aw (Key.gj 12 i) (some p) (IX l)
theorem U5:∀{l:List (Nat×fe)} {k:Key} {p:fe},ae k (IX l)=some p→∃i,(i,p)∈l∧k=Key.gj 12 i
 | [],k,p,h=>by simp[IX]at h
 |(i,q) ::l,k,p,h=>by
  simp only[IX]at h;by_cases e:k=Key.gj 12 i
  ·subst e;rw[gTSm]at h;cases h;exact⟨i,by simp,rfl⟩
  ·rw[aU _ _ _ _ e]at h;obtain⟨j,h1,h2⟩:=U5 h;exact⟨j,List.mem_cons_of_mem _ h1,h2⟩
def NU(P:Program):List (Nat×fe)→Prop
 | []=>True
 |(i,p) ::l=>(Nat.blt i 8000=true∧J9 P i=some p)∧NU P l
theorem NU.mem:∀{l:List (Nat×fe)},NU P l→∀{i:Nat} {p:fe},(i,p)∈l→i<8000∧J9 P i=some p
 | [],_,_,_,h=>by cases h
 |(j,q) ::l,ha,i,p,h=>by
  rcases OG.1 h with e|e
  ·cases e;have:=ha.1.1;rw[bltN_eq,decide_eq_true_eq]at this;exact⟨this,ha.1.2⟩
  ·exact NU.mem ha.2 e
noncomputable def aB5(fns:T fe)(tab:List (Nat×List AV×AV)):bQ:=⟨[],fns,aB4 tab,fun _=>false,fun _=>false⟩
theorem acw{fns:T fe}{acv:List (Nat×fe)}(hb:fns=IX acv)(ha:NU P acv){tab:List (Nat×List AV×AV)}{f:Nat}{p:fe}(h:IP (aB5 fns tab) f=some p):J9 P f=some p:=by
 unfold IP at h;cases hk:Nat.beq (Key.gj 12 f).toNat f with
 |false=>rw[hk]at h;cases h
 |true=>
  rw[hk]at h;have hk:=rZ hk;have h:ae (Key.gj 12 f) fns=some p:=h;rw[hb]at h;obtain⟨i,h1,h2⟩:=U5 h;obtain⟨h3,h4⟩:=ha.mem h1;have:i=f:=by have e:=congrArg Key.toNat h2;rw[hk,sP 12 i (by omega)]at e;exact e.symm
  subst this;exact h4
def aiM(P:Program)(ρ:Nat→Int)(heap0:T ah):List (Nat×List AV×AV)→Prop
 | []=>True
 |(f,l,v) ::r=>((∃p,J9 P f=some p)∧∀w0:W0,jQ P heap0 w0→∀H nx,MQ P ρ w0 f l H nx v H nx)∧aiM P ρ heap0 r
theorem aiM.mem:∀{tab:List (Nat×List AV×AV)},aiM P ρ heap0 tab→∀{f:Nat} {l:List AV} {v:AV},(f,l,v)∈tab→(∃p,J9 P f=some p)∧∀w0:W0,jQ P heap0 w0→∀H nx,MQ P ρ w0 f l H nx v H nx
 | [],_,_,_,_,h=>by cases h
 |(g,m,u) ::r,ht,f,l,v,h=>by
  rcases OG.1 h with e|e
  ·cases e;exact ht.1
  ·exact aiM.mem ht.2 e
end
end Go.Sx
namespace Go.Sx
open Go
theorem awJ{a b:Key}(h:a.toNat≠b.toNat):a≠b:=fun e=>h (by rw[e])
theorem tL{a b:Key}(h:a.toNat≠b.toNat)(v:Option ah)(t:T ah):ae a (aw b v t)=ae a t:=aU _ _ _ _ (awJ h)
variable(n:Key)(v:Option ah)(t:T ah)
@[simp] theorem aHv:ae n (aw n.succ v t)=ae n t:=tL (by simp;try omega) v t
@[simp] theorem aHw:ae n (aw n.succ.succ v t)=ae n t:=tL (by simp;try omega) v t
@[simp] theorem aHx:ae n (aw n.succ.succ.succ v t)=ae n t:=tL (by simp;try omega) v t
@[simp] theorem aHy:ae n (aw n.succ.succ.succ.succ v t)=ae n t:=tL (by simp;try omega) v t
@[simp] theorem aHz:ae n (aw n.succ.succ.succ.succ.succ v t)=ae n t:=tL (by simp;try omega) v t
@[simp] theorem aHA:ae n (aw n.succ.succ.succ.succ.succ.succ v t)=ae n t:=tL (by simp;try omega) v t
@[simp] theorem aHB:ae n (aw n.succ.succ.succ.succ.succ.succ.succ v t)=ae n t:=tL (by simp;try omega) v t
@[simp] theorem aHC:ae n.succ (aw n v t)=ae n.succ t:=tL (by simp;try omega) v t
@[simp] theorem aHD:ae n.succ (aw n.succ.succ v t)=ae n.succ t:=tL (by simp;try omega) v t
@[simp] theorem aHE:ae n.succ (aw n.succ.succ.succ v t)=ae n.succ t:=tL (by simp;try omega) v t
@[simp] theorem aHF:ae n.succ (aw n.succ.succ.succ.succ v t)=ae n.succ t:=tL (by simp;try omega) v t
@[simp] theorem aHG:ae n.succ (aw n.succ.succ.succ.succ.succ v t)=ae n.succ t:=tL (by simp;try omega) v t
@[simp] theorem aHH:ae n.succ (aw n.succ.succ.succ.succ.succ.succ v t)=ae n.succ t:=tL (by simp;try omega) v t
@[simp] theorem aHI:ae n.succ (aw n.succ.succ.succ.succ.succ.succ.succ v t)=ae n.succ t:=tL (by simp;try omega) v t
@[simp] theorem aHJ:ae n.succ.succ (aw n v t)=ae n.succ.succ t:=tL (by simp;try omega) v t
@[simp] theorem aHK:ae n.succ.succ (aw n.succ v t)=ae n.succ.succ t:=tL (by simp;try omega) v t
@[simp] theorem aHL:ae n.succ.succ (aw n.succ.succ.succ v t)=ae n.succ.succ t:=tL (by simp;try omega) v t
@[simp] theorem aHM:ae n.succ.succ (aw n.succ.succ.succ.succ v t)=ae n.succ.succ t:=tL (by simp;try omega) v t
@[simp] theorem aHN:ae n.succ.succ (aw n.succ.succ.succ.succ.succ v t)=ae n.succ.succ t:=tL (by simp;try omega) v t
@[simp] theorem aHO:ae n.succ.succ (aw n.succ.succ.succ.succ.succ.succ v t)=ae n.succ.succ t:=tL (by simp;try omega) v t
@[simp] theorem aHP:ae n.succ.succ (aw n.succ.succ.succ.succ.succ.succ.succ v t)=ae n.succ.succ t:=tL (by simp;try omega) v t
@[simp] theorem aHQ:ae n.succ.succ.succ (aw n v t)=ae n.succ.succ.succ t:=tL (by simp;try omega) v t
@[simp] theorem aHR:ae n.succ.succ.succ (aw n.succ v t)=ae n.succ.succ.succ t:=tL (by simp;try omega) v t
@[simp] theorem aHS:ae n.succ.succ.succ (aw n.succ.succ v t)=ae n.succ.succ.succ t:=tL (by simp;try omega) v t
@[simp] theorem aHT:ae n.succ.succ.succ (aw n.succ.succ.succ.succ v t)=ae n.succ.succ.succ t:=tL (by simp;try omega) v t
@[simp] theorem aHU:ae n.succ.succ.succ (aw n.succ.succ.succ.succ.succ v t)=ae n.succ.succ.succ t:=tL (by simp;try omega) v t
@[simp] theorem aHV:ae n.succ.succ.succ (aw n.succ.succ.succ.succ.succ.succ v t)=ae n.succ.succ.succ t:=tL (by simp;try omega) v t
@[simp] theorem aHW:ae n.succ.succ.succ (aw n.succ.succ.succ.succ.succ.succ.succ v t)=ae n.succ.succ.succ t:=tL (by simp;try omega) v t
@[simp] theorem aHX:ae n.succ.succ.succ.succ (aw n v t)=ae n.succ.succ.succ.succ t:=tL (by simp;try omega) v t
@[simp] theorem aHY:ae n.succ.succ.succ.succ (aw n.succ v t)=ae n.succ.succ.succ.succ t:=tL (by simp;try omega) v t
@[simp] theorem aHZ:ae n.succ.succ.succ.succ (aw n.succ.succ v t)=ae n.succ.succ.succ.succ t:=tL (by simp;try omega) v t
@[simp] theorem aH0:ae n.succ.succ.succ.succ (aw n.succ.succ.succ v t)=ae n.succ.succ.succ.succ t:=tL (by simp;try omega) v t
@[simp] theorem aH1:ae n.succ.succ.succ.succ (aw n.succ.succ.succ.succ.succ v t)=ae n.succ.succ.succ.succ t:=tL (by simp;try omega) v t
@[simp] theorem aH2:ae n.succ.succ.succ.succ (aw n.succ.succ.succ.succ.succ.succ v t)=ae n.succ.succ.succ.succ t:=tL (by simp;try omega) v t
@[simp] theorem aH3:ae n.succ.succ.succ.succ (aw n.succ.succ.succ.succ.succ.succ.succ v t)=ae n.succ.succ.succ.succ t:=tL (by simp;try omega) v t
@[simp] theorem aH4:ae n.succ.succ.succ.succ.succ (aw n v t)=ae n.succ.succ.succ.succ.succ t:=tL (by simp;try omega) v t
@[simp] theorem aH5:ae n.succ.succ.succ.succ.succ (aw n.succ v t)=ae n.succ.succ.succ.succ.succ t:=tL (by simp;try omega) v t
@[simp] theorem aH6:ae n.succ.succ.succ.succ.succ (aw n.succ.succ v t)=ae n.succ.succ.succ.succ.succ t:=tL (by simp;try omega) v t
@[simp] theorem aH7:ae n.succ.succ.succ.succ.succ (aw n.succ.succ.succ v t)=ae n.succ.succ.succ.succ.succ t:=tL (by simp;try omega) v t
@[simp] theorem aH8:ae n.succ.succ.succ.succ.succ (aw n.succ.succ.succ.succ v t)=ae n.succ.succ.succ.succ.succ t:=tL (by simp;try omega) v t
@[simp] theorem aH9:ae n.succ.succ.succ.succ.succ (aw n.succ.succ.succ.succ.succ.succ v t)=ae n.succ.succ.succ.succ.succ t:=tL (by simp;try omega) v t
@[simp] theorem aIa:ae n.succ.succ.succ.succ.succ (aw n.succ.succ.succ.succ.succ.succ.succ v t)=ae n.succ.succ.succ.succ.succ t:=tL (by simp;try omega) v t
@[simp] theorem aIb:ae n.succ.succ.succ.succ.succ.succ (aw n v t)=ae n.succ.succ.succ.succ.succ.succ t:=tL (by simp;try omega) v t
@[simp] theorem aIc:ae n.succ.succ.succ.succ.succ.succ (aw n.succ v t)=ae n.succ.succ.succ.succ.succ.succ t:=tL (by simp;try omega) v t
@[simp] theorem aId:ae n.succ.succ.succ.succ.succ.succ (aw n.succ.succ v t)=ae n.succ.succ.succ.succ.succ.succ t:=tL (by simp;try omega) v t
@[simp] theorem aIe:ae n.succ.succ.succ.succ.succ.succ (aw n.succ.succ.succ v t)=ae n.succ.succ.succ.succ.succ.succ t:=tL (by simp;try omega) v t
@[simp] theorem aIf:ae n.succ.succ.succ.succ.succ.succ (aw n.succ.succ.succ.succ v t)=ae n.succ.succ.succ.succ.succ.succ t:=tL (by simp;try omega) v t
@[simp] theorem aIg:ae n.succ.succ.succ.succ.succ.succ (aw n.succ.succ.succ.succ.succ v t)=ae n.succ.succ.succ.succ.succ.succ t:=tL (by simp;try omega) v t
@[simp] theorem aIh:ae n.succ.succ.succ.succ.succ.succ (aw n.succ.succ.succ.succ.succ.succ.succ v t)=ae n.succ.succ.succ.succ.succ.succ t:=tL (by simp;try omega) v t
@[simp] theorem aIi:ae n.succ.succ.succ.succ.succ.succ.succ (aw n v t)=ae n.succ.succ.succ.succ.succ.succ.succ t:=tL (by simp;try omega) v t
@[simp] theorem aIj:ae n.succ.succ.succ.succ.succ.succ.succ (aw n.succ v t)=ae n.succ.succ.succ.succ.succ.succ.succ t:=tL (by simp;try omega) v t
@[simp] theorem aIk:ae n.succ.succ.succ.succ.succ.succ.succ (aw n.succ.succ v t)=ae n.succ.succ.succ.succ.succ.succ.succ t:=tL (by simp;try omega) v t
@[simp] theorem aIl:ae n.succ.succ.succ.succ.succ.succ.succ (aw n.succ.succ.succ v t)=ae n.succ.succ.succ.succ.succ.succ.succ t:=tL (by simp;try omega) v t
@[simp] theorem aIm:ae n.succ.succ.succ.succ.succ.succ.succ (aw n.succ.succ.succ.succ v t)=ae n.succ.succ.succ.succ.succ.succ.succ t:=tL (by simp;try omega) v t
@[simp] theorem aIn:ae n.succ.succ.succ.succ.succ.succ.succ (aw n.succ.succ.succ.succ.succ v t)=ae n.succ.succ.succ.succ.succ.succ.succ t:=tL (by simp;try omega) v t
@[simp] theorem aIo:ae n.succ.succ.succ.succ.succ.succ.succ (aw n.succ.succ.succ.succ.succ.succ v t)=ae n.succ.succ.succ.succ.succ.succ.succ t:=tL (by simp;try omega) v t
@[simp] theorem ay8(k:IntKind):ra (.int k (.lit 2))=some 2:=rfl
@[simp] theorem auu(k:IntKind):ra (.int k (.lit 3))=some 3:=rfl
theorem ns:∀(k:Key),Key.beq k k=true
 |.z=>rfl
 |.o k=>by rw[Key.beq];exact ns k
 |.e k=>by rw[Key.beq];exact ns k
theorem afn(f:SF):SF.beq f f=true:=by cases f<;>simp[SF.beq,ns]
mutual
def AV.lits:AV→Bool
 |.int _ (.lit _)=>true
 |.int _ _=>false
 |.fn _ a c=>AV.iA a&&AV.iA c
 |.iface _ v=>AV.lits v
 |.agg l=>AV.iA l
 |.tuple l=>AV.iA l
 |.sl l _ _ _=>AV.iA l
 |.cref l=>AV.iA l
 |_=>true
def AV.iA:List AV→Bool
 | []=>true
 |v ::l=>AV.lits v&&AV.iA l
end
mutual
theorem beq_refl:∀(v:AV),AV.lits v=true→AV.beq v v=true
 |.bool b,_=>by simp[AV.beq]
 |.int k (.lit n),_=>by cases k<;>simp[AV.beq,SI.beq]
 |.int k (.var n),h=>by simp[AV.lits]at h
 |.int k (.bin o k' a b),h=>by simp[AV.lits]at h
 |.str n c,_=>by simp[AV.beq]
 |.ptr b o,_=>by simp[AV.beq,ns]
 |.nilp,_=>by simp[AV.beq]
 |.slice b o l s,_=>by simp[AV.beq,ns]
 |.nils,_=>by simp[AV.beq]
 |.map b,_=>by simp[AV.beq,ns]
 |.nilm,_=>by simp[AV.beq]
 |.fn f a c,h=>by simp[AV.lits]at h;simp[AV.beq,uK a h.1,uK c h.2]
 |.yld l,_=>by simp[AV.beq,ns]
 |.nilf,_=>by simp[AV.beq]
 |.iface t v,h=>by simp[AV.lits]at h;simp[AV.beq,beq_refl v h]
 |.nili,_=>by simp[AV.beq]
 |.agg l,h=>by simp[AV.lits]at h;simp[AV.beq,uK l h]
 |.tuple l,h=>by simp[AV.lits]at h;simp[AV.beq,uK l h]
 |.sl l n z f,h=>by simp[AV.lits]at h;simp[AV.beq,afn,uK l h]
 |.cref l,h=>by simp[AV.lits]at h;simp[AV.beq,uK l h]
theorem uK:∀(l:List AV),AV.iA l=true→AV.JQ l l=true
 | [],_=>by simp[AV.JQ]
 |v ::l,h=>by simp[AV.iA]at h;simp[AV.JQ,beq_refl v h.1,uK l h.2]
end
theorem ab6:∀{l:List AV},(∀x∈l,AV.lits x=true)→AV.iA l=true
 | [],_=>by simp[AV.iA]
 |v ::l,h=>by simp[AV.iA,h v (by simp),ab6 (l:=l) fun x hx=>h x (by simp[hx])]
theorem Ym:∀{l:List AV},AV.iA l=true→∀x∈l,AV.lits x=true
 | [],_,x,hx=>by simp at hx
 |v ::l,h,x,hx=>by
  simp[AV.iA]at h;rcases OG.1 hx with rfl|hx
  ·exact h.1
  ·exact Ym h.2 x hx
end Go.Sx
namespace Go.Sx
open Go
structure Fn(C:bQ)(f:Nat)(p:fe):Prop where
 get:IP C f=some p
 off:∀l h nx,C.sum f l h nx=none
 mY:C.mY f=false
theorem Fn.call{C:bQ}{f:Nat}{p:fe}(S:Fn C f p){l:List AV}{h:T ah}{nx:Key}{R:Out→T ah→Key→Prop}(hw:gn C p.body (bZ p.res R) (iN l (K 0) .nil) h nx):aG C f l h nx R:=
 aG.of (S.off _ _ _) S.get S.mY hw
abbrev S:=Nat×Nat
def OC(c:AV):Prop:=∀n h,aM n c h=(c,h)
theorem Y2(l:List AV)(n z:Nat):OC (.sl l n z .any):=fun k h=>by cases k<;>rfl
theorem CO:OC .nils:=fun k h=>by cases k<;>rfl
theorem dA(k:IntKind)(n:SI):OC (.int k n):=fun k h=>by cases k<;>rfl
theorem qw(a b:Nat):OC (.str a b):=fun k h=>by cases k<;>rfl
theorem ame(b:Bool):OC (.bool b):=fun k h=>by cases k<;>rfl
theorem bT{n:Nat}:∀{l:List AV} {h:T ah},(∀x∈l,OC x)→bG (aM n) l h=(l,h)
 | [],_,_=>rfl
 |v ::l,h,hs=>by have h1:=hs v (by simp) n h;have h2:=bT (n:=n) (l:=l) (h:=h) fun x hx=>hs x (by simp[hx]);simp only[bG,h1,h2]
theorem CC{n:Nat}{b:Key}{len sz:Nat}{l:List AV}{H:T ah}(hg:ae b H=some (.cells l .part))(hl:l.length=len*sz)(hs:∀x∈l,OC x):aM (n+1) (.slice b 0 len sz) H=(.sl l len sz .any,aw b none H):=by simp only[aM,KB,hg,List.drop_zero];rw[if_pos (by omega),RL (by omega),bT hs]
theorem AP{n:Nat}{b:Key}{len sz:Nat}{l:List AV}{H:T ah}(hg:ae b H=some (.cells l .fix))(hl:l.length=len*sz)(hs:∀x∈l,OC x):aM (n+1) (.slice b 0 len sz) H=(.sl l len sz .any,aw b (some (.cells l .ro)) H):=by simp only[aM,KB,hg,List.drop_zero];rw[if_pos (by omega),RL (by omega),bT hs]
def YO(C:bQ)(f:Nat)(l:List AV)(P:Out→Prop):Prop:=∀h nx,aG C f l h nx (fun o h' nx'=>P o∧Ext h nx h' nx')
theorem YO.mono{C:bQ}{f:Nat}{l:List AV}{P Q:Out→Prop}(hp:YO C f l P)(hq:∀o,P o→Q o):YO C f l Q:=
 fun h nx=>(hp h nx).mono fun o _ _ ⟨a,b⟩=>⟨hq o a,b⟩
theorem E0(h:T ah)(nx:Key)(B:ah):Ext h nx (aw nx (some B) h) nx.succ:=by have s1:=kTSu nx;exact⟨by omega,fun b hb=>by rw[ax hb]⟩
theorem Ext.put{h h':T ah}{nx nx' k:Key}{B:Option ah}(e:Ext h nx h' nx')(hk:nx.toNat≤k.toNat):Ext h nx (aw k B h') nx':=
 ⟨e.n,fun b hb=>by rw[ax (by omega)];exact e.g b hb⟩
theorem Ext.up{h h':T ah}{nx nx' n2:Key}(e:Ext h nx h' nx')(hn:nx'.toNat≤n2.toNat):Ext h nx h' n2:=⟨by have:=e.n;omega,e.g⟩
section
variable{α:Type}
def ag(enc:α→List AV)(l:List α):List AV:=l.flatMap enc
structure Flat(z:Nat)(enc:α→List AV):Prop where
 len:∀x,(enc x).length=z
 r7:∀x,∀y∈enc x,OC y
 cell:∀x,∀y∈enc x,AV.aT y=true
 lits:∀x,AV.iA (enc x)=true
variable{z:Nat}{enc:α→List AV}
@[simp] theorem ajU(enc:α→List AV):ag enc []=[]:=rfl
theorem dE(enc:α→List AV)(x:α)(l:List α):ag enc (x ::l)=enc x++ag enc l:=rfl
theorem jg(enc:α→List AV)(l m:List α):ag enc (l++m)=ag enc l++ag enc m:=by simp[ag]
theorem je(enc:α→List AV)(x:α):ag enc [x]=enc x:=by simp[ag]
theorem Flat.rows(F:Flat z enc):∀(l:List α),(ag enc l).length=l.length*z
 | []=>by simp
 |x ::l=>by rw[dE,Ko,F.len,F.rows l,zqi,Nat.add_mul,Nat.one_mul,Nat.add_comm]
theorem Flat.drop(F:Flat z enc):∀(l:List α) (i:Nat),(ag enc l).drop (i*z)=ag enc (l.drop i)
 |l,0=>by simp
 | [],i+1=>by simp
 |x ::l,i+1=>by
  have hx:(enc x).length=z:=F.len x;have hz:z≤(i+1)*z:=Nat.le_mul_of_pos_left _ (Nat.succ_pos _);have he:(i+1)*z-z=i*z:=by rw[Nat.add_mul,Nat.one_mul];omega
  rw[dE,zqq,List.drop_eq_nil_of_le (by omega),List.nil_append,hx,he,F.drop l i];simp
theorem Flat.take(F:Flat z enc):∀(l:List α) (i:Nat),(ag enc l).take (i*z)=ag enc (l.take i)
 |l,0=>by simp
 | [],i+1=>by simp
 |x ::l,i+1=>by
  have hx:(enc x).length=z:=F.len x;have hz:z≤(i+1)*z:=Nat.le_mul_of_pos_left _ (Nat.succ_pos _);have he:(i+1)*z-z=i*z:=by rw[Nat.add_mul,Nat.one_mul];omega
  rw[dE,zqw,RL (by omega),hx,he,F.take l i];simp[dE]
theorem Flat.at(F:Flat z enc){l:List α}{i:Nat}(hi:i<l.length):((ag enc l).drop (i*z)).take z=enc l[i]:=by rw[F.drop,zqt hi,dE,List.take_append_of_le_length (by rw[F.len];exact fg _),RL (by rw[F.len];exact fg _)]
theorem Flat.yo(F:Flat z enc)(l:List α):∀y∈ag enc l,OC y:=by intro y hy;obtain⟨x,_,hx⟩:=List.mem_flatMap.1 hy;exact F.r7 x y hx
theorem Flat.cells(F:Flat z enc)(l:List α):∀y∈ag enc l,AV.aT y=true:=by intro y hy;obtain⟨x,_,hx⟩:=List.mem_flatMap.1 hy;exact F.cell x y hx
theorem Flat.aeS(F:Flat z enc)(l:List α):(ag enc l).all AV.aT=true:=wG.2 (F.cells l)
theorem Flat.ah1(F:Flat z enc)(l:List α):AV.iA (ag enc l)=true:=by refine ab6 fun y hy=>?_;obtain⟨x,_,hx⟩:=List.mem_flatMap.1 hy;exact Ym (F.lits x) y hx
def gI(z:Nat)(enc:α→List AV)(c:AV)(l:List α):Prop:=(c=.nils∧l=[])∨c=.sl (ag enc l) l.length z .any
theorem gI.r7{c:AV}{l:List α}(h:gI z enc c l):OC c:=by
 rcases h with⟨rfl,_⟩|rfl
 ·exact CO
 ·exact Y2 _ _ _
theorem gI.cell{c:AV}{l:List α}(h:gI z enc c l):c.aT=true∧c.cells=[c]:=by rcases h with⟨rfl,_⟩|rfl<;>exact⟨rfl,rfl⟩
end
structure App(c:AV)(l:List AV)(len sz:Nat)(h:T ah)(nx n0:Key):Prop where
 is:(c=.nils∧l=[]∧len=0)∨(∃b:Key,c=.slice b 0 len sz∧ae b h=some (.cells l .part)∧n0.toNat≤b.toNat∧b.toNat<nx.toNat∧l.length=len*sz)∨
  (∃t:Key,c=.sl l len sz (.tok t)∧ae t h=some .tok∧n0.toNat≤t.toNat∧t.toNat<nx.toNat)
section
variable{c:AV}{l new:List AV}{len sz m:Nat}{h h':T ah}{nx nx' n0:Key}
theorem App.nil(sz:Nat):App .nils [] 0 sz h nx n0:=⟨.inl ⟨rfl,rfl,rfl⟩⟩
theorem App.dW(ha:App c l len sz h nx n0)(h0:n0.toNat≤nx.toNat)(hn:new.length=m*sz)(hl:len+m≤1048576)(hc:new.all AV.aT=true) :
  ∃c' h' nx',appendTo sz c new m h nx=.val c' h' nx'∧App c' (l++new) (len+m) sz h' nx' n0∧nx.toNat≤nx'.toNat∧(∀b:Key,b.toNat<n0.toNat→ae b h'=ae b h)∧∀b:Key,b.toNat<nx.toNat→(∀B,ae b h=some B→B≠.tok∧∀l,B≠.cells l .part)→ae b h'=ae b h:=by
 have s1:=kTSu nx;by_cases hm:m=0
 ·subst hm;have:new=[]:=zqr (by omega);subst this;rcases id ha.is with⟨rfl,rfl,rfl⟩|⟨b,rfl,hb,Ap,cD,hll⟩|⟨t,rfl,ht,Ap,cD⟩
  ·exact⟨.nils,h,nx,by simp,by simpa using ha,fg _,fun _ _=>rfl,fun _ _ _=>rfl⟩
  ·exact⟨.slice b 0 len sz,h,nx,by have Yi:len≤1048576:=hl;simp[hb,Yi],by simpa using ha,fg _,fun _ _=>rfl,fun _ _ _=>rfl⟩
  ·exact⟨.sl l len sz (.tok t),h,nx,by simp,by simpa using ha,fg _,fun _ _=>rfl,fun _ _ _=>rfl⟩
 ·rcases id ha.is with⟨rfl,rfl,rfl⟩|⟨b,rfl,hb,Ap,cD,hll⟩|⟨t,rfl,ht,Ap,cD⟩
  ·have Sa:m≤1048576:=by omega
   exact⟨.slice nx 0 (0+m) sz,aw nx (some (.cells new .part)) h,nx.succ,by simp[hm,Sa],⟨.inr (.inl ⟨nx,rfl,by simp,by omega,by omega,by simpa using hn⟩)⟩,by omega,fun b hb=>ax (by omega),fun b hb _=>ax hb⟩
  ·cases hw:Ie sz with
   |true=>
    refine⟨.slice nx 0 (len+m) sz,aw nx (some (.cells (l++new) .part)) (aw b none h),nx.succ,?_,⟨.inr (.inl ⟨nx,rfl,by simp,by omega,by omega,by rw[Ko,hll,hn,Nat.add_mul]⟩)⟩,by omega,fun x hx=>?_,fun x hx hk=>?_⟩
    ·simp[hl,hc,hb,hll,hm,hw]
    ·rw[ax (by omega),ax (by omega)]
    ·rw[ax hx,aU];rintro rfl;exact(hk _ hb).2 l rfl
   |false=>
    refine⟨.sl (l++new) (len+m) sz (.tok nx),aw nx (some .tok) (aw b none h),nx.succ,?_,⟨.inr (.inr ⟨nx,rfl,by simp,by omega,by omega⟩)⟩,by omega,fun x hx=>?_,fun x hx hk=>?_⟩
    ·simp[hl,hc,hb,hll,hm,hw]
    ·rw[ax (by omega),ax (by omega)]
    ·rw[ax hx,aU];rintro rfl;exact(hk _ hb).2 l rfl
  ·refine⟨.sl (l++new) (len+m) sz (.tok nx),aw nx (some .tok) (aw t none h),nx.succ,?_,⟨.inr (.inr ⟨nx,rfl,by simp,by omega,by omega⟩)⟩,by omega,fun x hx=>?_,fun x hx hk=>?_⟩
   ·simp[hl,hc,ht,hm]
   ·rw[ax (by omega),ax (by omega)]
   ·rw[ax hx,aU];rintro rfl;exact(hk _ ht).1 rfl
theorem App.cF(ha:App c l len sz h nx n0)(hn:nx.toNat≤nx'.toNat)(hg:∀b:Key,b.toNat<nx.toNat→(ae b h=some .tok∨∃l,ae b h=some (.cells l .part))→ae b h'=ae b h):App c l len sz h' nx' n0:=by
 refine⟨?_⟩;rcases ha.is with⟨rfl,rfl,rfl⟩|⟨b,rfl,hb,Ap,cD,hll⟩|⟨t,rfl,ht,Ap,cD⟩
 ·exact .inl ⟨rfl,rfl,rfl⟩
 ·exact .inr (.inl ⟨b,rfl,by rw[hg b cD (.inr ⟨_,hb⟩)];exact hb,Ap,by omega,hll⟩)
 ·exact .inr (.inr ⟨t,rfl,by rw[hg t cD (.inl ht)];exact ht,Ap,by omega⟩)
theorem App.ext(ha:App c l len sz h nx n0)(e:Ext h nx h' nx'):App c l len sz h' nx' n0:=ha.cF e.n fun b hb _=>e.g b hb
theorem App.cell(ha:App c l len sz h nx n0):c.aT=true∧c.cells=[c]:=by rcases ha.is with⟨rfl,rfl,rfl⟩|⟨b,rfl,_⟩|⟨t,rfl,_⟩<;>exact⟨rfl,rfl⟩
theorem App.set{k:Key}{B:Option ah}(ha:App c l len sz h nx n0)(hk:∀B,ae k h=some B→B≠.tok∧∀l,B≠.cells l .part):App c l len sz (aw k B h) nx n0:=
 ha.cF (fg _) fun b _ hx=>aU _ _ _ _ fun e=>by
  subst e;rcases hx with hx|⟨l,hx⟩
  ·exact(hk _ hx).1 rfl
  ·exact(hk _ hx).2 _ rfl
theorem App.ZE(ha:App c l len sz h nx n0)(orc:jR){tm:T AV}{k:Key}(hk:ae k tm=some c):lightOp orc (.lenL (.t k)) tm h=some (I len):=by rcases ha.is with⟨rfl,rfl,rfl⟩|⟨b,rfl,_⟩|⟨t,rfl,_⟩<;>simp[hk]
theorem App.acg(ha:App c l len sz h nx n0)(hs:∀y∈l,OC y)(n:Nat) :
  ((aM (n+1) c h).1=.nils∧l=[]∧len=0∨(aM (n+1) c h).1=.sl l len sz .any)∧∀b:Key,b.toNat<n0.toNat→ae b (aM (n+1) c h).2=ae b h:=by
 rcases ha.is with⟨rfl,rfl,rfl⟩|⟨b,rfl,hb,Ap,cD,hll⟩|⟨t,rfl,ht,Ap,cD⟩
 ·exact⟨.inl ⟨rfl,rfl,rfl⟩,fun _ _=>rfl⟩
 ·rw[CC hb hll hs];exact⟨.inr rfl,fun x hx=>ax (by omega)⟩
 ·exact⟨.inr rfl,fun _ _=>rfl⟩
theorem App.xN{α:Type}{enc:α→List AV}(F:Flat sz enc){us:List α}(ha:App c (ag enc us) us.length sz h nx n0)(n:Nat) :
  gI sz enc (aM (n+1) c h).1 us∧∀b:Key,b.toNat<n0.toNat→ae b (aM (n+1) c h).2=ae b h:=by
 obtain⟨h1,h2⟩:=ha.acg (F.yo us) n;refine⟨?_,h2⟩;rcases h1 with⟨e,_,e3⟩|e
 ·exact .inl ⟨e,zqr e3⟩
 ·exact .inr e
theorem App.As{α:Type}{enc:α→List AV}(F:Flat sz enc){us:List α}(ha:App c (ag enc us) us.length sz h nx n0)(h0:n0.toNat≤nx.toNat)(hl:us.length+1≤1048576)(x:α) :
  ∃c' h' nx',appendTo sz c (enc x) 1 h nx=.val c' h' nx'∧App c' (ag enc (us ++ [x])) (us ++ [x]).length sz h' nx' n0∧nx.toNat≤nx'.toNat∧(∀b:Key,b.toNat<n0.toNat→ae b h'=ae b h)∧∀b:Key,b.toNat<nx.toNat→(∀B,ae b h=some B→B≠.tok∧∀l,B≠.cells l .part)→ae b h'=ae b h:=by
 obtain⟨c',h',nx',a,b,c,d,e⟩:=ha.dW (new:=enc x) (m:=1) h0 (by rw[F.len,Nat.one_mul]) hl (wG.2 (F.cell x));exact⟨c',h',nx',a,by rw[jg,je,Ko];exact b,c,d,e⟩
end
end Go.Sx
