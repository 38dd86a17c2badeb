/- A part of the proof. No condition. -/
import Derived.Test.YtecbfpngkfdkoaaGreatP5
set_option linter.unusedSimpArgs false
set_option linter.unusedVariables false
set_option linter.unusedSectionVars false
namespace Go.Sx
open Go.RowKit
inductive Ex where
 |norm
 |ret
 |exit (id:Nat)
 |pan (a:AV)
def Aft(af:lG)(k:List cT):Ex→T AV→lG→Prop
 |.norm,tm,fr=>fr={af with tm:=tm,todo:=k}
 |.ret,tm,fr=>∃t,fr={af with tm:=tm,todo:=.code .ret ::t}
 |.exit id,tm,fr=>∃k2,lL id k2=lL id k∧fr={af with tm:=tm,todo:=.code (.exit id) ::k2}
 |.pan a,tm,fr=>fr={af with tm:=tm,todo:=[],mode:=.pan a false}
def Lv:Option Nat→aG
 |none=>.ret
 |some i=>.exit i
abbrev cH:=Ex→T AV→T ah→Key→Prop
def Stop(Q:cH)(af:lG)(k:List cT)(cs:List lG)(m:AM):Prop:=∃e aw h' nx' fr,Q e aw h' nx'∧Aft af k e aw fr∧m=⟨fr,cs,h',nx'⟩
def WI(C:bK)(x:cT)(Q:cH)(tm:T AV)(h:T ah)(nx:Key):Prop:=
 ∀(af:lG) (k:List cT) (cs:List lG),af.mode=.run→True→Ev C (Stop Q af k cs) ⟨{af with tm:=tm,todo:=x ::k},cs,h,nx⟩
abbrev W(C:bK)(c:aG):cH→T AV→T ah→Key→Prop:=WI C (.code c)
section
variable{C:bK}{Q Q':cH}{tm:T AV}{h:T ah}{nx:Key}
theorem WI.mono{x:cT}(hw:WI C x Q tm h nx)(hq:∀e tm h nx,Q e tm h nx→Q' e tm h nx):WI C x Q' tm h nx:=by intro af k cs h1 h2;refine(hw af k cs h1 h2).mono ?_;rintro m ⟨e,aw,h',nx',fr,q,a,t⟩;exact⟨e,aw,h',nx',fr,hq _ _ _ _ q,a,t⟩
theorem bp{m:AM}{r:SR}(hm:m.fr.mode=.run)(hr:bT C m.fr m.cs m.h m.nx=r):iD C m=r:=by unfold iD;simp only[hm];exact hr
theorem Stop.not{y:cT}{af:lG}{k:List cT}{cs cs2:List lG}(hy:∀i,y≠.code (Lv i))(h1:af.mode=.run):¬Stop Q af k cs ⟨{af with tm:=tm,todo:=y ::k},cs2,h,nx⟩:=by
 rintro⟨e,aw,h',nx',fr,q,a,t⟩;simp only[AM.mk.injEq]at t;obtain⟨e0,_⟩:=t;cases e with
 |norm=>cases a;simp at e0
 |ret=>obtain⟨_,rfl⟩:=a;simp at e0;exact hy none e0.2.1
 |exit id=>obtain⟨_,_,rfl⟩:=a;simp at e0;exact hy (some id) e0.2.1
 |pan a'=>cases a;simp at e0
theorem WI.to{x y:cT}(hs:∀(af:lG) (k:List cT) (cs:List lG),af.mode=.run→True→bT C {af with tm:=tm,todo:=x ::k} cs h nx=.next ⟨{af with tm:=tm,todo:=y ::k},cs,h,nx⟩)(hw:WI C y Q tm h nx):WI C x Q tm h nx:=by intro af k cs h1 h2;exact .step (bp h1 (hs af k cs h1 h2)) (hw af k cs h1 h2)
theorem W.skip(hq:Q .norm tm h nx):W C .skip Q tm h nx:=by intro af k cs h1 h2;exact .step (bp h1 rfl) (.now ⟨.norm,tm,h,nx,_,hq,rfl,rfl⟩)
theorem W.ret(hq:Q .ret tm h nx):W C .ret Q tm h nx:=by intro af k cs h1 h2;exact .now ⟨.ret,tm,h,nx,_,hq,⟨k,rfl⟩,rfl⟩
theorem W.exit{id:Nat}(hq:Q (.exit id) tm h nx):W C (.exit id) Q tm h nx:=by intro af k cs h1 h2;exact .now ⟨.exit id,tm,h,nx,_,hq,⟨k,rfl,rfl⟩,rfl⟩
theorem W.seq{a b:aG}(hw:W C a (fun e tm h nx=>match e with|.norm=>W C b Q tm h nx|e=>Q e tm h nx) tm h nx):W C (.seq a b) Q tm h nx:=by
 intro af k cs h1 h2;refine .step (m':=⟨{af with tm:=tm,todo:=.code a ::.code b ::k},cs,h,nx⟩) (bp h1 rfl) ((hw af (.code b ::k) cs h1 h2).bind ?_);rintro m ⟨e,aw,h',nx',fr,q,ha,rfl⟩;cases e with
 |norm=>cases ha;refine(q {af with tm:=aw} k cs h1 h2).mono ?_;rintro m ⟨e2,aW,hh2,aU,KZ,q2,a2,t2⟩;refine⟨e2,aW,hh2,aU,KZ,q2,?_,t2⟩;cases e2<;>exact a2
 |ret=>exact .now ⟨.ret,aw,h',nx',fr,q,ha,rfl⟩
 |exit id=>obtain⟨k2,e1,e2⟩:=ha;exact .now ⟨.exit id,aw,h',nx',fr,q,⟨k2,e1,e2⟩,rfl⟩
 |pan a=>exact .now ⟨.pan a,aw,h',nx',fr,q,ha,rfl⟩
theorem W.cond{x:PX}{a b:aG}{t:Bool}(hx:x.at tm=some (.bool t))(hw:W C (if t then a else b) Q tm h nx):W C (.cond x a b) Q tm h nx:=by refine WI.to (y:=.code (if t then a else b)) ?_ hw;intro af k cs h1 h2;simp only[bT,hx];cases t<;>rfl
theorem W.block{id:Nat}{c:aG}(hw:W C c (fun e tm h nx=>match e with|.exit j=>if j=id then Q .norm tm h nx else Q (.exit j) tm h nx|e=>Q e tm h nx) tm h nx):W C (.block id c) Q tm h nx:=by
 intro af k cs h1 h2;refine .step (m':=⟨{af with tm:=tm,todo:=.code c ::.inBlock id ::k},cs,h,nx⟩) (bp h1 rfl) ((hw af (.inBlock id ::k) cs h1 h2).bind ?_);rintro m ⟨e,aw,h',nx',fr,q,ha,rfl⟩;cases e with
 |norm=>cases ha;exact .step (bp h1 rfl) (.now ⟨.norm,aw,h',nx',_,q,rfl,rfl⟩)
 |ret=>exact .now ⟨.ret,aw,h',nx',fr,q,ha,rfl⟩
 |exit j=>
  obtain⟨k2,e1,rfl⟩:=ha;by_cases hj:j=id
  ·subst hj;simp only[if_true]at q;refine .step (m':=⟨{af with tm:=aw,todo:=k},cs,h',nx'⟩) (bp h1 ?_) (.now ⟨.norm,aw,h',nx',_,q,rfl,rfl⟩);simp only[bT,e1,lL,beqN_eq,decide_true,cond_true]
  ·simp only[if_neg hj]at q;refine .now ⟨.exit j,aw,h',nx',_,q,⟨k2,?_,rfl⟩,rfl⟩;rw[e1];simp only[lL,beqN_eq,show ¬id=j from fun e=>hj e.symm,decide_false,cond_false]
 |pan a=>exact .now ⟨.pan a,aw,h',nx',fr,q,ha,rfl⟩
theorem W.loop{c:aG}(Inv:Nat→T AV→T ah→Key→Prop)
  (hw:∀n tm h nx,Inv n tm h nx→W C c (fun e tm h nx=>match e with|.norm=>∃m,m<n∧Inv m tm h nx|e=>Q e tm h nx) tm h nx) {n:Nat} (hi:Inv n tm h nx):W C (.loop c) Q tm h nx:=by
 have key:∀(n:Nat) (tm:T AV) (h:T ah) (nx:Key),Inv n tm h nx→WI C (.inLoop c) Q tm h nx:=by
  intro n
  induction n using Nat.strongRecOn with
  |_ n ih=>
   intro tm h nx hi af k cs h1 h2;refine .step (m':=⟨{af with tm:=tm,todo:=.code c ::.inLoop c ::k},cs,h,nx⟩) (bp h1 rfl) ((hw n tm h nx hi af (.inLoop c ::k) cs h1 h2).bind ?_);rintro m ⟨e,aw,h',nx',fr,q,ha,rfl⟩;cases e with
   |norm=>cases ha;obtain⟨m,hm,him⟩:=q;refine(ih m hm aw h' nx' him {af with tm:=aw} k cs h1 h2).mono ?_;rintro m ⟨e2,aW,hh2,aU,KZ,q2,a2,t2⟩;refine⟨e2,aW,hh2,aU,KZ,q2,?_,t2⟩;cases e2<;>exact a2
   |ret=>exact .now ⟨.ret,aw,h',nx',fr,q,ha,rfl⟩
   |exit id=>obtain⟨k2,e1,e2⟩:=ha;exact .now ⟨.exit id,aw,h',nx',fr,q,⟨k2,e1,e2⟩,rfl⟩
   |pan a=>exact .now ⟨.pan a,aw,h',nx',fr,q,ha,rfl⟩
 intro af k cs h1 h2;exact Ev.same (by rw[bp (m:=⟨{af with tm:=tm,todo:=.inLoop c ::k},cs,h,nx⟩) h1 rfl,bp (m:=⟨{af with tm:=tm,todo:=.code (.loop c) ::k},cs,h,nx⟩) h1 rfl];rfl)
  (Stop.not (fun i e=>by cases i<;>cases e) h1) (key n tm h nx hi af k cs h1 h2)
inductive Out where
 |ret (v:AV)
 |pan (a:AV)
noncomputable def Fl(C:bK)(f:Nat):Option ej:=bif Nat.beq (Key.fe 12 f).toNat f then ae (Key.fe 12 f) C.fns else none
def Left(C:bK)(f:Nat)(fr:lG)(h1:T ah)(o:Out)(h':T ah):Prop:=fr.dfs=[]∧match o with
 |.ret v=>fr.mode=.ret∧∃l,resultsA h1 fr.tm fr.res=some l∧v=mz (b9 (C.kY f) l h1).1∧h'=(b9 (C.kY f) l h1).2
 |.pan a=>fr.mode=.pan a false∧h'=h1
def axo(C:bK)(f:Nat)(R:Out→T ah→Key→Prop)(cs:List lG)(m:AM):Prop:=∃o h' nx' fr h1,R o h' nx'∧fr.fn=f∧fr.Ew=false∧Left C f fr h1 o h'∧m=⟨fr,cs,h1,nx'⟩
def aH(C:bK)(f:Nat)(l:List AV)(h:T ah)(nx:Key)(R:Out→T ah→Key→Prop):Prop:=
 (∃v h' nx',C.sum f l h nx=some (v,h',nx')∧R (.ret v) h' nx')∨
 (C.sum f l h nx=none∧∃p,Fl C f=some p∧∀cs,Ev C (axo C f R cs) ⟨an f p l,cs,h,nx⟩)
theorem aH.mono{f:Nat}{l:List AV}{R R':Out→T ah→Key→Prop}(hc:aH C f l h nx R)(hr:∀o h nx,R o h nx→R' o h nx):aH C f l h nx R':=by
 rcases hc with⟨v,h',nx',h1,h2⟩|⟨h1,p,h2,h3⟩
 ·exact .inl ⟨v,h',nx',h1,hr _ _ _ h2⟩
 ·refine .inr ⟨h1,p,h2,fun cs=>(h3 cs).mono ?_⟩;rintro m ⟨o,h',nx',fr,h1,q,r⟩;exact⟨o,h',nx',fr,h1,hr _ _ _ q,r⟩
def Az(C:bK)(f:Nat)(res:List RV)(R:Out→T ah→Key→Prop):cH:=fun e tm h nx=>match e with
 |.norm|.ret=>∃l,resultsA h tm res=some l∧R (.ret (mz (b9 (C.kY f) l h).1)) (b9 (C.kY f) l h).2 nx
 |.pan a=>R (.pan a) h nx
 |.exit _=>False
theorem aH.YE{f:Nat}{p:ej}{l:List AV}{R:Out→T ah→Key→Prop}(hs:C.sum f l h nx=none)(hp:Fl C f=some p)(hw:W C p.body (Az C f p.res R) (gw l .z .nil) h nx):aH C f l h nx R:=by
 refine .inr ⟨hs,p,hp,fun cs=>(hw (an f p l) [] cs rfl trivial).bind ?_⟩;rintro m ⟨e,aw,h',nx',fr,q,ha,rfl⟩;cases e with
 |norm=>cases ha;obtain⟨l1,hl,hr⟩:=q;exact .step (m':=⟨{an f p l with tm:=aw,todo:=[],mode:=.ret},cs,h',nx'⟩) (bp rfl rfl) (.now ⟨_,_,nx',_,h',hr,rfl,rfl,⟨rfl,rfl,l1,hl,rfl,rfl⟩,rfl⟩)
 |ret=>obtain⟨t',rfl⟩:=ha;obtain⟨l1,hl,hr⟩:=q;exact .step (m':=⟨{an f p l with tm:=aw,todo:=.code .ret ::t',mode:=.ret},cs,h',nx'⟩) (bp rfl rfl) (.now ⟨_,_,nx',_,h',hr,rfl,rfl,⟨rfl,rfl,l1,hl,rfl,rfl⟩,rfl⟩)
 |exit id=>exact q.elim
 |pan a=>cases ha;exact .now ⟨.pan a,h',nx',_,h',q,rfl,rfl,⟨rfl,rfl,rfl⟩,rfl⟩
theorem W.ops{l:List ay}(hw:WI C (.ops l) Q tm h nx):W C (.ops l) Q tm h nx:=
 WI.to (y:=.ops l) (fun _ _ _ _ _=>rfl) hw
theorem WI.ann{l:List ay}{aw:T AV}{h':T ah}{nx':Key}(hr:j6 C.orc l tm h nx=.fin aw h' nx')(hq:Q .norm aw h' nx'):WI C (.ops l) Q tm h nx:=by intro af k cs h1 h2;refine .step (m':=⟨{af with tm:=aw,todo:=k},cs,h',nx'⟩) (bp h1 ?_) (.now ⟨.norm,aw,h',nx',_,hq,rfl,rfl⟩);simp only[bT,hr]
theorem TB{S:AM→Prop}{f:Nat}{args:List AV}{fr c:lG}{cs:List lG}{R:Out→T ah→Key→Prop}(hc:aH C f (b9 (C.raw f) args h).1 (b9 (C.raw f) args h).2 nx R)
  (Nx:∀v,∃gD,cz v fr=some gD) (Av:fr.mode=.run) {m:AM} (hm:iD C m=iK C (.call f args) fr c cs h nx)
  (Eb:∀v h' nx' gD,R (.ret v) h' nx'→cz v fr=some gD→Ev C S ⟨gD,cs,h',nx'⟩)
  (aj4:∀a h' nx',R (.pan a) h' nx'→Ev C S ⟨{fr with mode:=.pan a false,todo:=[],tm:=(match fr.todo with|.staged _ d _ ::_=>IA d.ds fr.tm (fun t=>t)|_=>fr.tm)},cs,h',nx'⟩):Ev C S m:=by
 rcases hc with⟨v,h',nx',hs,hr⟩|⟨hs,p,hp,fC⟩
 ·obtain⟨gD,hf⟩:=Nx v;refine .step (m':=⟨gD,cs,h',nx'⟩) ?_ (Eb v h' nx' gD hr hf);rw[hm];simp only[iK,wc,hs,hf]
 ·have hen:iD C m=.next ⟨an f p (b9 (C.raw f) args h).1,fr ::cs,(b9 (C.raw f) args h).2,nx⟩:=by rw[hm];simp only[iK,wc,hs];unfold Ey;have hp':(bif Nat.beq (Key.fe 12 f).toNat f then ae (Key.fe 12 f) C.fns else none)=some p:=hp;simp only[hp',BB];rfl
  refine .step hen ((fC (fr ::cs)).bind ?_);rintro m2 ⟨o,h',nx',KZ,h1,hr,hfn,hdf,⟨hd,hL⟩,rfl⟩;cases o with
  |ret v=>obtain⟨NN,l,hl,rfl,rfl⟩:=hL;obtain⟨gD,hf⟩:=Nx (mz (b9 (C.kY f) l h1).1);refine .step (m':=⟨gD,cs,(b9 (C.kY f) l h1).2,nx'⟩) ?_ (Eb _ _ nx' gD hr hf);unfold iD;simp only[NN];unfold yb;simp only[hd,NN,hl,hfn,wc];unfold JF;simp only[hdf,cond_false,hf]
  |pan a=>obtain⟨NN,rfl⟩:=hL;refine .step ?_ (aj4 a h' nx' hr);unfold iD;simp only[NN];unfold yb;simp only[hd,NN,Av];rfl
theorem WI.aj5{l:List ay}{f:Nat}{args:List AV}{o:ay}{rest:List ay}{dD:T AV}{h1:T ah}{bF:Key}{R:Out→T ah→Key→Prop}(hr:j6 C.orc l tm h nx=.ev (.call f args) (o ::rest) dD h1 bF)
  (hc:aH C f (b9 (C.raw f) args h1).1 (b9 (C.raw f) args h1).2 bF R)
  (Eb:∀v h2 aU,R (.ret v) h2 aU→WI C (.ops rest) Q (bN o.dst v dD) h2 aU)
  (aj4:∀a h2 aU,R (.pan a) h2 aU→Q (.pan a) dD h2 aU):WI C (.ops l) Q tm h nx:=by
 intro af k cs m1 m2;have dy:iD C ⟨{af with tm:=tm,todo:=.ops l ::k},cs,h,nx⟩=iK C (.call f args) {af with tm:=dD,todo:=.ops (o ::rest) ::k} {af with tm:=dD,todo:=[]} cs h1 bF:=by refine bp m1 ?_;simp only[bT,hr]
 have hfe:∀v,cz v {af with tm:=dD,todo:=.ops (o ::rest) ::k}=some {af with tm:=bN o.dst v dD,todo:=.ops rest ::k}:=fun v=>by simp only[cz,ew]
 refine TB (fr:={af with tm:=dD,todo:=.ops (o ::rest) ::k}) (c:={af with tm:=dD,todo:=[]}) (cs:=cs) hc (fun v=>⟨_,hfe v⟩) m1 dy ?_ ?_
 ·intro v h' nx' gD hR hf;rw[hfe]at hf;cases hf;refine(Eb v h' nx' hR {af with tm:=bN o.dst v dD} k cs m1 m2).mono ?_;rintro m ⟨e2,aW,hh2,aU,KZ,q2,a2,t2⟩;refine⟨e2,aW,hh2,aU,KZ,q2,?_,t2⟩;cases e2<;>exact a2
 ·intro a h' nx' hR;exact .now ⟨.pan a,dD,h',nx',_,aj4 a h' nx' hR,rfl,rfl⟩
theorem W.staged{l:List aL}{d:SD}(hw:WI C (.staged l d []) Q tm h nx):W C (.staged l d) Q tm h nx:=
 WI.to (y:=.staged l d []) (fun _ _ _ _ _=>rfl) hw
theorem WI.asL{l:List aL}{d:SD}{aq:List (Nat×Key×ah)}{aw:T AV}{h':T ah}{nx':Key}(hr:gS C.orc d.jj l aq tm h nx=.fin aw h' nx')(hq:Q .norm aw h' nx'):WI C (.staged l d aq) Q tm h nx:=by intro af k cs h1 h2;refine .step (m':=⟨{af with tm:=aw,todo:=k},cs,h',nx'⟩) (bp h1 ?_) (.now ⟨.norm,aw,h',nx',_,hq,rfl,rfl⟩);simp only[bT,hr]
theorem WI.ano{l:List aL}{d:SD}{aq AT:List (Nat×Key×ah)}{f:Nat}{args:List AV}{i:Nat}{o:ay}{ad:List Nat}{rest:List aL}{dD:T AV}{h1:T ah}{bF:Key}{R:Out→T ah→Key→Prop}
  (hr:gS C.orc d.jj l aq tm h nx=.ev (.call f args) (.H i o ad ::rest) AT dD h1 bF)
  (hc:aH C f (b9 (C.raw f) args h1).1 (b9 (C.raw f) args h1).2 bF R)
  (Eb:∀v h2 aU,R (.ret v) h2 aU→WI C (.staged rest d AT) Q (bN o.dst v dD) h2 aU)
  (aj4:∀a h2 aU,R (.pan a) h2 aU→Q (.pan a) (jA d.ds dD) h2 aU):WI C (.staged l d aq) Q tm h nx:=by
 intro af k cs m1 m2;have dy:iD C ⟨{af with tm:=tm,todo:=.staged l d aq ::k},cs,h,nx⟩=iK C (.call f args) {af with tm:=dD,todo:=.staged (.H i o ad ::rest) d AT ::k} {af with tm:=jA d.ds dD,todo:=[]} cs h1 bF:=by refine bp m1 ?_;simp only[bT,hr,oe]
 have hfe:∀v,cz v {af with tm:=dD,todo:=.staged (.H i o ad ::rest) d AT ::k}=some {af with tm:=bN o.dst v dD,todo:=.staged rest d AT ::k}:=fun v=>by simp only[cz,ew]
 refine TB (fr:={af with tm:=dD,todo:=.staged (.H i o ad ::rest) d AT ::k}) (c:={af with tm:=jA d.ds dD,todo:=[]}) (cs:=cs) hc (fun v=>⟨_,hfe v⟩) m1 dy ?_ ?_
 ·intro v h' nx' gD hR hf;rw[hfe]at hf;cases hf;refine(Eb v h' nx' hR {af with tm:=bN o.dst v dD} k cs m1 m2).mono ?_;rintro m ⟨e2,aW,hh2,aU,KZ,q2,a2,t2⟩;refine⟨e2,aW,hh2,aU,KZ,q2,?_,t2⟩;cases e2<;>exact a2
 ·intro a h' nx' hR;simp only[oe];exact .now ⟨.pan a,jA d.ds dD,h',nx',_,aj4 a h' nx' hR,rfl,rfl⟩
theorem WI.anp{l:List ay}{a:AV}{rest:List ay}{dD:T AV}{h1:T ah}{bF:Key}(hr:j6 C.orc l tm h nx=.ev (.pan a) rest dD h1 bF)(hq:Q (.pan a) dD h1 bF):WI C (.ops l) Q tm h nx:=by intro af k cs m1 m2;refine .step (m':=⟨{af with tm:=dD,todo:=[],mode:=.pan a false},cs,h1,bF⟩) (bp m1 ?_) (.now ⟨.pan a,dD,h1,bF,_,hq,rfl,rfl⟩);simp only[bT,hr,iK]
noncomputable def anq:List Key→List AV→T AV→Option (T AV)
 | [],[],tm=>some tm
 |k ::l,v ::m,tm=>anq l m (av k (some v) tm)
 |_,_,_=>none
theorem YH{R:Type}:∀(l:List Key) (m:List AV) (tm:T AV) (bad:R) (c:T AV→R),Uh l m tm bad c=match anq l m tm with|some tm=>c tm|none=>bad
 | [],[],_,_,_=>rfl
 | [],_ ::_,_,_,_=>rfl
 |_ ::_,[],_,_,_=>rfl
 |k ::l,v ::m,tm,bad,c=>by show vU k (some v) tm (fun tm=>Uh l m tm bad c)=_;rw[sTCe];exact YH l m _ bad c
def I5(R:Out→T ah→Key→Prop)(l:Key)(fn:Nat)(tm:T AV)(res:List RV)(ps:List Key)(a b:aG)(d:Key):cH:=fun e _ h nx=>(∃p,ae l h=some (.loop .busy p fn tm res ps a b d))∧match e with
 |.norm=>R (.ret (.bool true)) (av l (some (.loop .ready none fn tm res ps a b d)) h) nx
 |.ret=>R (.ret (.bool false)) (av l (some (.loop .done (some .ret) fn tm res ps a b d)) h) nx
 |.exit i=>R (.ret (.bool false)) (av l (some (.loop .done (some (.exit i)) fn tm res ps a b d)) h) nx
 |.pan _=>False
def Ah(C:bK)(l:Key)(args:List AV)(h:T ah)(nx:Key)(R:Out→T ah→Key→Prop):Prop:=
 ∃fn tm res ps a b d,(∃p,ae l h=some (.loop .ready p fn tm res ps a b d))∧∃dD,anq ps args tm=some dD∧
  W C a (fun e aW h2 aU=>e=.norm∧∃p,ae l h2=some (.loop .ready p fn tm res ps a b d)∧W C b (I5 R l fn tm res ps a b d) aW (av l (some (.loop .busy p fn tm res ps a b d)) h2) aU) dD h nx
theorem FV{jump:Option aG}{fr c c':lG}{cs:List lG}{l:Key}{st:LS}{p:Option aG}{fn:Nat}{dD:T AV}{res:List RV}{ps:List Key}{a b:aG}{d:Key}(hr:fr.sV=some l)(hl:ae l h=some (.loop st p fn dD res ps a b d))
  (hf:cz (.bool (match jump with|none=>true|some _=>false)) c=some c'):IH jump fr (c ::cs) h nx=.next ⟨c',cs,av l (some (.loop (match jump with|none=>.ready|some _=>.done) jump fn dD res ps a b d)) h,nx⟩:=by
 unfold IH;rw[hr];dsimp only;rw[hl];cases jump with
 |none=>have hf:cz (.bool true) c=some c':=hf;simp only[sTCe,hf]
 |some j=>have hf:cz (.bool false) c=some c':=hf;simp only[sTCe,hf]
theorem YI{S:AM→Prop}{l:Key}{args:List AV}{fr c:lG}{cs:List lG}{R:Out→T ah→Key→Prop}(hc:Ah C l args h nx R)
  (Nx:∀v,∃gD,cz v fr=some gD) {m:AM} (hm:iD C m=iK C (.yld l args) fr c cs h nx)
  (Eb:∀v h' nx' gD,R (.ret v) h' nx'→cz v fr=some gD→Ev C S ⟨gD,cs,h',nx'⟩):Ev C S m:=by
 obtain⟨fn,tm,res,ps,a,b,d,⟨p,hl⟩,dD,hz,hw⟩:=hc;refine .step (m':=⟨{fn:=fn,tm:=dD,todo:=[.code a,.beginRound,.code b],dfs:=[],mode:=.run,Ew:=false,sV:=some l,res:=res},fr ::cs,h,nx⟩) ?_ ?_
 ·rw[hm];simp only[iK,hl,YH,hz]
 ·refine(hw {fn:=fn,tm:=dD,todo:=[],dfs:=[],mode:=.run,Ew:=false,sV:=some l,res:=res} [.beginRound,.code b] (fr ::cs) rfl trivial).bind ?_;rintro m2 ⟨e,aW,h2,aU,KZ,⟨rfl,p2,MD,hw2⟩,ha,rfl⟩;cases ha;refine .step (m':=⟨{fn:=fn,tm:=aW,todo:=[.code b],dfs:=[],mode:=.run,Ew:=false,sV:=some l,res:=res},fr ::cs,av l (some (.loop .busy p2 fn tm res ps a b d)) h2,aU⟩) (bp rfl ?_) ?_
  ·simp only[bT,MD,sTCe]
  ·refine(hw2 {fn:=fn,tm:=aW,todo:=[],dfs:=[],mode:=.run,Ew:=false,sV:=some l,res:=res} [] (fr ::cs) rfl trivial).bind ?_;rintro m3 ⟨e,SS,h3,cF,fr3,⟨⟨p3,hl3⟩,q⟩,ha,rfl⟩;cases e with
   |norm=>cases ha;obtain⟨gD,hf⟩:=Nx (.bool true);refine .step (m':=⟨gD,cs,_,cF⟩) (bp rfl ?_) (Eb _ _ cF gD q hf);exact FV (jump:=none) (fr:={fn:=fn,tm:=SS,todo:=[],dfs:=[],mode:=.run,Ew:=false,sV:=some l,res:=res}) rfl hl3 hf
   |ret=>obtain⟨t,rfl⟩:=ha;obtain⟨gD,hf⟩:=Nx (.bool false);refine .step (m':=⟨gD,cs,_,cF⟩) (bp rfl ?_) (Eb _ _ cF gD q hf);exact FV (jump:=some .ret) (fr:={fn:=fn,tm:=SS,todo:=.code .ret ::t,dfs:=[],mode:=.run,Ew:=false,sV:=some l,res:=res}) rfl hl3 hf
   |exit i=>obtain⟨k2,hk,rfl⟩:=ha;obtain⟨gD,hf⟩:=Nx (.bool false);refine .step (m':=⟨gD,cs,_,cF⟩) (bp rfl ?_) (Eb _ _ cF gD q hf);have hk:lL i k2=none:=hk;simp only[bT,hk];exact FV (jump:=some (.exit i)) (fr:={fn:=fn,tm:=SS,todo:=.code (.exit i) ::k2,dfs:=[],mode:=.run,Ew:=false,sV:=some l,res:=res}) rfl hl3 hf
   |pan a=>exact q.elim
theorem WI.anr{l:List ay}{lk:Key}{args:List AV}{o:ay}{rest:List ay}{dD:T AV}{h1:T ah}{bF:Key}{R:Out→T ah→Key→Prop}(hr:j6 C.orc l tm h nx=.ev (.yld lk args) (o ::rest) dD h1 bF)
  (hc:Ah C lk args h1 bF R) (Eb:∀v h2 aU,R (.ret v) h2 aU→WI C (.ops rest) Q (bN o.dst v dD) h2 aU):WI C (.ops l) Q tm h nx:=by
 intro af k cs m1 m2;have dy:iD C ⟨{af with tm:=tm,todo:=.ops l ::k},cs,h,nx⟩=iK C (.yld lk args) {af with tm:=dD,todo:=.ops (o ::rest) ::k} {af with tm:=dD,todo:=[]} cs h1 bF:=by refine bp m1 ?_;simp only[bT,hr]
 have hfe:∀v,cz v {af with tm:=dD,todo:=.ops (o ::rest) ::k}=some {af with tm:=bN o.dst v dD,todo:=.ops rest ::k}:=fun v=>by simp only[cz,ew]
 refine YI (fr:={af with tm:=dD,todo:=.ops (o ::rest) ::k}) (c:={af with tm:=dD,todo:=[]}) (cs:=cs) hc (fun v=>⟨_,hfe v⟩) dy ?_;intro v h' nx' gD hR hf;rw[hfe]at hf;cases hf;refine(Eb v h' nx' hR {af with tm:=bN o.dst v dD} k cs m1 m2).mono ?_;rintro m ⟨e2,aW,hh2,aU,KZ,q2,a2,t2⟩;refine⟨e2,aW,hh2,aU,KZ,q2,?_,t2⟩;cases e2<;>exact a2
theorem WI.asM{l:List aL}{d:SD}{aq AT:List (Nat×Key×ah)}{lk:Key}{args:List AV}{i:Nat}{o:ay}{ad:List Nat}{rest:List aL}{dD:T AV}{h1:T ah}{bF:Key}{R:Out→T ah→Key→Prop}
  (hr:gS C.orc d.jj l aq tm h nx=.ev (.yld lk args) (.H i o ad ::rest) AT dD h1 bF)
  (hc:Ah C lk args h1 bF R) (Eb:∀v h2 aU,R (.ret v) h2 aU→WI C (.staged rest d AT) Q (bN o.dst v dD) h2 aU):WI C (.staged l d aq) Q tm h nx:=by
 intro af k cs m1 m2;have dy:iD C ⟨{af with tm:=tm,todo:=.staged l d aq ::k},cs,h,nx⟩=iK C (.yld lk args) {af with tm:=dD,todo:=.staged (.H i o ad ::rest) d AT ::k} {af with tm:=jA d.ds dD,todo:=[]} cs h1 bF:=by refine bp m1 ?_;simp only[bT,hr,oe]
 have hfe:∀v,cz v {af with tm:=dD,todo:=.staged (.H i o ad ::rest) d AT ::k}=some {af with tm:=bN o.dst v dD,todo:=.staged rest d AT ::k}:=fun v=>by simp only[cz,ew]
 refine YI (fr:={af with tm:=dD,todo:=.staged (.H i o ad ::rest) d AT ::k}) (c:={af with tm:=jA d.ds dD,todo:=[]}) (cs:=cs) hc (fun v=>⟨_,hfe v⟩) dy ?_;intro v h' nx' gD hR hf;rw[hfe]at hf;cases hf;refine(Eb v h' nx' hR {af with tm:=bN o.dst v dD} k cs m1 m2).mono ?_;rintro m ⟨e2,aW,hh2,aU,KZ,q2,a2,t2⟩;refine⟨e2,aW,hh2,aU,KZ,q2,?_,t2⟩;cases e2<;>exact a2
end
end Go.Sx
namespace Go.Sx
def K(n:Nat):Key:=bif Nat.blt n 4095 then Key.fe 12 n else Key.fe n n
theorem pV:∀(f n:Nat),n+1<2^(f+1)→(Key.fe f n).toNat=n
 |0,n,h=>by
  have:n=0:=by omega
  subst this;rfl
 |f+1,n,h=>by
  unfold Key.fe;have hp:2^(f+1+1)=2*2^(f+1):=by rw[Nat.pow_succ,Nat.mul_comm]
  cases h0:Nat.beq n 0 with
  |true=>have:=o9 h0;subst this;rfl
  |false=>
   have hn:n≠0:=by intro e;subst e;cases h0
   simp only[cond_false];cases h1:Nat.beq (n%2) 1 with
   |true=>have h1:=o9 h1;simp only[cond_true,Key.toNat,pV f (n / 2) (by omega)];omega
   |false=>
    have h1:n%2≠1:=by intro e;rw[e]at h1;cases h1
    simp only[cond_false,Key.toNat,pV f (n / 2-1) (by omega)];omega
theorem Oy(n:Nat):(K n).toNat=n:=by
 unfold K;cases h:Nat.blt n 4095 with
 |true=>rw[bltN_eq,decide_eq_true_eq]at h;exact pV 12 n (by omega)
 |false=>refine pV n n ?_;have:n+1<2^(n+1):=Nat.lt_two_pow_self;exact this
theorem axl{i j:Nat}(h:K i=K j):i=j:=by rw[←Oy i,←Oy j,h]
theorem ar2(n:Nat):(K n).succ=K (n+1):=Key.toNat_inj (by rw[kTSu,Oy,Oy])
theorem get_set_K{α:Type}(i j:Nat)(v:Option α)(t:T α):ae (K i) (av (K j) v t)=if i=j then v else ae (K i) t:=by
 by_cases h:i=j
 ·subst h;rw[if_pos rfl,gTSm]
 ·rw[if_neg h,aR _ _ _ _ (fun e=>h (axl e))]
section
variable{orc:iG}{tm:T AV}{h:T ah}{nx:Key}
theorem at_t(k:Key):(PX.t k).at tm=ae k tm:=rfl
theorem at_v(a:AV):(PX.v a).at tm=some a:=rfl
theorem abW:j6 orc [] tm h nx=.fin tm h nx:=rfl
theorem putTm_some(k:Key)(v:AV):bN (some k) v tm=av k (some v) tm:=rfl
theorem putTm_none(v:AV):bN none v tm=tm:=rfl
theorem wants_none:cq none tm=some true:=rfl
theorem wants_some(k:Key)(b:Bool):cq (some (k,b)) tm=match ae k tm with
  |some (.bool c)=>some (c==b)
  |some (.tuple [])=>some false
  |_=>none:=rfl
theorem ltI_dec(a b:Int):SP a b=decide (a<b):=L4 a b
theorem aC{n:Int}(h1:-9223372036854775808≤n)(h2:n<9223372036854775808):bP .i64 n=n:=by
 rw[gW];have:IntKind.wrap .i64 n=n:=by
  rw[←gW];simp only[bP,full,half,L4];have h3:Int.emod n 18446744073709551616=n%18446744073709551616:=rfl;rw[h3];by_cases h0:0≤n
  ·rw[show n%18446744073709551616=n by omega];have:decide (n<9223372036854775808)=true:=by simpa using h2
   rw[this];rfl
  ·rw[show n%18446744073709551616=n+18446744073709551616 by omega];have:decide (n+18446744073709551616<9223372036854775808)=false:=by simp;omega
   rw[this];show n+18446744073709551616-18446744073709551616=n;omega
 exact this
end
end Go.Sx
namespace Go.Sx
open Go.RowKit
def wpG(t:Option Bool)(A B:Prop):Prop:=match t with
 |none=>False
 |some t=>(t=true→A)∧(t=false→B)
noncomputable def lH(C:bK)(Q:cH):List ay→T AV→T ah→Key→Prop
 | [],tm,h,nx=>Q .norm tm h nx
 |o ::l,tm,h,nx=>wpG (cq o.guard tm)
   (match aOp C.orc o.op tm h nx with
   |.val v h nx=>lH C Q l (bN o.dst v tm) h nx
   |.call f args=>aH C f (b9 (C.raw f) args h).1 (b9 (C.raw f) args h).2 nx (fun out h nx=>match out with
    |.ret v=>lH C Q l (bN o.dst v tm) h nx
    |.pan a=>Q (.pan a) tm h nx)
   |.yld k args=>Ah C k args h nx (fun out h nx=>match out with
    |.ret v=>lH C Q l (bN o.dst v tm) h nx
    |.pan a=>Q (.pan a) tm h nx)
   |.pan a=>Q (.pan a) tm h nx
   |_=>False)
   (lH C Q l (bN o.dst (.tuple []) tm) h nx)
noncomputable def wpS(C:bK)(Q:cH)(d:SD):List aL→List (Nat×Key×ah)→T AV→T ah→Key→Prop
 | [],aq,tm,h,nx=>Q .norm tm (cZ aq h) nx
 |.L i o ::l,aq,tm,h,nx=>wpG (cq o.guard tm)
   (match lightOp C.orc o.op tm (wE (DV i d.jj) aq h)with
   |some v=>wpS C Q d l aq (bN o.dst v tm) h nx
   |none=>False)
   (wpS C Q d l aq (bN o.dst (.tuple []) tm) h nx)
 |.A i o ::l,aq,tm,h,nx=>wpG (cq o.guard tm)
   (match allocOp o.op tm with
   |some (v,b)=>wpS C Q d l ((i,nx,b) ::aq) (bN o.dst (v nx) tm) h nx.succ
   |none=>False)
   (wpS C Q d l aq (bN o.dst (.tuple []) tm) h nx)
 |.H i o ad ::l,aq,tm,h,nx=>wpG (cq o.guard tm)
   (match aOp C.orc o.op tm (cZ (aq.filter fun x=>memN x.1 ad) h) nx with
   |.val v h nx=>wpS C Q d l (aq.filter fun x=>!(memN x.1 ad)) (bN o.dst v tm) h nx
   |.call f args=>aH C f (b9 (C.raw f) args (cZ (aq.filter fun x=>memN x.1 ad) h)).1 (b9 (C.raw f) args (cZ (aq.filter fun x=>memN x.1 ad) h)).2 nx (fun out h nx=>match out with
    |.ret v=>wpS C Q d l (aq.filter fun x=>!(memN x.1 ad)) (bN o.dst v tm) h nx
    |.pan a=>Q (.pan a) (jA d.ds tm) h nx)
   |.yld k args=>Ah C k args (cZ (aq.filter fun x=>memN x.1 ad) h) nx (fun out h nx=>match out with
    |.ret v=>wpS C Q d l (aq.filter fun x=>!(memN x.1 ad)) (bN o.dst v tm) h nx
    |.pan a=>Q (.pan a) (jA d.ds tm) h nx)
   |.pan a=>Q (.pan a) (jA d.ds tm) (cZ (aq.filter fun x=>memN x.1 ad) h) nx
   |_=>False)
   (wpS C Q d l (aq.filter fun x=>!(memN x.1 ad)) (bN o.dst (.tuple []) tm) (cZ (aq.filter fun x=>memN x.1 ad) h) nx)
 |.R os ::l,aq,tm,h,nx=>recheck C.orc d.jj aq tm h os=true∧wpS C Q d l aq tm h nx
def aM(W:T AV→T ah→Key→Prop)(Q:cH):cH:=fun e tm h nx=>match e with
 |.norm=>W tm h nx
 |e=>Q e tm h nx
def aA(id:Nat)(Q:cH):cH:=fun e tm h nx=>match e with
 |.exit j=>if j=id then Q .norm tm h nx else Q (.exit j) tm h nx
 |e=>Q e tm h nx
noncomputable def iH(C:bK):aG→cH→T AV→T ah→Key→Prop
 |.skip,Q,tm,h,nx=>Q .norm tm h nx
 |.ops l,Q,tm,h,nx=>lH C Q l tm h nx
 |.staged l d,Q,tm,h,nx=>wpS C Q d l [] tm h nx
 |.seq a b,Q,tm,h,nx=>iH C a (aM (iH C b Q) Q) tm h nx
 |.cond x a b,Q,tm,h,nx=>match x.at tm with
  |some (.bool t)=>(t=true→iH C a Q tm h nx)∧(t=false→iH C b Q tm h nx)
  |_=>False
 |.block id c,Q,tm,h,nx=>iH C c (aA id Q) tm h nx
 |.loop c,Q,tm,h,nx=>W C (.loop c) Q tm h nx
 |.rangeF f ps a b,Q,tm,h,nx=>W C (.rangeF f ps a b) Q tm h nx
 |.exit id,Q,tm,h,nx=>Q (.exit id) tm h nx
 |.ret,Q,tm,h,nx=>Q .ret tm h nx
section
variable{C:bK}{Q:cH}
theorem WI.same{x y:cT}{tm aW:T AV}{h h2:T ah}{nx aU:Key}(hy:∀i,y≠.code (Lv i))(hs:∀(af:lG) (k:List cT) (cs:List lG),af.mode=.run→bT C {af with tm:=tm,todo:=x ::k} cs h nx=bT C {af with tm:=aW,todo:=y ::k} cs h2 aU)
  (hw:WI C y Q aW h2 aU):WI C x Q tm h nx:=by
 intro af k cs h1 Q4;exact Ev.same (by rw[bp (m:=⟨{af with tm:=aW,todo:=y ::k},cs,h2,aU⟩) h1 rfl,bp (m:=⟨{af with tm:=tm,todo:=x ::k},cs,h,nx⟩) h1 rfl];exact hs af k cs h1)
  (Stop.not hy h1) (hw af k cs h1 Q4)
theorem Bd:∀{l:List ay} {tm:T AV} {h:T ah} {nx:Key},lH C Q l tm h nx→WI C (.ops l) Q tm h nx
 | [],tm,h,nx,hw=>WI.ann abW hw
 |o ::l,tm,h,nx,hw=>by
  unfold lH at hw;cases hg:cq o.guard tm with
  |none=>rw[hg]at hw;exact hw.elim
  |some t=>
   rw[hg]at hw;have Ib:∀{aW:T AV} {h2:T ah} {aU:Key},j6 C.orc (o ::l) tm h nx=j6 C.orc l aW h2 aU→lH C Q l aW h2 aU→WI C (.ops (o ::l)) Q tm h nx:=by intro aW h2 aU he hw2;refine WI.same (y:=.ops l) (fun i e=>by cases i<;>cases e) ?_ (Bd hw2);intro af k cs _;show(match j6 C.orc (o ::l) tm h nx with|.fin tm h nx=>_|.ev r rest tm h nx=>_)=(match j6 C.orc l aW h2 aU with|.fin tm h nx=>_|.ev r rest tm h nx=>_);rw[he]
   cases t with
   |false=>refine Ib ?_ (hw.2 rfl);rw[oG,hg];simp only[ew]
   |true=>
    have hw:=hw.1 rfl;cases ha:aOp C.orc o.op tm h nx with
    |val v h' nx'=>rw[ha]at hw;refine Ib ?_ hw;rw[oG,hg,ha];simp only[ew]
    |call f args=>rw[ha]at hw;refine WI.aj5 (by rw[oG,hg,ha]) hw (fun v h2 aU hr=>Bd hr) (fun a h2 aU hr=>hr)
    |pan a=>rw[ha]at hw;exact WI.anp (by rw[oG,hg,ha]) hw
    |yld k args=>rw[ha]at hw;exact WI.anr (by rw[oG,hg,ha]) hw (fun v h2 aU hr=>Bd hr)
    |dfr f args=>rw[ha]at hw;exact hw.elim
    |recover=>rw[ha]at hw;exact hw.elim
    |bad n=>rw[ha]at hw;exact hw.elim
theorem Be{d:SD}:∀{l:List aL} {aq:List (Nat×Key×ah)} {tm:T AV} {h:T ah} {nx:Key},wpS C Q d l aq tm h nx→WI C (.staged l d aq) Q tm h nx
 | [],aq,tm,h,nx,hw=>WI.asL (by show EL aq h (fun h=>RS.fin tm h nx)=_;rw[FW]) hw
 |x ::l,aq,tm,h,nx,hw=>by
  have Ib:∀{pend2:List (Nat×Key×ah)} {aW:T AV} {h2:T ah} {aU:Key},gS C.orc d.jj (x ::l) aq tm h nx=gS C.orc d.jj l pend2 aW h2 aU→wpS C Q d l pend2 aW h2 aU→WI C (.staged (x ::l) d aq) Q tm h nx:=by intro pend2 aW h2 aU he hw2;refine WI.same (y:=.staged l d pend2) (fun i e=>by cases i<;>cases e) ?_ (Be hw2);intro af k cs _;show(match gS C.orc d.jj (x ::l) aq tm h nx with|.fin tm h nx=>_|.ev r rest aq tm h nx=>_)=(match gS C.orc d.jj l pend2 aW h2 aU with|.fin tm h nx=>_|.ev r rest aq tm h nx=>_);rw[he]
  cases x with
  |L i o=>
   unfold wpS at hw;cases hg:cq o.guard tm with
   |none=>rw[hg]at hw;exact hw.elim
   |some t=>
    rw[hg]at hw;cases t with
    |false=>refine Ib ?_ (hw.2 rfl);rw[Vl,hg];simp only[ew]
    |true=>
     have hw:=hw.1 rfl;cases hl:lightOp C.orc o.op tm (wE (DV i d.jj) aq h)with
     |none=>rw[hl]at hw;exact hw.elim
     |some v=>rw[hl]at hw;refine Ib ?_ hw;rw[Vl,hg,hl];simp only[ew]
  |A i o=>
   unfold wpS at hw;cases hg:cq o.guard tm with
   |none=>rw[hg]at hw;exact hw.elim
   |some t=>
    rw[hg]at hw;cases t with
    |false=>refine Ib ?_ (hw.2 rfl);rw[Vm,hg];simp only[ew]
    |true=>
     have hw:=hw.1 rfl;cases hl:allocOp o.op tm with
     |none=>rw[hl]at hw;exact hw.elim
     |some vb=>obtain⟨v,b⟩:=vb;rw[hl]at hw;refine Ib ?_ hw;rw[Vm,hg,hl];simp only[ew]
  |H i o ad=>
   unfold wpS at hw;cases hg:cq o.guard tm with
   |none=>rw[hg]at hw;exact hw.elim
   |some t=>
    rw[hg]at hw;cases t with
    |false=>refine Ib ?_ (hw.2 rfl);rw[Vn,w8,hg];simp only[ew]
    |true=>
     have hw:=hw.1 rfl;have fC:gS C.orc d.jj (.H i o ad ::l) aq tm h nx=(match aOp C.orc o.op tm (cZ (aq.filter fun x=>memN x.1 ad) h) nx with
       |.val v h nx=>wD o.dst (some v) tm fun tm=>gS C.orc d.jj l (aq.filter fun x=>!(memN x.1 ad)) tm h nx
       |r=>.ev r (.H i o ad ::l) (aq.filter fun x=>!(memN x.1 ad)) tm (cZ (aq.filter fun x=>memN x.1 ad) h) nx):=by
      rw[Vn,w8,hg];rfl
     cases ha:aOp C.orc o.op tm (cZ (aq.filter fun x=>memN x.1 ad) h) nx with
     |val v h' nx'=>rw[ha]at hw fC;refine Ib ?_ hw;rw[fC];simp only[ew]
     |call f args=>rw[ha]at hw fC;exact WI.ano fC hw (fun v h2 aU hr=>Be hr) (fun a h2 aU hr=>hr)
     |pan a=>rw[ha]at hw fC;intro af k cs m1 m2;refine .step (m':=⟨{af with tm:=jA d.ds tm,todo:=[],mode:=.pan a false},cs,_,nx⟩) (bp m1 ?_) (.now ⟨.pan a,jA d.ds tm,_,nx,_,hw,rfl,rfl⟩);simp only[bT,fC,oe,iK]
     |yld k args=>rw[ha]at hw fC;exact WI.asM fC hw (fun v h2 aU hr=>Be hr)
     |dfr f args=>rw[ha]at hw;exact hw.elim
     |recover=>rw[ha]at hw;exact hw.elim
     |bad n=>rw[ha]at hw;exact hw.elim
  |R os=>unfold wpS at hw;refine Ib ?_ hw.2;rw[UG,hw.1];rfl
theorem lX:∀{c:aG} {Q:cH} {tm:T AV} {h:T ah} {nx:Key},iH C c Q tm h nx→W C c Q tm h nx
 |.skip,Q,tm,h,nx,hw=>W.skip hw
 |.ops l,Q,tm,h,nx,hw=>W.ops (Bd hw)
 |.staged l d,Q,tm,h,nx,hw=>W.staged (Be hw)
 |.seq a b,Q,tm,h,nx,hw=>by
  have hw:iH C a (aM (iH C b Q) Q) tm h nx:=hw;refine W.seq ((lX hw).mono fun e tm h nx hq=>?_);cases e with
  |norm=>exact lX hq
  |_=>exact hq
 |.cond x a b,Q,tm,h,nx,hw=>by
  unfold iH at hw;split at hw
  ·rename_i t hx;refine W.cond hx ?_;cases t with
   |true=>exact lX (hw.1 rfl)
   |false=>exact lX (hw.2 rfl)
  ·exact hw.elim
 |.block id c,Q,tm,h,nx,hw=>by
  have hw:iH C c (aA id Q) tm h nx:=hw;refine W.block ((lX hw).mono fun e tm h nx hq=>?_);cases e with
  |exit j=>exact hq
  |_=>exact hq
 |.loop c,Q,tm,h,nx,hw=>hw
 |.rangeF f ps a b,Q,tm,h,nx,hw=>hw
 |.exit id,Q,tm,h,nx,hw=>W.exit hw
 |.ret,Q,tm,h,nx,hw=>W.ret hw
theorem aH.of_wp{f:Nat}{p:ej}{l:List AV}{h:T ah}{nx:Key}{R:Out→T ah→Key→Prop}(hs:C.sum f l h nx=none)(hp:Fl C f=some p)(hw:iH C p.body (Az C f p.res R) (gw l .z .nil) h nx):aH C f l h nx R:=
 aH.YE hs hp (lX hw)
end
end Go.Sx
namespace Go.Sx
noncomputable def A(b:Key):Nat→Key
 |0=>b
 |i+1=>(A b i).succ
theorem ade(b:Key):∀i,(A b i).toNat=b.toNat+i
 |0=>rfl
 |i+1=>by simp only[A,kTSu,ade b i];omega
@[simp] theorem aCY(b:Key)(i:Nat):(A b i).succ=A b (i+1):=rfl
@[simp] theorem atW{α:Type}(b:Key)(i j:Nat)(v:Option α)(t:T α):ae (A b i) (av (A b j) v t)=if i=j then v else ae (A b i) t:=by
 by_cases h:i=j
 ·subst h;rw[if_pos rfl,gTSm]
 ·rw[if_neg h,aR];intro e;have:=congrArg Key.toNat e;simp only[ade]at this;omega
theorem WZ{α:Type}{b:Key}{c:Key}(v:Option α)(t:T α)(h:b.toNat<c.toNat):ae b (av c v t)=ae b t:=
 aR _ _ _ _ (fun e=>by rw[e]at h;exact absurd h (Nat.lt_irrefl _))
attribute [simp] get_set_K at_t at_v putTm_some putTm_none wants_none wants_some okV sTCe
@[simp] theorem UK(W:T AV→T ah→Key→Prop)(Q:cH)(tm:T AV)(h:T ah)(nx:Key):aM W Q .norm tm h nx=W tm h nx:=propext Iff.rfl
@[simp] theorem aoJ(W:T AV→T ah→Key→Prop)(Q:cH)(tm:T AV)(h:T ah)(nx:Key):aM W Q .ret tm h nx=Q .ret tm h nx:=propext Iff.rfl
@[simp] theorem aml(W:T AV→T ah→Key→Prop)(Q:cH)(i:Nat)(tm:T AV)(h:T ah)(nx:Key):aM W Q (.exit i) tm h nx=Q (.exit i) tm h nx:=propext Iff.rfl
@[simp] theorem aoK(W:T AV→T ah→Key→Prop)(Q:cH)(a:AV)(tm:T AV)(h:T ah)(nx:Key):aM W Q (.pan a) tm h nx=Q (.pan a) tm h nx:=propext Iff.rfl
@[simp] theorem aiC(j:Nat)(Q:cH)(tm:T AV)(h:T ah)(nx:Key):aA j Q .norm tm h nx=Q .norm tm h nx:=propext Iff.rfl
@[simp] theorem akV(j:Nat)(Q:cH)(tm:T AV)(h:T ah)(nx:Key):aA j Q .ret tm h nx=Q .ret tm h nx:=propext Iff.rfl
@[simp] theorem aiD(j:Nat)(Q:cH)(i:Nat)(tm:T AV)(h:T ah)(nx:Key):aA j Q (.exit i) tm h nx=if i=j then Q .norm tm h nx else Q (.exit i) tm h nx:=propext Iff.rfl
@[simp] theorem akW(j:Nat)(Q:cH)(a:AV)(tm:T AV)(h:T ah)(nx:Key):aA j Q (.pan a) tm h nx=Q (.pan a) tm h nx:=propext Iff.rfl
theorem vT{p q:Prop}(h:p↔q):p=q:=propext h
section
variable(C:bK)(Q:cH)(tm:T AV)(h:T ah)(nx:Key)(d:SD)(aq:List (Nat×Key×ah))
@[simp] theorem W6(t:Bool)(A B:Prop):wpG (some t) A B=((t=true→A)∧(t=false→B)):=vT Iff.rfl
@[simp] theorem av6(A B:Prop):wpG none A B=False:=vT Iff.rfl
@[simp] theorem av7:iH C .skip Q tm h nx=Q .norm tm h nx:=vT Iff.rfl
@[simp] theorem kj(l:List ay):iH C (.ops l) Q tm h nx=lH C Q l tm h nx:=vT Iff.rfl
@[simp] theorem rj(l:List aL)(d:SD):iH C (.staged l d) Q tm h nx=wpS C Q d l [] tm h nx:=vT Iff.rfl
@[simp] theorem fH(a b:aG):iH C (.seq a b) Q tm h nx=iH C a (aM (iH C b Q) Q) tm h nx:=vT Iff.rfl
@[simp] theorem agT(x:PX)(a b:aG):iH C (.cond x a b) Q tm h nx=(match x.at tm with
  |some (.bool t)=>(t=true→iH C a Q tm h nx)∧(t=false→iH C b Q tm h nx)
  |_=>False):=vT Iff.rfl
@[simp] theorem zR(id:Nat)(c:aG):iH C (.block id c) Q tm h nx=iH C c (aA id Q) tm h nx:=vT Iff.rfl
@[simp] theorem av8(c:aG):iH C (.loop c) Q tm h nx=W C (.loop c) Q tm h nx:=vT Iff.rfl
@[simp] theorem av9(id:Nat):iH C (.exit id) Q tm h nx=Q (.exit id) tm h nx:=vT Iff.rfl
@[simp] theorem ayE:iH C .ret Q tm h nx=Q .ret tm h nx:=vT Iff.rfl
@[simp] theorem alL:lH C Q [] tm h nx=Q .norm tm h nx:=vT Iff.rfl
def KO(o:ay)(l:List ay):Out→T ah→Key→Prop:=fun out h nx=>match out with
 |.ret v=>lH C Q l (bN o.dst v tm) h nx
 |.pan a=>Q (.pan a) tm h nx
def KS(o:ay)(l:List aL):Out→T ah→Key→Prop:=fun out h nx=>match out with
 |.ret v=>wpS C Q d l aq (bN o.dst v tm) h nx
 |.pan a=>Q (.pan a) (jA d.ds tm) h nx
@[simp] theorem aCZ(o:ay)(l:List ay)(v:AV):KO C Q tm o l (.ret v) h nx=lH C Q l (bN o.dst v tm) h nx:=vT Iff.rfl
@[simp] theorem aC0(o:ay)(l:List ay)(a:AV):KO C Q tm o l (.pan a) h nx=Q (.pan a) tm h nx:=vT Iff.rfl
@[simp] theorem aC1(o:ay)(l:List aL)(v:AV):KS C Q tm d aq o l (.ret v) h nx=wpS C Q d l aq (bN o.dst v tm) h nx:=vT Iff.rfl
@[simp] theorem aC2(o:ay)(l:List aL)(a:AV):KS C Q tm d aq o l (.pan a) h nx=Q (.pan a) (jA d.ds tm) h nx:=vT Iff.rfl
def RH(o:ay)(l:List ay)(t:Option Bool):Prop:=wpG t
   (match aOp C.orc o.op tm h nx with
   |.val v h nx=>lH C Q l (bN o.dst v tm) h nx
   |.call f args=>aH C f (b9 (C.raw f) args h).1 (b9 (C.raw f) args h).2 nx (KO C Q tm o l)
   |.yld k args=>Ah C k args h nx (KO C Q tm o l)
   |.pan a=>Q (.pan a) tm h nx
   |_=>False)
   (lH C Q l (bN o.dst (.tuple []) tm) h nx)
@[simp] theorem Wh(o:ay)(l:List ay):lH C Q (o ::l) tm h nx=RH C Q tm h nx o l (cq o.guard tm):=vT (by rw[lH];exact Iff.rfl)
@[simp] theorem SU(o:ay)(l:List ay):RH C Q tm h nx o l (some true)=(match aOp C.orc o.op tm h nx with
   |.val v h nx=>lH C Q l (bN o.dst v tm) h nx
   |.call f args=>aH C f (b9 (C.raw f) args h).1 (b9 (C.raw f) args h).2 nx (KO C Q tm o l)
   |.yld k args=>Ah C k args h nx (KO C Q tm o l)
   |.pan a=>Q (.pan a) tm h nx
   |_=>False):=by simp[RH]
@[simp] theorem arD(o:ay)(l:List ay):RH C Q tm h nx o l (some false)=lH C Q l (bN o.dst (.tuple []) tm) h nx:=by simp[RH]
@[simp] theorem atX(o:ay)(l:List ay):RH C Q tm h nx o l none=False:=by simp[RH]
@[simp low] theorem awa(o:ay)(l:List ay)(t:Bool):RH C Q tm h nx o l (some t)=((t=true→RH C Q tm h nx o l (some true))∧(t=false→RH C Q tm h nx o l (some false))):=by cases t<;>simp
@[simp] theorem ayF:wpS C Q d [] aq tm h nx=Q .norm tm (cZ aq h) nx:=vT Iff.rfl
def RI(i:Nat)(o:ay)(l:List aL)(t:Option Bool):Prop:=wpG t
   (match lightOp C.orc o.op tm (wE (DV i d.jj) aq h)with
   |some v=>wpS C Q d l aq (bN o.dst v tm) h nx
   |none=>False)
   (wpS C Q d l aq (bN o.dst (.tuple []) tm) h nx)
@[simp] theorem aHB(i:Nat)(o:ay)(l:List aL):wpS C Q d (.L i o ::l) aq tm h nx=RI C Q tm h nx d aq i o l (cq o.guard tm):=vT (by rw[wpS];exact Iff.rfl)
@[simp] theorem atY(i:Nat)(o:ay)(l:List aL):RI C Q tm h nx d aq i o l (some true)=(match lightOp C.orc o.op tm (wE (DV i d.jj) aq h)with
   |some v=>wpS C Q d l aq (bN o.dst v tm) h nx
   |none=>False):=by simp[RI]
@[simp] theorem arE(i:Nat)(o:ay)(l:List aL):RI C Q tm h nx d aq i o l (some false)=wpS C Q d l aq (bN o.dst (.tuple []) tm) h nx:=by simp[RI]
@[simp] theorem atZ(i:Nat)(o:ay)(l:List aL):RI C Q tm h nx d aq i o l none=False:=by simp[RI]
@[simp low] theorem awb(i:Nat)(o:ay)(l:List aL)(t:Bool):RI C Q tm h nx d aq i o l (some t)=((t=true→RI C Q tm h nx d aq i o l (some true))∧(t=false→RI C Q tm h nx d aq i o l (some false))):=by cases t<;>simp
def RJ(i:Nat)(o:ay)(l:List aL)(t:Option Bool):Prop:=wpG t
   (match allocOp o.op tm with
   |some (v,b)=>wpS C Q d l ((i,nx,b) ::aq) (bN o.dst (v nx) tm) h nx.succ
   |none=>False)
   (wpS C Q d l aq (bN o.dst (.tuple []) tm) h nx)
@[simp] theorem aHC(i:Nat)(o:ay)(l:List aL):wpS C Q d (.A i o ::l) aq tm h nx=RJ C Q tm h nx d aq i o l (cq o.guard tm):=vT (by rw[wpS];exact Iff.rfl)
@[simp] theorem at0(i:Nat)(o:ay)(l:List aL):RJ C Q tm h nx d aq i o l (some true)=(match allocOp o.op tm with
   |some (v,b)=>wpS C Q d l ((i,nx,b) ::aq) (bN o.dst (v nx) tm) h nx.succ
   |none=>False):=by simp[RJ]
@[simp] theorem arF(i:Nat)(o:ay)(l:List aL):RJ C Q tm h nx d aq i o l (some false)=wpS C Q d l aq (bN o.dst (.tuple []) tm) h nx:=by simp[RJ]
@[simp] theorem at1(i:Nat)(o:ay)(l:List aL):RJ C Q tm h nx d aq i o l none=False:=by simp[RJ]
@[simp low] theorem awc(i:Nat)(o:ay)(l:List aL)(t:Bool):RJ C Q tm h nx d aq i o l (some t)=((t=true→RJ C Q tm h nx d aq i o l (some true))∧(t=false→RJ C Q tm h nx d aq i o l (some false))):=by cases t<;>simp
def RK(o:ay)(ad:List Nat)(l:List aL)(t:Option Bool):Prop:=wpG t
   (match aOp C.orc o.op tm (cZ (aq.filter fun x=>memN x.1 ad) h) nx with
   |.val v h nx=>wpS C Q d l (aq.filter fun x=>!(memN x.1 ad)) (bN o.dst v tm) h nx
   |.call f args=>aH C f (b9 (C.raw f) args (cZ (aq.filter fun x=>memN x.1 ad) h)).1 (b9 (C.raw f) args (cZ (aq.filter fun x=>memN x.1 ad) h)).2 nx (KS C Q tm d (aq.filter fun x=>!(memN x.1 ad)) o l)
   |.yld k args=>Ah C k args (cZ (aq.filter fun x=>memN x.1 ad) h) nx (KS C Q tm d (aq.filter fun x=>!(memN x.1 ad)) o l)
   |.pan a=>Q (.pan a) (jA d.ds tm) (cZ (aq.filter fun x=>memN x.1 ad) h) nx
   |_=>False)
   (wpS C Q d l (aq.filter fun x=>!(memN x.1 ad)) (bN o.dst (.tuple []) tm) (cZ (aq.filter fun x=>memN x.1 ad) h) nx)
@[simp] theorem aHD(i:Nat)(o:ay)(ad:List Nat)(l:List aL):wpS C Q d (.H i o ad ::l) aq tm h nx=RK C Q tm h nx d aq o ad l (cq o.guard tm):=vT (by rw[wpS];exact Iff.rfl)
@[simp] theorem at2(o:ay)(ad:List Nat)(l:List aL):RK C Q tm h nx d aq o ad l (some true)=(match aOp C.orc o.op tm (cZ (aq.filter fun x=>memN x.1 ad) h) nx with
   |.val v h nx=>wpS C Q d l (aq.filter fun x=>!(memN x.1 ad)) (bN o.dst v tm) h nx
   |.call f args=>aH C f (b9 (C.raw f) args (cZ (aq.filter fun x=>memN x.1 ad) h)).1 (b9 (C.raw f) args (cZ (aq.filter fun x=>memN x.1 ad) h)).2 nx (KS C Q tm d (aq.filter fun x=>!(memN x.1 ad)) o l)
   |.yld k args=>Ah C k args (cZ (aq.filter fun x=>memN x.1 ad) h) nx (KS C Q tm d (aq.filter fun x=>!(memN x.1 ad)) o l)
   |.pan a=>Q (.pan a) (jA d.ds tm) (cZ (aq.filter fun x=>memN x.1 ad) h) nx
   |_=>False):=by unfold RK;simp only[W6,true_implies,Bool.true_eq_false,false_implies,and_true]
@[simp] theorem arG(o:ay)(ad:List Nat)(l:List aL):RK C Q tm h nx d aq o ad l (some false)=wpS C Q d l (aq.filter fun x=>!(memN x.1 ad)) (bN o.dst (.tuple []) tm) (cZ (aq.filter fun x=>memN x.1 ad) h) nx:=by unfold RK;simp only[W6,true_implies,SH,false_implies,true_and]
@[simp] theorem at3(o:ay)(ad:List Nat)(l:List aL):RK C Q tm h nx d aq o ad l none=False:=by simp[RK]
@[simp low] theorem awd(o:ay)(ad:List Nat)(l:List aL)(t:Bool):RK C Q tm h nx d aq o ad l (some t)=((t=true→RK C Q tm h nx d aq o ad l (some true))∧(t=false→RK C Q tm h nx d aq o ad l (some false))):=by cases t<;>simp only[true_implies,Bool.true_eq_false,SH,false_implies,and_true,true_and]
@[simp] theorem aHE(os:List (Nat×ay))(l:List aL):wpS C Q d (.R os ::l) aq tm h nx=(recheck C.orc d.jj aq tm h os=true∧wpS C Q d l aq tm h nx):=vT (by rw[wpS])
@[simp] theorem arH:cZ [] h=h:=rfl
@[simp] theorem aoL(x:Nat×Key×ah)(p:List (Nat×Key×ah)):cZ (x ::p) h=cZ p (av x.2.1 (some x.2.2) h):=rfl
@[simp] theorem aoM(orc:iG)(jj:List (Nat×List Nat)):recheck orc jj aq tm h []=true:=rfl
@[simp] theorem amm(orc:iG)(jj:List (Nat×List Nat))(i:Nat)(o:ay)(l:List (Nat×ay)):recheck orc jj aq tm h ((i,o) ::l)=(match cq o.guard tm with
  |some false=>match o.dst with
   |none=>false
   |some d=>match ae d tm with
    |some (.tuple [])=>recheck orc jj aq tm h l
    |_=>false
  |some true=>match o.dst with
   |none=>false
   |some d=>match ae d tm,lightOp orc o.op tm (wE (DV i jj) aq h)with
    |some v,some u=>bif AV.beq v u then recheck orc jj aq tm h l else false
    |_,_=>false
  |none=>false):=rfl
end
attribute [simp] memN
def dF(res:List RV)(R:Out→T ah→Key→Prop):cH:=fun e tm h nx=>match e with
 |.norm|.ret=>∃l,resultsA h tm res=some l∧R (.ret (mz (bC (aN 9999) l h).1)) (bC (aN 9999) l h).2 nx
 |.pan a=>R (.pan a) h nx
 |.exit _=>False
theorem aH.of{C:bK}{f:Nat}{p:ej}{l:List AV}{h:T ah}{nx:Key}{R:Out→T ah→Key→Prop}(hs:C.sum f l h nx=none)(hp:Fl C f=some p)(hr:C.kY f=false)(hw:iH C p.body (dF p.res R) (gw l (K 0) .nil) h nx):aH C f l h nx R:=by
 refine aH.of_wp hs hp ?_;have e:Az C f p.res R=dF p.res R:=by funext e tm h nx;cases e<;>simp only[Az,dF,hr]<;>rfl
 rw[e];exact hw
section
variable(res:List RV)(R:Out→T ah→Key→Prop)(tm:T AV)(h:T ah)(nx:Key)
@[simp] theorem at4:dF res R .ret tm h nx=∃l,resultsA h tm res=some l∧R (.ret (mz (bC (aN 9999) l h).1)) (bC (aN 9999) l h).2 nx:=vT Iff.rfl
@[simp] theorem arI:dF res R .norm tm h nx=∃l,resultsA h tm res=some l∧R (.ret (mz (bC (aN 9999) l h).1)) (bC (aN 9999) l h).2 nx:=vT Iff.rfl
@[simp] theorem at6(a:AV):dF res R (.pan a) tm h nx=R (.pan a) h nx:=vT Iff.rfl
end
attribute [simp] aOp lightOp allocOp newB atAll loadB isCmp beqKind arith
attribute [simp] nth_eq dropL_eq takeC_eq putC_eq appC_eq lenL_eq beqN_eq bltN_eq ltI_dec eqI_eq
@[simp] theorem ayG(a b:Nat):Nat.ble a b=decide (a≤b):=by rw[Bool.eq_iff_iff];simp
@[simp] theorem ayH(a b:Int):Int.add a b=a+b:=rfl
@[simp] theorem ayI(a b:Int):Int.sub a b=a-b:=rfl
@[simp] theorem ayJ(a b:Int):Int.mul a b=a*b:=rfl
@[simp] theorem at7(k:IntKind)(m:Nat):pz (.int k (.lit (m:Int)))=some m:=rfl
@[simp] theorem arJ(k:IntKind):pz (.int k (.lit 0))=some 0:=rfl
@[simp] theorem at8(k:IntKind):pz (.int k (.lit 1))=some 1:=rfl
@[simp] theorem at9(k:IntKind)(n:Nat):pz (.int k (.lit (OfNat.ofNat (n+2):Int)))=some (n+2):=rfl
@[simp] theorem arK(tm:T AV)(d:Nat):lK tm d none=some d:=rfl
@[simp] theorem arL(tm:T AV)(d:Nat)(x:PX):lK tm d (some x)=match x.at tm with|none=>none|some v=>pz v:=rfl
@[simp] theorem ayK(orc:iG)(op:BinOp)(x y:Int):GL orc op (.lit x) (.lit y)=(match op with
  |.eql=>some (x==y)
  |.neq=>some (!(x==y))
  |.lss=>some (decide (x<y))
  |.leq=>some (!(decide (y<x)))
  |.gtr=>some (decide (y<x))
  |.geq=>some (!(decide (x<y)))
  |_=>none):=by
 cases op<;>simp[GL]
@[simp] theorem awe(tm:T AV)(cs:List AV):JE tm [] cs=some cs:=rfl
@[simp] theorem aua(tm:T AV)(off size:Nat)(x:PX)(r:List (Nat×Nat×PX))(cs:List AV):JE tm ((off,size,x) ::r) cs =
  (match x.at tm with
  |none=>none
  |some v=>bif Nat.beq (lenL v.cells) size then Wa v.cells off cs none (fun cs=>JE tm r cs)else none):=rfl
@[simp] theorem aub(off n:Nat)(l:List AV):wj true off n l=if n≤(l.drop off).length then some (.agg ((l.drop off).take n))else none:=by simp[wj]
@[simp] theorem arM(off n:Nat)(l:List AV):wj false off n l=l[off]?:=by simp[wj]
@[simp] theorem aoN(b:Bool):AV.aP (.bool b)=true:=rfl
@[simp] theorem arN(b:Bool):AV.cells (.bool b)=[.bool b]:=rfl
@[simp] theorem arO(k:IntKind)(n:SI):AV.aP (.int k n)=true:=rfl
@[simp] theorem auc(k:IntKind)(n:SI):AV.cells (.int k n)=[.int k n]:=rfl
@[simp] theorem arP(n c:Nat):AV.aP (.str n c)=true:=rfl
@[simp] theorem aud(n c:Nat):AV.cells (.str n c)=[.str n c]:=rfl
@[simp] theorem arQ(b:Key)(off:Nat):AV.aP (.ptr b off)=true:=rfl
@[simp] theorem aue(b:Key)(off:Nat):AV.cells (.ptr b off)=[.ptr b off]:=rfl
@[simp] theorem aoO:AV.aP (.nilp)=true:=rfl
@[simp] theorem arR:AV.cells (.nilp)=[.nilp]:=rfl
@[simp] theorem amn(b:Key)(off len sz:Nat):AV.aP (.slice b off len sz)=true:=rfl
@[simp] theorem aoP(b:Key)(off len sz:Nat):AV.cells (.slice b off len sz)=[.slice b off len sz]:=rfl
@[simp] theorem aoQ:AV.aP (.nils)=true:=rfl
@[simp] theorem arS:AV.cells (.nils)=[.nils]:=rfl
@[simp] theorem arT(b:Key):AV.aP (.map b)=true:=rfl
@[simp] theorem auf(b:Key):AV.cells (.map b)=[.map b]:=rfl
@[simp] theorem aoR:AV.aP (.nilm)=true:=rfl
@[simp] theorem arU:AV.cells (.nilm)=[.nilm]:=rfl
@[simp] theorem aug(f:Nat)(first cap:List AV):AV.aP (.fn f first cap)=true:=rfl
@[simp] theorem awf(f:Nat)(first cap:List AV):AV.cells (.fn f first cap)=[.fn f first cap]:=rfl
@[simp] theorem aoS:AV.aP (.nilf)=true:=rfl
@[simp] theorem arV:AV.cells (.nilf)=[.nilf]:=rfl
@[simp] theorem amo(t:Nat)(v:AV):AV.aP (.iface t v)=true:=rfl
@[simp] theorem aoT(t:Nat)(v:AV):AV.cells (.iface t v)=[.iface t v]:=rfl
@[simp] theorem aoU:AV.aP (.nili)=true:=rfl
@[simp] theorem arW:AV.cells (.nili)=[.nili]:=rfl
@[simp] theorem auh(l:List AV)(len sz:Nat)(fl:SF):AV.aP (.sl l len sz fl)=true:=rfl
@[simp] theorem awg(l:List AV)(len sz:Nat)(fl:SF):AV.cells (.sl l len sz fl)=[.sl l len sz fl]:=rfl
@[simp] theorem aoV(l:List AV):AV.aP (.cref l)=true:=rfl
@[simp] theorem arX(l:List AV):AV.cells (.cref l)=[.cref l]:=rfl
@[simp] theorem arY(l:List AV):AV.aP (.agg l)=false:=rfl
@[simp] theorem aui(l:List AV):AV.cells (.agg l)=l:=rfl
@[simp] theorem amp(l:List AV)(h:T ah):b9 false l h=bC (aN 9999) l h:=rfl
@[simp] theorem aoW(l:List AV)(h:T ah):b9 true l h=(l,h):=rfl
@[simp] theorem auj(g:AV→T ah→AV×T ah)(h:T ah):bC g [] h=([],h):=rfl
@[simp] theorem arZ(g:AV→T ah→AV×T ah)(v:AV)(l:List AV)(h:T ah):bC g (v ::l) h=((g v h).1 ::(bC g l (g v h).2).1,(bC g l (g v h).2).2):=rfl
section
variable(n:Nat)(h:T ah)
@[simp] theorem awh(k:IntKind)(i:SI):aN n (.int k i) h=(.int k i,h):=by cases n<;>rfl
@[simp] theorem auk(b:Bool):aN n (.bool b) h=(.bool b,h):=by cases n<;>rfl
@[simp] theorem awi(a b:Nat):aN n (.str a b) h=(.str a b,h):=by cases n<;>rfl
@[simp] theorem awj(b:Key)(o:Nat):aN n (.ptr b o) h=(.ptr b o,h):=by cases n<;>rfl
@[simp] theorem aul:aN n .nilp h=(.nilp,h):=by cases n<;>rfl
@[simp] theorem aum:aN n .nils h=(.nils,h):=by cases n<;>rfl
@[simp] theorem awk(b:Key):aN n (.map b) h=(.map b,h):=by cases n<;>rfl
@[simp] theorem aun:aN n .nilm h=(.nilm,h):=by cases n<;>rfl
@[simp] theorem ayL(f:Nat)(a c:List AV):aN n (.fn f a c) h=(.fn f a c,h):=by cases n<;>rfl
@[simp] theorem auo:aN n .nilf h=(.nilf,h):=by cases n<;>rfl
@[simp] theorem ar0(t:Nat)(v:AV):aN n (.iface t v) h=(.iface t v,h):=by cases n<;>rfl
@[simp] theorem aup:aN n .nili h=(.nili,h):=by cases n<;>rfl
@[simp] theorem auq(l:List AV):aN n (.cref l) h=(.cref l,h):=by cases n<;>rfl
@[simp] theorem ar1(l:List AV):aN n (.tuple l) h=(.tuple l,h):=by cases n<;>rfl
@[simp] theorem ayM(l:List AV)(m z:Nat)(f:SF):aN (n+1) (.sl l m z f) h=(.sl l m z .any,h):=rfl
@[simp] theorem awl(l:List AV)(m z:Nat)(f:SF):aN 9999 (.sl l m z f) h=(.sl l m z .any,h):=rfl
@[simp] theorem awm(l:List AV)(m z:Nat)(f:SF):aN 9998 (.sl l m z f) h=(.sl l m z .any,h):=rfl
@[simp] theorem Tn(l:List AV):aN 9999 (.agg l) h=(.agg (bC (aN 9998) l h).1,(bC (aN 9998) l h).2):=rfl
end
@[simp] theorem aoX(k:Key)(tm:T AV):gw [] k tm=tm:=rfl
@[simp] theorem amq(v:AV)(l:List AV)(i:Nat)(tm:T AV):gw (v ::l) (K i) tm=gw l (K (i+1)) (av (K i) (some v) tm):=by simp only[gw,ar2]
@[simp] theorem ar3(v:AV):mz [v]=v:=rfl
@[simp] theorem ar4(v u:AV)(l:List AV):mz (v ::u ::l)=.tuple (v ::u ::l):=rfl
attribute [simp] resultsA
@[simp] theorem AV.all_nil:([]:List AV).all AV.aP=true:=rfl
attribute [simp] gTSm setK findK keyEq kTSu
theorem az{α:Type}{b c:Key}{v:Option α}{t:T α}(h:b.toNat<c.toNat):ae b (av c v t)=ae b t:=WZ v t h
@[simp] theorem set_set{α:Type}(k:Key)(v u:Option α):∀(t:T α),av k v (av k u t)=av k v t:=by
 induction k with
 |z=>intro t;cases t<;>rfl
 |o k ih=>intro t;cases t<;>simp only[T.aiE,T.LK,ih]
 |e k ih=>intro t;cases t<;>simp only[T.aiF,T.LM,ih]
structure Ext(h:T ah)(nx:Key)(h':T ah)(nx':Key):Prop where
 n:nx.toNat≤nx'.toNat
 g:∀b:Key,b.toNat<nx.toNat→ae b h'=ae b h
theorem Ext.refl(h:T ah)(nx:Key):Ext h nx h nx:=⟨fa _,fun _ _=>rfl⟩
theorem Ext.trans{h1 h2 h3:T ah}{n1 n2 n3:Key}(a:Ext h1 n1 h2 n2)(b:Ext h2 n2 h3 n3):Ext h1 n1 h3 n3:=
 ⟨Nat.le_trans a.n b.n,fun k hk=>(b.g k (Lk hk a.n)).trans (a.g k hk)⟩
@[simp] theorem ar5(a b:Bool):AV.beq (.bool a) (.bool b)=(a==b):=rfl
@[simp] theorem ayN(orc:iG)(a b:Bool):jq orc .bool (.bool a) (.bool b)=some (a==b):=by simp[jq]
@[simp] theorem eq_int(orc:iG)(k:IntKind)(a b:SI):jq orc .int (.int k a) (.int k b)=GL orc .eql a b:=by cases k<;>simp[jq]
@[simp] theorem awn(orc:iG)(l:List (Nat×K6))(a b:List AV):jq orc (.parts l) (.agg a) (.agg b)=cJ orc l a b:=by simp[jq]
@[simp] theorem aoY(orc:iG)(a b:List AV):cJ orc [] a b=some true:=by simp[cJ]
@[simp] theorem amr(orc:iG)(off:Nat)(p:K6)(l:List (Nat×K6))(a b:List AV):cJ orc ((off,p) ::l) a b=(match nth off a,nth off b with
  |some x,some y=>match jq orc p x y with
   |some true=>cJ orc l a b
   |some false=>some false
   |none=>none
  |_,_=>none):=by rw[cJ];rfl
section
variable{C:bK}{Q:cH}{tm:T AV}{h:T ah}{nx:Key}
theorem W.cM{c:aG}(Inv:Nat→T AV→T ah→Key→Prop){n:Nat}(hi:Inv n tm h nx)(hw:∀n tm h nx,Inv n tm h nx→W C c (aM (fun tm h nx=>∃m,m<n∧Inv m tm h nx) Q) tm h nx):W C (.loop c) Q tm h nx:=
 W.loop Inv (fun n tm h nx hi=>WI.mono (hw n tm h nx hi) fun e tm h nx hq=>by cases e<;>exact hq) hi
theorem W.Iy{c:aG}(h1:W C c (aM (W C (.loop c) Q) Q) tm h nx):W C (.loop c) Q tm h nx:=by
 intro af k cs m1 m2;refine .step (m':=⟨{af with tm:=tm,todo:=.code c ::.inLoop c ::k},cs,h,nx⟩) (bp m1 rfl) ((h1 af (.inLoop c ::k) cs m1 m2).bind ?_);rintro m ⟨e,aw,h',nx',fr,q,ha,rfl⟩;cases e with
 |norm=>cases ha;have q2:WI C (.inLoop c) Q aw h' nx':=WI.same (y:=.code (.loop c)) (fun i e=>by cases i<;>cases e) (fun _ _ _ _=>rfl) q;refine(q2 {af with tm:=aw} k cs m1 m2).mono ?_;rintro m ⟨e2,aW,hh2,aU,KZ,q2,a2,t2⟩;refine⟨e2,aW,hh2,aU,KZ,q2,?_,t2⟩;cases e2<;>exact a2
 |ret=>exact .now ⟨.ret,aw,h',nx',fr,q,ha,rfl⟩
 |exit id=>obtain⟨k2,e1,e2⟩:=ha;exact .now ⟨.exit id,aw,h',nx',fr,q,⟨k2,e1,e2⟩,rfl⟩
 |pan a=>exact .now ⟨.pan a,aw,h',nx',fr,q,ha,rfl⟩
theorem W.of{c:aG}(h1:iH C c Q tm h nx):W C c Q tm h nx:=lX h1
end
@[simp] theorem awo{R:Type}(l:List AV)(h:T ah)(c:List AV→T ah→R):K9 (frz 9999) l h c=c (bC (aN 9999) l h).1 (bC (aN 9999) l h).2:=vq (Et 9999) l h c
attribute [simp] appendTo repL_eq
@[simp] theorem awp(i:Nat):DV i []=[]:=rfl
@[simp] theorem aur(i j:Nat)(l:List Nat)(r:List (Nat×List Nat)):DV i ((j,l) ::r)=if i=j then l else DV i r:=by simp[DV]
@[simp] theorem aus(p:List (Nat×Key×ah))(h:T ah):wE [] p h=h:=rfl
@[simp] theorem ar6(a:Nat)(l:List Nat)(p:List (Nat×Key×ah))(h:T ah):wE (a ::l) p h=cZ (p.filter fun x=>memN x.1 (a ::l)) h:=by show Eg (a ::l) p h (fun _ h=>h)=_;rw[w8]
theorem cr{k:Key}{n:Nat}(h:Key.beq k (K n)=true):k=K n:=Key.eq_of_beq h
def k0:Key:=.z
def k1:=Key.o k0
def k2:=Key.e k0
def k3:=Key.o k1
def k4:=Key.e k1
def k5:=Key.o k2
def k6:=Key.e k2
def k7:=Key.o k3
def k8:=Key.e k3
def k9:=Key.o k4
def bL:=Key.e k4
def cu:=Key.o k5
def cK:=Key.e k5
def cG:=Key.o k6
def da:=Key.e k6
def cY:=Key.o k7
def dN:=Key.e k7
def fh:=Key.o k8
def fD:=Key.e k8
def fc:=Key.o k9
def eX:=Key.e k9
def gA:=Key.o bL
def gF:=Key.e bL
def iF:=Key.o cu
def gG:=Key.e cu
def iu:=Key.o cK
def ji:=Key.e cK
def iR:=Key.o cG
def kF:=Key.e cG
def mG:=Key.o da
def jk:=Key.e da
def kQ:=Key.o cY
def nS:=Key.e cY
def nG:=Key.o dN
def mN:=Key.e dN
def kR:=Key.o fh
def nT:=Key.e fh
def mY:=Key.o fD
def kM:=Key.e fD
def lI:=Key.o fc
def bD:=Key.e fc
def mF:=Key.o eX
def lS:=Key.e eX
def lJ:=Key.o gA
def vC:=Key.e gA
def tF:=Key.o gF
def uV:=Key.e gF
def wU:=Key.o iF
def wV:=Key.e iF
def tG:=Key.o gG
def tH:=Key.e gG
def vL:=Key.o iu
def vD:=Key.e iu
def xJ:=Key.o ji
def vN:=Key.e ji
def uW:=Key.o iR
def vO:=Key.e iR
def vQ:=Key.o kF
def ou:=Key.e kF
def tI:=Key.o mG
def xK:=Key.e mG
def vR:=Key.o jk
def xO:=Key.e jk
def pg:=Key.o kQ
def vS:=Key.e kQ
def Bz:=Key.o nS
def BZ:=Key.e nS
def xP:=Key.o nG
def xQ:=Key.e nG
def Aq:=Key.o mN
def zC:=Key.e mN
def CV:=Key.o kR
def Ed:=Key.e kR
def CW:=Key.o nT
def CX:=Key.e nT
def Ee:=Key.o mY
def LD:=Key.e mY
def Jf:=Key.o kM
def GN:=Key.e kM
def MK:=Key.o lI
def PC:=Key.e lI
def PD:=Key.o bD
def ML:=Key.e bD
def MM:=Key.o mF
def Ot:=Key.e mF
def PE:=Key.o lS
def PF:=Key.e lS
def PG:=Key.o lJ
def Q9:=Key.e lJ
def LF:=Key.o vC
def PH:=Key.e vC
def Tf:=Key.o tF
def Tg:=Key.e tF
def Th:=Key.o uV
def Rc:=Key.e uV
def Y4:=Key.o wU
def Y5:=Key.e wU
def ZV:=Key.o wV
def k98:=Key.e wV
def k99:=Key.o tG
def PI:=Key.e tG
def PJ:=Key.o tH
def PK:=Key.e tH
def PL:=Key.o vL
def NM:=Key.e vL
def RE:=Key.o vD
def UD:=Key.e vD
def UE:=Key.o xJ
def ZW:=Key.e xJ
def aif:=Key.o vN
def avU:=Key.e vN
def al7:=Key.o uW
def aqB:=Key.e uW
def aqC:=Key.o vO
def aqD:=Key.e vO
def aqE:=Key.o vQ
def aqF:=Key.e vQ
def aqG:=Key.o ou
def aqH:=Key.e ou
def aqI:=Key.o tI
def aqJ:=Key.e tI
def aqK:=Key.o xK
def aqL:=Key.e xK
def aqM:=Key.o vR
def aqN:=Key.e vR
def aqO:=Key.o xO
def aqP:=Key.e xO
def aqQ:=Key.o pg
def aqR:=Key.e pg
def aqS:=Key.o vS
def aqT:=Key.e vS
def aqU:=Key.o Bz
def aqV:=Key.e Bz
def aqW:=Key.o BZ
def aqX:=Key.e BZ
def aqY:=Key.o xP
def aqZ:=Key.e xP
def aq0:=Key.o xQ
def aq1:=Key.e xQ
def aq2:=Key.o Aq
def aq3:=Key.e Aq
def aq4:=Key.o zC
def aq5:=Key.e zC
def aq6:=Key.o CV
def aq7:=Key.e CV
def aq8:=Key.o Ed
def aq9:=Key.e Ed
def ara:=Key.o CW
def arb:=Key.e CW
def arc:=Key.o CX
def ard:=Key.e CX
def arf:=Key.o Ee
def arh:=Key.e Ee
def ari:=Key.o LD
def arj:=Key.e LD
def ark:=Key.o Jf
def arl:=Key.e Jf
def arn:=Key.o GN
def arp:=Key.e GN
def aAL:=Key.e PH
def aAM:=Key.o NM
def aAN:=Key.o aAL
def aAF:=Key.e aAM
def aAG:=Key.e aAN
@[simp] theorem aKE:k0=K 0:=cr rfl
@[simp] theorem azQ:k1=K 1:=cr rfl
@[simp] theorem aKF:k2=K 2:=cr rfl
@[simp] theorem aKG:k3=K 3:=cr rfl
@[simp] theorem aKH:k4=K 4:=cr rfl
@[simp] theorem aKI:k5=K 5:=cr rfl
@[simp] theorem aKJ:k6=K 6:=cr rfl
@[simp] theorem aKK:k7=K 7:=cr rfl
@[simp] theorem aKL:k8=K 8:=cr rfl
@[simp] theorem aKM:k9=K 9:=cr rfl
@[simp] theorem aFW:bL=K 10:=cr rfl
@[simp] theorem aFX:cu=K 11:=cr rfl
@[simp] theorem aFY:cK=K 12:=cr rfl
@[simp] theorem aFZ:cG=K 13:=cr rfl
@[simp] theorem aF0:da=K 14:=cr rfl
@[simp] theorem aF1:cY=K 15:=cr rfl
@[simp] theorem aF2:dN=K 16:=cr rfl
@[simp] theorem aF3:fh=K 17:=cr rfl
@[simp] theorem avi:fD=K 18:=cr rfl
@[simp] theorem avj:fc=K 19:=cr rfl
@[simp] theorem aF4:eX=K 20:=cr rfl
@[simp] theorem aF5:gA=K 21:=cr rfl
@[simp] theorem aF6:gF=K 22:=cr rfl
@[simp] theorem aF7:iF=K 23:=cr rfl
@[simp] theorem aF8:gG=K 24:=cr rfl
@[simp] theorem aF9:iu=K 25:=cr rfl
@[simp] theorem aGa:ji=K 26:=cr rfl
@[simp] theorem aGb:iR=K 27:=cr rfl
@[simp] theorem aGc:kF=K 28:=cr rfl
@[simp] theorem aGd:mG=K 29:=cr rfl
@[simp] theorem aGe:jk=K 30:=cr rfl
@[simp] theorem aGf:kQ=K 31:=cr rfl
@[simp] theorem aGg:nS=K 32:=cr rfl
@[simp] theorem aGh:nG=K 33:=cr rfl
@[simp] theorem aGi:mN=K 34:=cr rfl
@[simp] theorem aGj:kR=K 35:=cr rfl
@[simp] theorem aGk:nT=K 36:=cr rfl
@[simp] theorem aGl:mY=K 37:=cr rfl
@[simp] theorem aGm:kM=K 38:=cr rfl
@[simp] theorem aGn:lI=K 39:=cr rfl
@[simp] theorem aGo:bD=K 40:=cr rfl
@[simp] theorem aGp:mF=K 41:=cr rfl
@[simp] theorem aGq:lS=K 42:=cr rfl
@[simp] theorem aGr:lJ=K 43:=cr rfl
@[simp] theorem aGs:vC=K 44:=cr rfl
@[simp] theorem aGt:tF=K 45:=cr rfl
@[simp] theorem aGu:uV=K 46:=cr rfl
@[simp] theorem aGv:wU=K 47:=cr rfl
@[simp] theorem aGw:wV=K 48:=cr rfl
@[simp] theorem aGx:tG=K 49:=cr rfl
@[simp] theorem aGy:tH=K 50:=cr rfl
@[simp] theorem aGz:vL=K 51:=cr rfl
@[simp] theorem aGA:vD=K 52:=cr rfl
@[simp] theorem aGB:xJ=K 53:=cr rfl
@[simp] theorem aGC:vN=K 54:=cr rfl
@[simp] theorem aGD:uW=K 55:=cr rfl
@[simp] theorem aGE:vO=K 56:=cr rfl
@[simp] theorem aGF:vQ=K 57:=cr rfl
@[simp] theorem aGG:ou=K 58:=cr rfl
@[simp] theorem aGH:tI=K 59:=cr rfl
@[simp] theorem aGI:xK=K 60:=cr rfl
@[simp] theorem aGJ:vR=K 61:=cr rfl
@[simp] theorem aGK:xO=K 62:=cr rfl
@[simp] theorem aGL:pg=K 63:=cr rfl
@[simp] theorem aGM:vS=K 64:=cr rfl
@[simp] theorem aGN:Bz=K 65:=cr rfl
@[simp] theorem aGO:BZ=K 66:=cr rfl
@[simp] theorem aGP:xP=K 67:=cr rfl
@[simp] theorem aGQ:xQ=K 68:=cr rfl
@[simp] theorem aGR:Aq=K 69:=cr rfl
@[simp] theorem aGS:zC=K 70:=cr rfl
@[simp] theorem aGT:CV=K 71:=cr rfl
@[simp] theorem aGU:Ed=K 72:=cr rfl
@[simp] theorem aGV:CW=K 73:=cr rfl
@[simp] theorem aGW:CX=K 74:=cr rfl
@[simp] theorem aGX:Ee=K 75:=cr rfl
@[simp] theorem aGY:LD=K 76:=cr rfl
@[simp] theorem aGZ:Jf=K 77:=cr rfl
@[simp] theorem aG0:GN=K 78:=cr rfl
@[simp] theorem aG1:MK=K 79:=cr rfl
@[simp] theorem aG2:PC=K 80:=cr rfl
@[simp] theorem aG3:PD=K 81:=cr rfl
@[simp] theorem aG4:ML=K 82:=cr rfl
@[simp] theorem aG5:MM=K 83:=cr rfl
@[simp] theorem aG6:Ot=K 84:=cr rfl
@[simp] theorem aG7:PE=K 85:=cr rfl
@[simp] theorem aG8:PF=K 86:=cr rfl
@[simp] theorem aG9:PG=K 87:=cr rfl
@[simp] theorem aHa:Q9=K 88:=cr rfl
@[simp] theorem aHb:LF=K 89:=cr rfl
@[simp] theorem aHc:PH=K 90:=cr rfl
@[simp] theorem aHd:Tf=K 91:=cr rfl
@[simp] theorem aHe:Tg=K 92:=cr rfl
@[simp] theorem aHf:Th=K 93:=cr rfl
@[simp] theorem aHg:Rc=K 94:=cr rfl
@[simp] theorem aHh:Y4=K 95:=cr rfl
@[simp] theorem aHi:Y5=K 96:=cr rfl
@[simp] theorem aHj:ZV=K 97:=cr rfl
@[simp] theorem aHk:k98=K 98:=cr rfl
@[simp] theorem aHl:k99=K 99:=cr rfl
@[simp] theorem aAO:PI=K 100:=cr rfl
@[simp] theorem aAP:PJ=K 101:=cr rfl
@[simp] theorem aAQ:PK=K 102:=cr rfl
@[simp] theorem aAR:PL=K 103:=cr rfl
@[simp] theorem aAS:NM=K 104:=cr rfl
@[simp] theorem aAT:RE=K 105:=cr rfl
@[simp] theorem aAU:UD=K 106:=cr rfl
@[simp] theorem aAV:UE=K 107:=cr rfl
@[simp] theorem aAW:ZW=K 108:=cr rfl
@[simp] theorem aAX:aif=K 109:=cr rfl
@[simp] theorem aAY:avU=K 110:=cr rfl
@[simp] theorem aAZ:al7=K 111:=cr rfl
@[simp] theorem aA0:aqB=K 112:=cr rfl
@[simp] theorem aA1:aqC=K 113:=cr rfl
@[simp] theorem aA2:aqD=K 114:=cr rfl
@[simp] theorem aA3:aqE=K 115:=cr rfl
@[simp] theorem aA4:aqF=K 116:=cr rfl
@[simp] theorem aA5:aqG=K 117:=cr rfl
@[simp] theorem aA6:aqH=K 118:=cr rfl
@[simp] theorem aA7:aqI=K 119:=cr rfl
@[simp] theorem aA8:aqJ=K 120:=cr rfl
@[simp] theorem aA9:aqK=K 121:=cr rfl
@[simp] theorem aBa:aqL=K 122:=cr rfl
@[simp] theorem aBb:aqM=K 123:=cr rfl
@[simp] theorem aBc:aqN=K 124:=cr rfl
@[simp] theorem aBd:aqO=K 125:=cr rfl
@[simp] theorem aBe:aqP=K 126:=cr rfl
@[simp] theorem aBf:aqQ=K 127:=cr rfl
@[simp] theorem aBg:aqR=K 128:=cr rfl
@[simp] theorem aBh:aqS=K 129:=cr rfl
@[simp] theorem aBi:aqT=K 130:=cr rfl
@[simp] theorem aBj:aqU=K 131:=cr rfl
@[simp] theorem aBk:aqV=K 132:=cr rfl
@[simp] theorem aBl:aqW=K 133:=cr rfl
@[simp] theorem aBm:aqX=K 134:=cr rfl
@[simp] theorem aBn:aqY=K 135:=cr rfl
@[simp] theorem aBo:aqZ=K 136:=cr rfl
@[simp] theorem aBp:aq0=K 137:=cr rfl
@[simp] theorem aBq:aq1=K 138:=cr rfl
@[simp] theorem aBr:aq2=K 139:=cr rfl
@[simp] theorem aBs:aq3=K 140:=cr rfl
@[simp] theorem aBt:aq4=K 141:=cr rfl
@[simp] theorem aBu:aq5=K 142:=cr rfl
@[simp] theorem aBv:aq6=K 143:=cr rfl
@[simp] theorem aBw:aq7=K 144:=cr rfl
@[simp] theorem aBx:aq8=K 145:=cr rfl
@[simp] theorem aBy:aq9=K 146:=cr rfl
@[simp] theorem aBz:ara=K 147:=cr rfl
@[simp] theorem aBA:arb=K 148:=cr rfl
@[simp] theorem aBB:arc=K 149:=cr rfl
@[simp] theorem aBC:ard=K 150:=cr rfl
@[simp] theorem aBD:arf=K 151:=cr rfl
@[simp] theorem aBE:arh=K 152:=cr rfl
@[simp] theorem aBF:ari=K 153:=cr rfl
@[simp] theorem aBG:arj=K 154:=cr rfl
@[simp] theorem aBH:ark=K 155:=cr rfl
@[simp] theorem aBI:arl=K 156:=cr rfl
@[simp] theorem aBJ:arn=K 157:=cr rfl
@[simp] theorem aBK:arp=K 158:=cr rfl
theorem hide{α:Type}{a b:α}(h:a=b):a=b:=h
abbrev I(n:Int):AV:=.int .i64 (.lit n)
def oM(d s:Key):ay:=⟨some d,.mov (.t s),none⟩
def oL(d:Key)(n:Nat)(s:Key):ay:=⟨some d,.load false n (.t s),none⟩
def oA(d:Key)(n:Nat)(s:Key):ay:=⟨some d,.load true n (.t s),none⟩
def oF(d:Key)(n:Nat)(s:Key):ay:=⟨some d,.fieldA n (.t s),none⟩
def oS(n:Nat)(a s:Key):ay:=⟨none,.store n (.t a) (.t s),none⟩
def oN(d s:Key):ay:=⟨some d,.nilc (.t s),none⟩
def oZ(d s:Key):ay:=⟨some d,.lenL (.t s),none⟩
def oE(d s:Key)(n:Int):ay:=⟨some d,.bin .eql (.t s) (.v (I n)),none⟩
def oI(d:Key)(n:Nat)(s i:Key):ay:=⟨some d,.indexL n (.t s) (.t i),none⟩
def oX(d s:Key)(n:Nat):ay:=⟨some d,.extract (.t s) n,none⟩
def oB(d s:Key):ay:=⟨some d,.box (.t s),none⟩
def oJ(d:Key)(v:AV):ay:=⟨some d,.mov (.v v),none⟩
@[simp] theorem Wc(d s:Key):oM d s=⟨some d,.mov (.t s),none⟩:=hide rfl
@[simp] theorem Wf(d:Key)(n:Nat)(s:Key):oL d n s=⟨some d,.load false n (.t s),none⟩:=hide rfl
@[simp] theorem ahu(d:Key)(n:Nat)(s:Key):oA d n s=⟨some d,.load true n (.t s),none⟩:=hide rfl
@[simp] theorem ahv(d:Key)(n:Nat)(s:Key):oF d n s=⟨some d,.fieldA n (.t s),none⟩:=hide rfl
@[simp] theorem ahx(n:Nat)(a s:Key):oS n a s=⟨none,.store n (.t a) (.t s),none⟩:=hide rfl
@[simp] theorem ahA(d s:Key):oN d s=⟨some d,.nilc (.t s),none⟩:=hide rfl
@[simp] theorem ahz(d s:Key):oZ d s=⟨some d,.lenL (.t s),none⟩:=hide rfl
@[simp] theorem ahy(d s:Key)(n:Int):oE d s n=⟨some d,.bin .eql (.t s) (.v (I n)),none⟩:=hide rfl
@[simp] theorem aht(d:Key)(n:Nat)(s i:Key):oI d n s i=⟨some d,.indexL n (.t s) (.t i),none⟩:=hide rfl
@[simp] theorem ahB(d s:Key)(n:Nat):oX d s n=⟨some d,.extract (.t s) n,none⟩:=hide rfl
@[simp] theorem aHm(d s:Key):oB d s=⟨some d,.box (.t s),none⟩:=hide rfl
@[simp] theorem Wg(d:Key)(v:AV):oJ d v=⟨some d,.mov (.v v),none⟩:=hide rfl
abbrev Rw:=List ay
def oO(d:Key)(o:BinOp)(a b:Key):ay:=⟨some d,.bin o (.t a) (.t b),none⟩
@[simp] theorem Wd(d:Key)(o:BinOp)(a b:Key):oO d o a b=⟨some d,.bin o (.t a) (.t b),none⟩:=hide rfl
def oK(d:Key)(o:BinOp)(a:Key)(i:Int):ay:=⟨some d,.bin o (.t a) (.v (I i)),none⟩
@[simp] theorem We(d:Key)(o:BinOp)(a:Key)(i:Int):oK d o a i=⟨some d,.bin o (.t a) (.v (I i)),none⟩:=hide rfl
instance:Coe Key PX:=⟨.t⟩
instance:Coe AV PX:=⟨.v⟩
instance:Coe (List ay) aG:=⟨.ops⟩
def oC(d:Key)(f:Nat)(l:List PX):ay:=⟨some d,.callF f l,none⟩
@[simp] theorem ahw(d:Key)(f:Nat)(l:List PX):oC d f l=⟨some d,.callF f l,none⟩:=hide rfl
def oT(d s g:Key):ay:=⟨some d,.mov (.t s),some (g,true)⟩
@[simp] theorem aHn(d s g:Key):oT d s g=⟨some d,.mov (.t s),some (g,true)⟩:=hide rfl
def oQ(d s g:Key):ay:=⟨some d,.mov (.t s),some (g,false)⟩
@[simp] theorem aHo(d s g:Key):oQ d s g=⟨some d,.mov (.t s),some (g,false)⟩:=hide rfl
def oP(d a b:Key):ay:=⟨some d,.pick (.t a) (.t b) (.v (.bool false)),none⟩
@[simp] theorem aHp(d a b:Key):oP d a b=⟨some d,.pick (.t a) (.t b) (.v (.bool false)),none⟩:=hide rfl
@[simp] abbrev Vv(l:List AV):Option ah:=some (.cells l .fix)
end Go.Sx
namespace Go.Sx
open Go.RowKit
mutual
def AV.kf:AV→Bool
 |.bool _|.int _ _|.str _ _|.nilp|.nils|.nilm|.nilf|.nili=>true
 |.iface _ v=>AV.kf v
 |.agg l=>AV.Ec l
 |.tuple l=>AV.Ec l
 |.sl l _ _ .any=>AV.Ec l
 |.cref l=>AV.Ec l
 |.fn _ a c=>AV.Ec a&&AV.Ec c
 |_=>false
def AV.Ec:List AV→Bool
 | []=>true
 |a ::l=>AV.kf a&&AV.Ec l
end
mutual
theorem aS.kf{ρ:Nat→Int}{μ μ':Mu}(hf:∀c i v,μ.fz c i=some v→μ'.fz c i=some v):∀{a:AV} {v:Value},aS ρ μ a v→a.kf=true→aS ρ μ' a v
 |_,_,.bool b,_=>.bool b
 |_,_,.int k s n h,_=>.int k s n h
 |_,_,.str n c s h h',_=>.str n c s h h'
 |_,_,.ptr b off l a h ha,hk=>by simp[AV.kf]at hk
 |_,_,.nilp,_=>.nilp
 |_,_,.slice b off len sz cap l a h hc hl ha,hk=>by simp[AV.kf]at hk
 |_,_,.nils,_=>.nils
 |_,_,.map b l r h hr,hk=>by simp[AV.kf]at hk
 |_,_,.nilm,_=>.nilm
 |_,_,.fn f first cap vs ws h h',hk=>by simp only[AV.kf,kO]at hk;exact .fn f first cap vs ws (ax.kf hf h hk.1) (ax.kf hf h' hk.2)
 |_,_,.yld b l r h hr,hk=>by simp[AV.kf]at hk
 |_,_,.nilf,_=>.nilf
 |_,_,.iface t a v h,hk=>.iface t a v (aS.kf hf h (by simpa[AV.kf]using hk))
 |_,_,.nili,_=>.nili
 |_,_,.agg l vs h,hk=>.agg l vs (ax.kf hf h (by simpa[AV.kf]using hk))
 |_,_,.tuple l vs h,hk=>.tuple l vs (ax.kf hf h (by simpa[AV.kf]using hk))
 |_,_,.sl l len sz fl cap c o a vs h hn hl ha hff hg,hk=>by
  cases fl with
  |any=>exact .sl l len sz .any cap c o a vs (ax.kf hf h (by simpa[AV.kf]using hk)) hn hl ha (fun i v e=>hf _ _ _ (hff i v e)) trivial
  |tok b=>simp[AV.kf]at hk
 |_,_,.cref l c o a vs h ha hff,hk=>.cref l c o a vs (ax.kf hf h (by simpa[AV.kf]using hk)) ha (fun i v e=>hf _ _ _ (hff i v e))
theorem ax.kf{ρ:Nat→Int}{μ μ':Mu}(hf:∀c i v,μ.fz c i=some v→μ'.fz c i=some v):∀{l:List AV} {vs:List Value},ax ρ μ l vs→AV.Ec l=true→ax ρ μ' l vs
 |_,_,.nil,_=>.nil
 |_,_,.cons a l v vs h h',hk=>by simp only[AV.Ec,kO]at hk;exact .cons a l v vs (aS.kf hf h hk.1) (ax.kf hf h' hk.2)
end
structure iE(P:Program)(heap0:T ah)(w0:W0):Prop where
 size:P.globals.size≤w0.heap.size
 at_:∀b B,ae b heap0=some B→b.toNat<P.globals.size∧∃L arr elem f,B=.cells L .ro∧w0.heap[b.toNat]?=some (.cells arr elem f)∧(∀(ρ:Nat→Int) (μ:Mu),ax ρ μ L arr.toList)∧∀i v,arr[i]?=some v→w0.z b.toNat i=some v
section
variable{P:Program}{ρ:Nat→Int}{heap0:T ah}
noncomputable def P4(heap0:T ah)(b:Key):Nat:=match ae b heap0 with
 |some (.cells L _)=>L.length
 |_=>0
noncomputable def gMu(P:Program)(heap0:T ah)(fz:Nat→Nat→Option Value):Mu:=⟨fun b=>if b.toNat<P.globals.size then some ⟨b.toNat,0,P4 heap0 b⟩else none,fz⟩
theorem Kl{fz:Nat→Nat→Option Value}{b:Key}{l:Loc}(h:(gMu P heap0 fz) b=some l):b.toNat<P.globals.size∧l=⟨b.toNat,0,P4 heap0 b⟩:=by
 have h:(if b.toNat<P.globals.size then some (⟨b.toNat,0,P4 heap0 b⟩:Loc)else none)=some l:=h;split at h
 ·rename_i hb;cases h;exact⟨hb,rfl⟩
 ·cases h
theorem GA{w0:W0}(hL:iE P heap0 w0)(hz:∀c i v,w0.z c i=some v→∃arr elem f,w0.heap[c]?=some (.cells arr elem f)∧arr[i]?=some v){nx:Nat}(hn:P.globals.size≤nx) :
  aZ P ρ w0 (gMu P heap0 w0.z) (fun b=>ae b heap0) nx w0.toWorld:=by
 have awN:∀b:Key,b.toNat<P.globals.size→(gMu P heap0 w0.z) b=some ⟨b.toNat,0,P4 heap0 b⟩:=by intro b hb;show(if b.toNat<P.globals.size then some (⟨b.toNat,0,P4 heap0 b⟩:Loc)else none)=_;rw[if_pos hb]
 refine⟨?_,?_,?_,?_,?_,?_,Below.refl _ _,hz,?_,fun _ _ _ h=>h,fun _ _ _ h=>.inr h,?_,fa _⟩
 ·intro b B hb;obtain⟨h1,L,arr,elem,f,rfl,h3,h4,h5⟩:=hL.at_ b B hb;have hlen:L.length=arr.size:=by simpa using(h4 ρ (gMu P heap0 w0.z)).length
  refine⟨_,_,awN b h1,h3,.cells L .ro _ arr elem f ?_ ?_ ?_ (fun h=>absurd rfl h) ?_⟩
  ·intro i a ha;obtain⟨v,hv,hr⟩:=(h4 ρ (gMu P heap0 w0.z)).get i a ha;exact⟨v,by simpa using hv,hr⟩
  ·show 0+P4 heap0 b≤arr.size;simp only[P4,hb];omega
  ·show L.length≤P4 heap0 b;simp only[P4,hb];exact fa _
  ·intro _;show L.length=P4 heap0 b;simp only[P4,hb]
 ·intro b b' B B' l l' h1 h2 m1 m2 bU;obtain⟨_,rfl⟩:=Kl m1;obtain⟨_,rfl⟩:=Kl m2;exact fun e=>bU (Key.toNat_inj e)
 ·intro b l m;obtain⟨h1,rfl⟩:=Kl m;exact Lk h1 hL.size
 ·intro b B l hb m;obtain⟨h1,L,arr,elem,f,rfl,_⟩:=hL.at_ b B hb;exact .inl trivial
 ·intro k hk;exact⟨_,awN k hk⟩
 ·intro b l m;obtain⟨h1,rfl⟩:=Kl m;omega
 ·intro b B l n hb m xH i hi;obtain⟨h1,L,arr,elem,f,rfl,_⟩:=hL.at_ b B hb;cases xH
 ·intro b L l hb m;obtain⟨_,rfl⟩:=Kl m;obtain⟨h1,L',arr,elem,f,e,h3,h4,h5⟩:=hL.at_ b _ hb;refine .inr fun ID ee ff i v ha hv=>?_;have ha:w0.heap[b.toNat]?=some (.cells ID ee ff):=ha;rw[h3]at ha;cases ha;exact h5 i v hv
theorem iE.aiM{w0:W0}{w:World}{fz:Nat→Nat→Option Value}(hL:iE P heap0 w0)(hb:Below w0.heap.size w0.toWorld w)(hz:∀c i v,w0.z c i=some v→fz c i=some v):iE P heap0 ⟨w,fz⟩:=by refine⟨Nat.le_trans hL.size hb.size,fun b B h=>?_⟩;obtain⟨h1,L,arr,elem,f,h2,h3,h4,h5⟩:=hL.at_ b B h;refine⟨h1,L,arr,elem,f,h2,?_,h4,fun i v hv=>hz _ _ _ (h5 i v hv)⟩;show w.heap[b.toNat]?=_;rw[hb.block _ (Lk h1 hL.size)];exact h3
def awO(tab:List (Nat×List AV×AV))(f:Nat)(l:List AV)(h:T ah)(nx:Key):Option (AV×T ah×Key):=match tab with
 | []=>none
 |(g,m,v) ::r=>bif Nat.beq f g&&AV.GK l m then some (v,h,nx)else awO r f l h nx
theorem Fp{C:bK}{w0:W0}{w:World}{μ0:Mu}{G0:Key→Option ah}{H:T ah}{nx:Key}(X:Ctx P ρ w0 C){f:Nat}{l:List AV}{args:Array Value}(hM:aZ P ρ w0 μ0 G0 nx.toNat w)(hH:HSub H G0)(hl:ax ρ μ0 l args.toList)
  {R:Out→T ah→Key→Prop} (hR:∀o h nx,R o h nx→∃v,o=.ret v) (hc:aH C f l H nx R) :
  Calls P f args w fun e w'=>∃v h' nx' u μ G,R (.ret v) h' nx'∧e=.returned u∧aS ρ μ v u∧μ0.le μ∧aZ P ρ w0 μ G nx'.toNat w'∧HSub h' G:=by
 rcases hc with⟨v,h',nx',hs,hr⟩|⟨hs,p,hp,fC⟩
 ·refine(X.sum f l H nx v h' nx' hs args w μ0 G0 hM hH hl).mono ?_;rintro e w' ⟨u,μ',G',rfl,h1,h2,h3,h4,_⟩;exact⟨v,h',nx',u,μ',G',hr,rfl,h1,h2,h3,h4⟩
 ·have hpf:Hb P f=some p:=X.fns f p hp;intro cs;have hm:DS P ρ C.orc w0 μ0 ⟨an f p l,[],H,nx⟩ (Frame.enter P f args .normal) [] w:=
   ⟨μ0,G0,μ0.le_refl,hM,hH,vH hpf hl false,trivial,by simp[bB,pk,an]⟩
  obtain⟨am',gD,Gj,w',⟨o,h',nx',fr,h1,hr,hfn,hdf,⟨hd,hL⟩,rfl⟩,s1,s2⟩:=Ev.sound (rest:=cs) X (fC []) hm;obtain⟨v,rfl⟩:=hR o h' nx' hr;obtain⟨NN,l1,S7,rfl,rfl⟩:=hL;have C4:iD C ⟨fr,[],h1,nx'⟩=.done f (mz (b9 (C.kY f) l1 h1).1) (b9 (C.kY f) l1 h1).2 nx':=by unfold iD;simp only[NN];unfold yb;simp only[hd,NN,S7,hfn,wc];unfold JF;simp only[hdf,cond_false,hfn]
  have hg:=EC (rest:=cs) X s2;rw[C4]at hg;obtain⟨KZ,w2,μ,G,u,t1,t2,t3,t4,t5,t6,t7⟩:=hg;exact⟨.returned u,w2,KZ,⟨_,_,_,u,μ,G,hr,rfl,t4,t5,t6,t7⟩,s1.trans t1,t2,t3⟩
noncomputable def Ft:List (Nat×ej)→T ej
 | []=>.nil
 |(i,p) ::l=>av (Key.fe 12 i) (some p) (Ft l)
theorem P5:∀{l:List (Nat×ej)} {k:Key} {p:ej},ae k (Ft l)=some p→∃i,(i,p)∈l∧k=Key.fe 12 i
 | [],k,p,h=>by simp[Ft]at h
 |(i,q) ::l,k,p,h=>by
  simp only[Ft]at h;by_cases e:k=Key.fe 12 i
  ·subst e;rw[gTSm]at h;cases h;exact⟨i,by simp,rfl⟩
  ·rw[aR _ _ _ _ e]at h;obtain⟨j,h1,h2⟩:=P5 h;exact⟨j,List.mem_cons_of_mem _ h1,h2⟩
def Kj(P:Program):List (Nat×ej)→Prop
 | []=>True
 |(i,p) ::l=>(Nat.blt i 8000=true∧Hb P i=some p)∧Kj P l
theorem Kj.mem:∀{l:List (Nat×ej)},Kj P l→∀{i:Nat} {p:ej},(i,p)∈l→i<8000∧Hb P i=some p
 | [],_,_,_,h=>by cases h
 |(j,q) ::l,ha,i,p,h=>by
  rcases K3.1 h with e|e
  ·cases e;have:=ha.1.1;rw[bltN_eq,decide_eq_true_eq]at this;exact⟨this,ha.1.2⟩
  ·exact Kj.mem ha.2 e
noncomputable def awP(fns:T ej)(tab:List (Nat×List AV×AV)):bK:=⟨[],fns,awO tab,fun _=>false,fun _=>false⟩
theorem Xi{fns:T ej}{Xh:List (Nat×ej)}(hb:fns=Ft Xh)(ha:Kj P Xh){tab:List (Nat×List AV×AV)}{f:Nat}{p:ej}(h:Fl (awP fns tab) f=some p):Hb P f=some p:=by
 unfold Fl at h;cases hk:Nat.beq (Key.fe 12 f).toNat f with
 |false=>rw[hk]at h;cases h
 |true=>
  rw[hk]at h;have hk:=o9 hk;have h:ae (Key.fe 12 f) fns=some p:=h;rw[hb]at h;obtain⟨i,h1,h2⟩:=P5 h;obtain⟨h3,h4⟩:=ha.mem h1;have:i=f:=by have e:=congrArg Key.toNat h2;rw[hk,pV 12 i (by omega)]at e;exact e.symm
  subst this;exact h4
def adv(P:Program)(ρ:Nat→Int)(heap0:T ah):List (Nat×List AV×AV)→Prop
 | []=>True
 |(f,l,v) ::r=>((∃p,Hb P f=some p)∧∀w0:W0,iE P heap0 w0→∀H nx,JA P ρ w0 f l H nx v H nx)∧adv P ρ heap0 r
theorem adv.mem:∀{tab:List (Nat×List AV×AV)},adv P ρ heap0 tab→∀{f:Nat} {l:List AV} {v:AV},(f,l,v)∈tab→(∃p,Hb P f=some p)∧∀w0:W0,iE P heap0 w0→∀H nx,JA P ρ w0 f l H nx v H nx
 | [],_,_,_,_,h=>by cases h
 |(g,m,u) ::r,ht,f,l,v,h=>by
  rcases K3.1 h with e|e
  ·cases e;exact ht.1
  ·exact adv.mem ht.2 e
end
end Go.Sx
namespace Go.Sx
open Go
theorem arz{a b:Key}(h:a.toNat≠b.toNat):a≠b:=fun e=>h (by rw[e])
theorem qE{a b:Key}(v:Option ah)(t:T ah)(h:a.toNat≠b.toNat:=by simp;try omega):ae a (av b v t)=ae a t:=aR _ _ _ _ (arz h)
variable(n:Key)(v:Option ah)(t:T ah)
@[simp] theorem aBW:ae n (av n.succ v t)=ae n t:=qE v t
@[simp] theorem aBX:ae n (av n.succ.succ v t)=ae n t:=qE v t
@[simp] theorem aBY:ae n (av n.succ.succ.succ v t)=ae n t:=qE v t
@[simp] theorem aBZ:ae n (av n.succ.succ.succ.succ v t)=ae n t:=qE v t
@[simp] theorem aB0:ae n (av n.succ.succ.succ.succ.succ v t)=ae n t:=qE v t
@[simp] theorem aB1:ae n (av n.succ.succ.succ.succ.succ.succ v t)=ae n t:=qE v t
@[simp] theorem aB2:ae n (av n.succ.succ.succ.succ.succ.succ.succ v t)=ae n t:=qE v t
@[simp] theorem aB3:ae n.succ (av n v t)=ae n.succ t:=qE v t
@[simp] theorem aB4:ae n.succ (av n.succ.succ v t)=ae n.succ t:=qE v t
@[simp] theorem aB5:ae n.succ (av n.succ.succ.succ v t)=ae n.succ t:=qE v t
@[simp] theorem aB6:ae n.succ (av n.succ.succ.succ.succ v t)=ae n.succ t:=qE v t
@[simp] theorem aB7:ae n.succ (av n.succ.succ.succ.succ.succ v t)=ae n.succ t:=qE v t
@[simp] theorem aB8:ae n.succ (av n.succ.succ.succ.succ.succ.succ v t)=ae n.succ t:=qE v t
@[simp] theorem aB9:ae n.succ (av n.succ.succ.succ.succ.succ.succ.succ v t)=ae n.succ t:=qE v t
@[simp] theorem aCa:ae n.succ.succ (av n v t)=ae n.succ.succ t:=qE v t
@[simp] theorem aCb:ae n.succ.succ (av n.succ v t)=ae n.succ.succ t:=qE v t
@[simp] theorem aCc:ae n.succ.succ (av n.succ.succ.succ v t)=ae n.succ.succ t:=qE v t
@[simp] theorem aCd:ae n.succ.succ (av n.succ.succ.succ.succ v t)=ae n.succ.succ t:=qE v t
@[simp] theorem aCe:ae n.succ.succ (av n.succ.succ.succ.succ.succ v t)=ae n.succ.succ t:=qE v t
@[simp] theorem aCf:ae n.succ.succ (av n.succ.succ.succ.succ.succ.succ v t)=ae n.succ.succ t:=qE v t
@[simp] theorem aCg:ae n.succ.succ (av n.succ.succ.succ.succ.succ.succ.succ v t)=ae n.succ.succ t:=qE v t
@[simp] theorem aCh:ae n.succ.succ.succ (av n v t)=ae n.succ.succ.succ t:=qE v t
@[simp] theorem aCi:ae n.succ.succ.succ (av n.succ v t)=ae n.succ.succ.succ t:=qE v t
@[simp] theorem aCj:ae n.succ.succ.succ (av n.succ.succ v t)=ae n.succ.succ.succ t:=qE v t
@[simp] theorem aCk:ae n.succ.succ.succ (av n.succ.succ.succ.succ v t)=ae n.succ.succ.succ t:=qE v t
@[simp] theorem aCl:ae n.succ.succ.succ (av n.succ.succ.succ.succ.succ v t)=ae n.succ.succ.succ t:=qE v t
@[simp] theorem aCm:ae n.succ.succ.succ (av n.succ.succ.succ.succ.succ.succ v t)=ae n.succ.succ.succ t:=qE v t
@[simp] theorem aCn:ae n.succ.succ.succ (av n.succ.succ.succ.succ.succ.succ.succ v t)=ae n.succ.succ.succ t:=qE v t
@[simp] theorem aCo:ae n.succ.succ.succ.succ (av n v t)=ae n.succ.succ.succ.succ t:=qE v t
@[simp] theorem aCp:ae n.succ.succ.succ.succ (av n.succ v t)=ae n.succ.succ.succ.succ t:=qE v t
@[simp] theorem aCq:ae n.succ.succ.succ.succ (av n.succ.succ v t)=ae n.succ.succ.succ.succ t:=qE v t
@[simp] theorem aCr:ae n.succ.succ.succ.succ (av n.succ.succ.succ v t)=ae n.succ.succ.succ.succ t:=qE v t
@[simp] theorem aCs:ae n.succ.succ.succ.succ (av n.succ.succ.succ.succ.succ v t)=ae n.succ.succ.succ.succ t:=qE v t
@[simp] theorem aCt:ae n.succ.succ.succ.succ (av n.succ.succ.succ.succ.succ.succ v t)=ae n.succ.succ.succ.succ t:=qE v t
@[simp] theorem aCu:ae n.succ.succ.succ.succ (av n.succ.succ.succ.succ.succ.succ.succ v t)=ae n.succ.succ.succ.succ t:=qE v t
@[simp] theorem aCv:ae n.succ.succ.succ.succ.succ (av n v t)=ae n.succ.succ.succ.succ.succ t:=qE v t
@[simp] theorem aCw:ae n.succ.succ.succ.succ.succ (av n.succ v t)=ae n.succ.succ.succ.succ.succ t:=qE v t
@[simp] theorem aCx:ae n.succ.succ.succ.succ.succ (av n.succ.succ v t)=ae n.succ.succ.succ.succ.succ t:=qE v t
@[simp] theorem aCy:ae n.succ.succ.succ.succ.succ (av n.succ.succ.succ v t)=ae n.succ.succ.succ.succ.succ t:=qE v t
@[simp] theorem aCz:ae n.succ.succ.succ.succ.succ (av n.succ.succ.succ.succ v t)=ae n.succ.succ.succ.succ.succ t:=qE v t
@[simp] theorem aCA:ae n.succ.succ.succ.succ.succ (av n.succ.succ.succ.succ.succ.succ v t)=ae n.succ.succ.succ.succ.succ t:=qE v t
@[simp] theorem aCB:ae n.succ.succ.succ.succ.succ (av n.succ.succ.succ.succ.succ.succ.succ v t)=ae n.succ.succ.succ.succ.succ t:=qE v t
@[simp] theorem aCC:ae n.succ.succ.succ.succ.succ.succ (av n v t)=ae n.succ.succ.succ.succ.succ.succ t:=qE v t
@[simp] theorem aCD:ae n.succ.succ.succ.succ.succ.succ (av n.succ v t)=ae n.succ.succ.succ.succ.succ.succ t:=qE v t
@[simp] theorem aCE:ae n.succ.succ.succ.succ.succ.succ (av n.succ.succ v t)=ae n.succ.succ.succ.succ.succ.succ t:=qE v t
@[simp] theorem aCF:ae n.succ.succ.succ.succ.succ.succ (av n.succ.succ.succ v t)=ae n.succ.succ.succ.succ.succ.succ t:=qE v t
@[simp] theorem aCG:ae n.succ.succ.succ.succ.succ.succ (av n.succ.succ.succ.succ v t)=ae n.succ.succ.succ.succ.succ.succ t:=qE v t
@[simp] theorem aCH:ae n.succ.succ.succ.succ.succ.succ (av n.succ.succ.succ.succ.succ v t)=ae n.succ.succ.succ.succ.succ.succ t:=qE v t
@[simp] theorem aCI:ae n.succ.succ.succ.succ.succ.succ (av n.succ.succ.succ.succ.succ.succ.succ v t)=ae n.succ.succ.succ.succ.succ.succ t:=qE v t
@[simp] theorem aCJ:ae n.succ.succ.succ.succ.succ.succ.succ (av n v t)=ae n.succ.succ.succ.succ.succ.succ.succ t:=qE v t
@[simp] theorem aCK:ae n.succ.succ.succ.succ.succ.succ.succ (av n.succ v t)=ae n.succ.succ.succ.succ.succ.succ.succ t:=qE v t
@[simp] theorem aCL:ae n.succ.succ.succ.succ.succ.succ.succ (av n.succ.succ v t)=ae n.succ.succ.succ.succ.succ.succ.succ t:=qE v t
@[simp] theorem aCM:ae n.succ.succ.succ.succ.succ.succ.succ (av n.succ.succ.succ v t)=ae n.succ.succ.succ.succ.succ.succ.succ t:=qE v t
@[simp] theorem aCN:ae n.succ.succ.succ.succ.succ.succ.succ (av n.succ.succ.succ.succ v t)=ae n.succ.succ.succ.succ.succ.succ.succ t:=qE v t
@[simp] theorem aCO:ae n.succ.succ.succ.succ.succ.succ.succ (av n.succ.succ.succ.succ.succ v t)=ae n.succ.succ.succ.succ.succ.succ.succ t:=qE v t
@[simp] theorem aCP:ae n.succ.succ.succ.succ.succ.succ.succ (av n.succ.succ.succ.succ.succ.succ v t)=ae n.succ.succ.succ.succ.succ.succ.succ t:=qE v t
@[simp] theorem atV(k:IntKind):pz (.int k (.lit 2))=some 2:=rfl
@[simp] theorem aov(k:IntKind):pz (.int k (.lit 3))=some 3:=rfl
theorem lv:∀(k:Key),Key.beq k k=true
 |.z=>rfl
 |.o k=>by rw[Key.beq];exact lv k
 |.e k=>by rw[Key.beq];exact lv k
theorem Z4(f:SF):SF.beq f f=true:=by cases f<;>simp[SF.beq,lv]
mutual
def AV.lits:AV→Bool
 |.int _ (.lit _)=>true
 |.int _ _=>false
 |.fn _ a c=>AV.gE a&&AV.gE c
 |.iface _ v=>AV.lits v
 |.agg l=>AV.gE l
 |.tuple l=>AV.gE l
 |.sl l _ _ _=>AV.gE l
 |.cref l=>AV.gE l
 |_=>true
def AV.gE:List AV→Bool
 | []=>true
 |v ::l=>AV.lits v&&AV.gE l
end
mutual
theorem beq_refl:∀(v:AV),AV.lits v=true→AV.beq v v=true
 |.bool b,_=>by simp[AV.beq]
 |.int k (.lit n),_=>by cases k<;>simp[AV.beq,SI.beq]
 |.int k (.var n),h=>by simp[AV.lits]at h
 |.int k (.bin o k' a b),h=>by simp[AV.lits]at h
 |.str n c,_=>by simp[AV.beq]
 |.ptr b o,_=>by simp[AV.beq,lv]
 |.nilp,_=>by simp[AV.beq]
 |.slice b o l s,_=>by simp[AV.beq,lv]
 |.nils,_=>by simp[AV.beq]
 |.map b,_=>by simp[AV.beq,lv]
 |.nilm,_=>by simp[AV.beq]
 |.fn f a c,h=>by simp[AV.lits]at h;simp[AV.beq,r7 a h.1,r7 c h.2]
 |.yld l,_=>by simp[AV.beq,lv]
 |.nilf,_=>by simp[AV.beq]
 |.iface t v,h=>by simp[AV.lits]at h;simp[AV.beq,beq_refl v h]
 |.nili,_=>by simp[AV.beq]
 |.agg l,h=>by simp[AV.lits]at h;simp[AV.beq,r7 l h]
 |.tuple l,h=>by simp[AV.lits]at h;simp[AV.beq,r7 l h]
 |.sl l n z f,h=>by simp[AV.lits]at h;simp[AV.beq,Z4,r7 l h]
 |.cref l,h=>by simp[AV.lits]at h;simp[AV.beq,r7 l h]
theorem r7:∀(l:List AV),AV.gE l=true→AV.GK l l=true
 | [],_=>by simp[AV.GK]
 |v ::l,h=>by simp[AV.gE]at h;simp[AV.GK,beq_refl v h.1,r7 l h.2]
end
theorem WT:∀{l:List AV},(∀x∈l,AV.lits x=true)→AV.gE l=true
 | [],_=>by simp[AV.gE]
 |v ::l,h=>by simp[AV.gE,h v (by simp),WT (l:=l) fun x hx=>h x (by simp[hx])]
theorem Tl:∀{l:List AV},AV.gE l=true→∀x∈l,AV.lits x=true
 | [],_,x,hx=>by simp at hx
 |v ::l,h,x,hx=>by
  simp[AV.gE]at h;rcases K3.1 hx with rfl|hx
  ·exact h.1
  ·exact Tl h.2 x hx
end Go.Sx
namespace Go.Sx
open Go
structure Fn(C:bK)(f:Nat)(p:ej):Prop where
 get:Fl C f=some p
 off:∀l h nx,C.sum f l h nx=none
 kY:C.kY f=false
theorem Fn.call{C:bK}{f:Nat}{p:ej}(S:Fn C f p){l:List AV}{h:T ah}{nx:Key}{R:Out→T ah→Key→Prop}(hw:iH C p.body (dF p.res R) (gw l (K 0) .nil) h nx):aH C f l h nx R:=
 aH.of (S.off _ _ _) S.get S.kY hw
abbrev S:=Nat×Nat
def OQ(c:AV):Prop:=∀n h,aN n c h=(c,h)
theorem Ub(l:List AV)(n z:Nat):OQ (.sl l n z .any):=fun k h=>by cases k<;>rfl
theorem zS:OQ .nils:=fun k h=>by cases k<;>rfl
theorem dz(k:IntKind)(n:SI):OQ (.int k n):=fun k h=>by cases k<;>rfl
theorem x9(a b:Nat):OQ (.str a b):=fun k h=>by cases k<;>rfl
theorem ag0(b:Bool):OQ (.bool b):=fun k h=>by cases k<;>rfl
theorem cn{n:Nat}:∀{l:List AV} {h:T ah},(∀x∈l,OQ x)→bC (aN n) l h=(l,h)
 | [],_,_=>rfl
 |v ::l,h,hs=>by have h1:=hs v (by simp) n h;have h2:=cn (n:=n) (l:=l) (h:=h) fun x hx=>hs x (by simp[hx]);simp only[bC,h1,h2]
theorem Ep{n:Nat}{b:Key}{len sz:Nat}{l:List AV}{H:T ah}(hg:ae b H=some (.cells l .part))(hl:l.length=len*sz)(hs:∀x∈l,OQ x):aN (n+1) (.slice b 0 len sz) H=(.sl l len sz .any,av b none H):=by simp only[aN,J7,hg,List.drop_zero];rw[if_pos (by omega),OV (by omega),cn hs]
theorem BN{n:Nat}{b:Key}{len sz:Nat}{l:List AV}{H:T ah}(hg:ae b H=some (.cells l .fix))(hl:l.length=len*sz)(hs:∀x∈l,OQ x):aN (n+1) (.slice b 0 len sz) H=(.sl l len sz .any,av b (some (.cells l .ro)) H):=by simp only[aN,J7,hg,List.drop_zero];rw[if_pos (by omega),OV (by omega),cn hs]
def TN(C:bK)(f:Nat)(l:List AV)(P:Out→Prop):Prop:=∀h nx,aH C f l h nx (fun o h' nx'=>P o∧Ext h nx h' nx')
theorem TN.mono{C:bK}{f:Nat}{l:List AV}{P Q:Out→Prop}(hp:TN C f l P)(hq:∀o,P o→Q o):TN C f l Q:=
 fun h nx=>(hp h nx).mono fun o _ _ ⟨a,b⟩=>⟨hq o a,b⟩
theorem E0(h:T ah)(nx:Key)(B:ah):Ext h nx (av nx (some B) h) nx.succ:=by have s1:=kTSu nx;exact⟨by omega,fun b hb=>by rw[az hb]⟩
theorem Ext.put{h h':T ah}{nx nx' k:Key}{B:Option ah}(e:Ext h nx h' nx')(hk:nx.toNat≤k.toNat):Ext h nx (av k B h') nx':=
 ⟨e.n,fun b hb=>by rw[az (by omega)];exact e.g b hb⟩
theorem Ext.up{h h':T ah}{nx nx' n2:Key}(e:Ext h nx h' nx')(hn:nx'.toNat≤n2.toNat):Ext h nx h' n2:=⟨by have:=e.n;omega,e.g⟩
section
variable{α:Type}
def ag(enc:α→List AV)(l:List α):List AV:=l.flatMap enc
structure Flat(z:Nat)(enc:α→List AV):Prop where
 len:∀x,(enc x).length=z
 vV:∀x,∀y∈enc x,OQ y
 cell:∀x,∀y∈enc x,AV.aP y=true
 lits:∀x,AV.gE (enc x)=true
variable{z:Nat}{enc:α→List AV}
@[simp] theorem aez(enc:α→List AV):ag enc []=[]:=rfl
theorem dd(enc:α→List AV)(x:α)(l:List α):ag enc (x ::l)=enc x++ag enc l:=rfl
theorem fU(enc:α→List AV)(l m:List α):ag enc (l++m)=ag enc l++ag enc m:=by simp[ag]
theorem fj(enc:α→List AV)(x:α):ag enc [x]=enc x:=by simp[ag]
theorem Flat.rows(F:Flat z enc):∀(l:List α),(ag enc l).length=l.length*z
 | []=>by simp
 |x ::l=>by rw[dd,Ho,F.len,F.rows l,zqi,Nat.add_mul,Nat.one_mul,Nat.add_comm]
theorem Flat.drop(F:Flat z enc):∀(l:List α) (i:Nat),(ag enc l).drop (i*z)=ag enc (l.drop i)
 |l,0=>by simp
 | [],i+1=>by simp
 |x ::l,i+1=>by
  have hx:(enc x).length=z:=F.len x;have hz:z≤(i+1)*z:=Nat.le_mul_of_pos_left _ (Nat.succ_pos _);have he:(i+1)*z-z=i*z:=by rw[Nat.add_mul,Nat.one_mul];omega
  rw[dd,zqq,List.drop_eq_nil_of_le (by omega),List.nil_append,hx,he,F.drop l i];simp
theorem Flat.take(F:Flat z enc):∀(l:List α) (i:Nat),(ag enc l).take (i*z)=ag enc (l.take i)
 |l,0=>by simp
 | [],i+1=>by simp
 |x ::l,i+1=>by
  have hx:(enc x).length=z:=F.len x;have hz:z≤(i+1)*z:=Nat.le_mul_of_pos_left _ (Nat.succ_pos _);have he:(i+1)*z-z=i*z:=by rw[Nat.add_mul,Nat.one_mul];omega
  rw[dd,zqw,OV (by omega),hx,he,F.take l i];simp[dd]
theorem Flat.at(F:Flat z enc){l:List α}{i:Nat}(hi:i<l.length):((ag enc l).drop (i*z)).take z=enc l[i]:=by rw[F.drop,zqt hi,dd,List.take_append_of_le_length (by rw[F.len];exact fa _),OV (by rw[F.len];exact fa _)]
theorem Flat.Er(F:Flat z enc)(l:List α):∀y∈ag enc l,OQ y:=by intro y hy;obtain⟨x,_,hx⟩:=List.mem_flatMap.1 hy;exact F.vV x y hx
theorem Flat.cells(F:Flat z enc)(l:List α):∀y∈ag enc l,AV.aP y=true:=by intro y hy;obtain⟨x,_,hx⟩:=List.mem_flatMap.1 hy;exact F.cell x y hx
theorem Flat.ap3(F:Flat z enc)(l:List α):(ag enc l).all AV.aP=true:=vJ.2 (F.cells l)
theorem Flat.aoa(F:Flat z enc)(l:List α):AV.gE (ag enc l)=true:=by refine WT fun y hy=>?_;obtain⟨x,_,hx⟩:=List.mem_flatMap.1 hy;exact Tl (F.lits x) y hx
def iB(z:Nat)(enc:α→List AV)(c:AV)(l:List α):Prop:=(c=.nils∧l=[])∨c=.sl (ag enc l) l.length z .any
theorem iB.vV{c:AV}{l:List α}(h:iB z enc c l):OQ c:=by
 rcases h with⟨rfl,_⟩|rfl
 ·exact zS
 ·exact Ub _ _ _
theorem iB.cell{c:AV}{l:List α}(h:iB z enc c l):c.aP=true∧c.cells=[c]:=by rcases h with⟨rfl,_⟩|rfl<;>exact⟨rfl,rfl⟩
end
structure App(c:AV)(l:List AV)(len sz:Nat)(h:T ah)(nx n0:Key):Prop where
 is:(c=.nils∧l=[]∧len=0)∨(∃b:Key,c=.slice b 0 len sz∧ae b h=some (.cells l .part)∧n0.toNat≤b.toNat∧b.toNat<nx.toNat∧l.length=len*sz)∨
  (∃t:Key,c=.sl l len sz (.tok t)∧ae t h=some .tok∧n0.toNat≤t.toNat∧t.toNat<nx.toNat)
section
variable{c:AV}{l new:List AV}{len sz m:Nat}{h h':T ah}{nx nx' n0:Key}
theorem App.nil(sz:Nat):App .nils [] 0 sz h nx n0:=⟨.inl ⟨rfl,rfl,rfl⟩⟩
theorem App.dp(ha:App c l len sz h nx n0)(h0:n0.toNat≤nx.toNat)(hn:new.length=m*sz)(hl:len+m≤1048576)(hc:new.all AV.aP=true) :
  ∃c' h' nx',appendTo sz c new m h nx=.val c' h' nx'∧App c' (l++new) (len+m) sz h' nx' n0∧nx.toNat≤nx'.toNat∧(∀b:Key,b.toNat<n0.toNat→ae b h'=ae b h)∧∀b:Key,b.toNat<nx.toNat→(∀B,ae b h=some B→B≠.tok∧∀l,B≠.cells l .part)→ae b h'=ae b h:=by
 have s1:=kTSu nx;by_cases hm:m=0
 ·subst hm;have:new=[]:=SK (by omega);subst this;rcases id ha.is with⟨rfl,rfl,rfl⟩|⟨b,rfl,hb,xH,bY,ZA⟩|⟨t,rfl,ht,xH,bY⟩
  ·exact⟨.nils,h,nx,by simp,by simpa using ha,fa _,fun _ _=>rfl,fun _ _ _=>rfl⟩
  ·exact⟨.slice b 0 len sz,h,nx,by have Te:len≤1048576:=hl;simp[hb,Te],by simpa using ha,fa _,fun _ _=>rfl,fun _ _ _=>rfl⟩
  ·exact⟨.sl l len sz (.tok t),h,nx,by simp,by simpa using ha,fa _,fun _ _=>rfl,fun _ _ _=>rfl⟩
 ·rcases id ha.is with⟨rfl,rfl,rfl⟩|⟨b,rfl,hb,xH,bY,ZA⟩|⟨t,rfl,ht,xH,bY⟩
  ·have NN:m≤1048576:=by omega
   exact⟨.slice nx 0 (0+m) sz,av nx (some (.cells new .part)) h,nx.succ,by simp[hm,NN],⟨.inr (.inl ⟨nx,rfl,by simp,by omega,by omega,by simpa using hn⟩)⟩,by omega,fun b hb=>az (by omega),fun b hb _=>az hb⟩
  ·cases hw:Cx sz with
   |true=>
    refine⟨.slice nx 0 (len+m) sz,av nx (some (.cells (l++new) .part)) (av b none h),nx.succ,?_,⟨.inr (.inl ⟨nx,rfl,by simp,by omega,by omega,by rw[Ho,ZA,hn,Nat.add_mul]⟩)⟩,by omega,fun x hx=>?_,fun x hx hk=>?_⟩
    ·simp[hl,hc,hb,ZA,hm,hw]
    ·rw[az (by omega),az (by omega)]
    ·rw[az hx,aR];rintro rfl;exact(hk _ hb).2 l rfl
   |false=>
    refine⟨.sl (l++new) (len+m) sz (.tok nx),av nx (some .tok) (av b none h),nx.succ,?_,⟨.inr (.inr ⟨nx,rfl,by simp,by omega,by omega⟩)⟩,by omega,fun x hx=>?_,fun x hx hk=>?_⟩
    ·simp[hl,hc,hb,ZA,hm,hw]
    ·rw[az (by omega),az (by omega)]
    ·rw[az hx,aR];rintro rfl;exact(hk _ hb).2 l rfl
  ·refine⟨.sl (l++new) (len+m) sz (.tok nx),av nx (some .tok) (av t none h),nx.succ,?_,⟨.inr (.inr ⟨nx,rfl,by simp,by omega,by omega⟩)⟩,by omega,fun x hx=>?_,fun x hx hk=>?_⟩
   ·simp[hl,hc,ht,hm]
   ·rw[az (by omega),az (by omega)]
   ·rw[az hx,aR];rintro rfl;exact(hk _ ht).1 rfl
theorem App.cy(ha:App c l len sz h nx n0)(hn:nx.toNat≤nx'.toNat)(hg:∀b:Key,b.toNat<nx.toNat→(ae b h=some .tok∨∃l,ae b h=some (.cells l .part))→ae b h'=ae b h):App c l len sz h' nx' n0:=by
 refine⟨?_⟩;rcases ha.is with⟨rfl,rfl,rfl⟩|⟨b,rfl,hb,xH,bY,ZA⟩|⟨t,rfl,ht,xH,bY⟩
 ·exact .inl ⟨rfl,rfl,rfl⟩
 ·exact .inr (.inl ⟨b,rfl,by rw[hg b bY (.inr ⟨_,hb⟩)];exact hb,xH,by omega,ZA⟩)
 ·exact .inr (.inr ⟨t,rfl,by rw[hg t bY (.inl ht)];exact ht,xH,by omega⟩)
theorem App.ext(ha:App c l len sz h nx n0)(e:Ext h nx h' nx'):App c l len sz h' nx' n0:=ha.cy e.n fun b hb _=>e.g b hb
theorem App.cell(ha:App c l len sz h nx n0):c.aP=true∧c.cells=[c]:=by rcases ha.is with⟨rfl,rfl,rfl⟩|⟨b,rfl,_⟩|⟨t,rfl,_⟩<;>exact⟨rfl,rfl⟩
theorem App.set{k:Key}{B:Option ah}(ha:App c l len sz h nx n0)(hk:∀B,ae k h=some B→B≠.tok∧∀l,B≠.cells l .part):App c l len sz (av k B h) nx n0:=
 ha.cy (fa _) fun b _ hx=>aR _ _ _ _ fun e=>by
  subst e;rcases hx with hx|⟨l,hx⟩
  ·exact(hk _ hx).1 rfl
  ·exact(hk _ hx).2 _ rfl
theorem App.UC(ha:App c l len sz h nx n0)(orc:iG){tm:T AV}{k:Key}(hk:ae k tm=some c):lightOp orc (.lenL (.t k)) tm h=some (I len):=by rcases ha.is with⟨rfl,rfl,rfl⟩|⟨b,rfl,_⟩|⟨t,rfl,_⟩<;>simp[hk]
theorem App.ae5(ha:App c l len sz h nx n0)(hs:∀y∈l,OQ y)(n:Nat) :
  ((aN (n+1) c h).1=.nils∧l=[]∧len=0∨(aN (n+1) c h).1=.sl l len sz .any)∧∀b:Key,b.toNat<n0.toNat→ae b (aN (n+1) c h).2=ae b h:=by
 rcases ha.is with⟨rfl,rfl,rfl⟩|⟨b,rfl,hb,xH,bY,ZA⟩|⟨t,rfl,ht,xH,bY⟩
 ·exact⟨.inl ⟨rfl,rfl,rfl⟩,fun _ _=>rfl⟩
 ·rw[Ep hb ZA hs];exact⟨.inr rfl,fun x hx=>az (by omega)⟩
 ·exact⟨.inr rfl,fun _ _=>rfl⟩
theorem App.EN{α:Type}{enc:α→List AV}(F:Flat sz enc){us:List α}(ha:App c (ag enc us) us.length sz h nx n0)(n:Nat) :
  iB sz enc (aN (n+1) c h).1 us∧∀b:Key,b.toNat<n0.toNat→ae b (aN (n+1) c h).2=ae b h:=by
 obtain⟨h1,h2⟩:=ha.ae5 (F.Er us) n;refine⟨?_,h2⟩;rcases h1 with⟨e,_,e3⟩|e
 ·exact .inl ⟨e,SK e3⟩
 ·exact .inr e
theorem App.IJ{α:Type}{enc:α→List AV}(F:Flat sz enc){us:List α}(ha:App c (ag enc us) us.length sz h nx n0)(h0:n0.toNat≤nx.toNat)(hl:us.length+1≤1048576)(x:α) :
  ∃c' h' nx',appendTo sz c (enc x) 1 h nx=.val c' h' nx'∧App c' (ag enc (us ++ [x])) (us ++ [x]).length sz h' nx' n0∧nx.toNat≤nx'.toNat∧(∀b:Key,b.toNat<n0.toNat→ae b h'=ae b h)∧∀b:Key,b.toNat<nx.toNat→(∀B,ae b h=some B→B≠.tok∧∀l,B≠.cells l .part)→ae b h'=ae b h:=by
 obtain⟨c',h',nx',a,b,c,d,e⟩:=ha.dp (new:=enc x) (m:=1) h0 (by rw[F.len,Nat.one_mul]) hl (vJ.2 (F.cell x));exact⟨c',h',nx',a,by rw[fU,fj,Ho];exact b,c,d,e⟩
end
end Go.Sx
