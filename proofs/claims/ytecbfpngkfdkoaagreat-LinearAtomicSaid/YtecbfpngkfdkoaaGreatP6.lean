/- A part of the proof. No condition. -/
import Derived.Test.YtecbfpngkfdkoaaGreatP5
set_option linter.unusedSimpArgs false
set_option linter.unusedVariables false
set_option linter.unusedSectionVars false
namespace Go.Sx
open Go.RowKit
inductive Ex where
 |norm
 |ret
 |exit (id:Nat)
 |pan (a:AV)
def Aft(af:mB)(k:List de):Ex→T AV→mB→Prop
 |.norm,tm,fr=>fr={af with tm:=tm,todo:=k}
 |.ret,tm,fr=>∃t,fr={af with tm:=tm,todo:=.code .ret ::t}
 |.exit id,tm,fr=>∃k2,mG id k2=mG id k∧fr={af with tm:=tm,todo:=.code (.exit id) ::k2}
 |.pan a,tm,fr=>fr={af with tm:=tm,todo:=[],mode:=.pan a false}
def Lv:Option Nat→aK
 |none=>.ret
 |some i=>.exit i
abbrev cH:=Ex→T AV→T ah→Key→Prop
def Stop(Q:cH)(af:mB)(k:List de)(cs:List mB)(m:AM):Prop:=∃e aD h' nx' fr,Q e aD h' nx'∧Aft af k e aD fr∧m=⟨fr,cs,h',nx'⟩
def WI(C:bP)(x:de)(Q:cH)(tm:T AV)(h:T ah)(nx:Key):Prop:=
 ∀(af:mB) (k:List de) (cs:List mB),af.mode=.run→True→Ev C (Stop Q af k cs) ⟨{af with tm:=tm,todo:=x ::k},cs,h,nx⟩
abbrev W(C:bP)(c:aK):cH→T AV→T ah→Key→Prop:=WI C (.code c)
section
variable{C:bP}{Q Q':cH}{tm:T AV}{h:T ah}{nx:Key}
theorem WI.mono{x:de}(hw:WI C x Q tm h nx)(hq:∀e tm h nx,Q e tm h nx→Q' e tm h nx):WI C x Q' tm h nx:=by intro af k cs h1 h2;refine(hw af k cs h1 h2).mono ?_;rintro m ⟨e,aD,h',nx',fr,q,a,t⟩;exact⟨e,aD,h',nx',fr,hq _ _ _ _ q,a,t⟩
theorem bz{m:AM}{r:SR}(hm:m.fr.mode=.run)(hr:b9 C m.fr m.cs m.h m.nx=r):iI C m=r:=by unfold iI;simp only[hm];exact hr
theorem Stop.not{y:de}{af:mB}{k:List de}{cs cs2:List mB}(hy:∀i,y≠.code (Lv i))(h1:af.mode=.run):¬Stop Q af k cs ⟨{af with tm:=tm,todo:=y ::k},cs2,h,nx⟩:=by
 rintro⟨e,aD,h',nx',fr,q,a,t⟩;simp only[AM.mk.injEq]at t;obtain⟨e0,_⟩:=t;cases e with
 |norm=>cases a;simp at e0
 |ret=>obtain⟨_,rfl⟩:=a;simp at e0;exact hy none e0.2.1
 |exit id=>obtain⟨_,_,rfl⟩:=a;simp at e0;exact hy (some id) e0.2.1
 |pan a'=>cases a;simp at e0
theorem WI.to{x y:de}(hs:∀(af:mB) (k:List de) (cs:List mB),af.mode=.run→True→b9 C {af with tm:=tm,todo:=x ::k} cs h nx=.next ⟨{af with tm:=tm,todo:=y ::k},cs,h,nx⟩)(hw:WI C y Q tm h nx):WI C x Q tm h nx:=by intro af k cs h1 h2;exact .step (bz h1 (hs af k cs h1 h2)) (hw af k cs h1 h2)
theorem W.skip(hq:Q .norm tm h nx):W C .skip Q tm h nx:=by intro af k cs h1 h2;exact .step (bz h1 rfl) (.now ⟨.norm,tm,h,nx,_,hq,rfl,rfl⟩)
theorem W.ret(hq:Q .ret tm h nx):W C .ret Q tm h nx:=by intro af k cs h1 h2;exact .now ⟨.ret,tm,h,nx,_,hq,⟨k,rfl⟩,rfl⟩
theorem W.exit{id:Nat}(hq:Q (.exit id) tm h nx):W C (.exit id) Q tm h nx:=by intro af k cs h1 h2;exact .now ⟨.exit id,tm,h,nx,_,hq,⟨k,rfl,rfl⟩,rfl⟩
theorem W.seq{a b:aK}(hw:W C a (fun e tm h nx=>match e with|.norm=>W C b Q tm h nx|e=>Q e tm h nx) tm h nx):W C (.seq a b) Q tm h nx:=by
 intro af k cs h1 h2;refine .step (m':=⟨{af with tm:=tm,todo:=.code a ::.code b ::k},cs,h,nx⟩) (bz h1 rfl) ((hw af (.code b ::k) cs h1 h2).bind ?_);rintro m ⟨e,aD,h',nx',fr,q,ha,rfl⟩;cases e with
 |norm=>cases ha;refine(q {af with tm:=aD} k cs h1 h2).mono ?_;rintro m ⟨e2,tm2,hh2,bu,I6,q2,a2,t2⟩;refine⟨e2,tm2,hh2,bu,I6,q2,?_,t2⟩;cases e2<;>exact a2
 |ret=>exact .now ⟨.ret,aD,h',nx',fr,q,ha,rfl⟩
 |exit id=>obtain⟨k2,e1,e2⟩:=ha;exact .now ⟨.exit id,aD,h',nx',fr,q,⟨k2,e1,e2⟩,rfl⟩
 |pan a=>exact .now ⟨.pan a,aD,h',nx',fr,q,ha,rfl⟩
theorem W.cond{x:PX}{a b:aK}{t:Bool}(hx:x.at tm=some (.bool t))(hw:W C (if t then a else b) Q tm h nx):W C (.cond x a b) Q tm h nx:=by refine WI.to (y:=.code (if t then a else b)) ?_ hw;intro af k cs h1 h2;simp only[b9,hx];cases t<;>rfl
theorem W.block{id:Nat}{c:aK}(hw:W C c (fun e tm h nx=>match e with|.exit j=>if j=id then Q .norm tm h nx else Q (.exit j) tm h nx|e=>Q e tm h nx) tm h nx):W C (.block id c) Q tm h nx:=by
 intro af k cs h1 h2;refine .step (m':=⟨{af with tm:=tm,todo:=.code c ::.inBlock id ::k},cs,h,nx⟩) (bz h1 rfl) ((hw af (.inBlock id ::k) cs h1 h2).bind ?_);rintro m ⟨e,aD,h',nx',fr,q,ha,rfl⟩;cases e with
 |norm=>cases ha;exact .step (bz h1 rfl) (.now ⟨.norm,aD,h',nx',_,q,rfl,rfl⟩)
 |ret=>exact .now ⟨.ret,aD,h',nx',fr,q,ha,rfl⟩
 |exit j=>
  obtain⟨k2,e1,rfl⟩:=ha;by_cases hj:j=id
  ·subst hj;simp only[if_true]at q;refine .step (m':=⟨{af with tm:=aD,todo:=k},cs,h',nx'⟩) (bz h1 ?_) (.now ⟨.norm,aD,h',nx',_,q,rfl,rfl⟩);simp only[b9,e1,mG,beqN_eq,decide_true,cond_true]
  ·simp only[if_neg hj]at q;refine .now ⟨.exit j,aD,h',nx',_,q,⟨k2,?_,rfl⟩,rfl⟩;rw[e1];simp only[mG,beqN_eq,show ¬id=j from fun e=>hj e.symm,decide_false,cond_false]
 |pan a=>exact .now ⟨.pan a,aD,h',nx',fr,q,ha,rfl⟩
theorem W.loop{c:aK}(Inv:Nat→T AV→T ah→Key→Prop)
  (hw:∀n tm h nx,Inv n tm h nx→W C c (fun e tm h nx=>match e with|.norm=>∃m,m<n∧Inv m tm h nx|e=>Q e tm h nx) tm h nx) {n:Nat} (hi:Inv n tm h nx):W C (.loop c) Q tm h nx:=by
 have key:∀(n:Nat) (tm:T AV) (h:T ah) (nx:Key),Inv n tm h nx→WI C (.inLoop c) Q tm h nx:=by
  intro n
  induction n using Nat.strongRecOn with
  |_ n ih=>
   intro tm h nx hi af k cs h1 h2;refine .step (m':=⟨{af with tm:=tm,todo:=.code c ::.inLoop c ::k},cs,h,nx⟩) (bz h1 rfl) ((hw n tm h nx hi af (.inLoop c ::k) cs h1 h2).bind ?_);rintro m ⟨e,aD,h',nx',fr,q,ha,rfl⟩;cases e with
   |norm=>cases ha;obtain⟨m,hm,him⟩:=q;refine(ih m hm aD h' nx' him {af with tm:=aD} k cs h1 h2).mono ?_;rintro m ⟨e2,tm2,hh2,bu,I6,q2,a2,t2⟩;refine⟨e2,tm2,hh2,bu,I6,q2,?_,t2⟩;cases e2<;>exact a2
   |ret=>exact .now ⟨.ret,aD,h',nx',fr,q,ha,rfl⟩
   |exit id=>obtain⟨k2,e1,e2⟩:=ha;exact .now ⟨.exit id,aD,h',nx',fr,q,⟨k2,e1,e2⟩,rfl⟩
   |pan a=>exact .now ⟨.pan a,aD,h',nx',fr,q,ha,rfl⟩
 intro af k cs h1 h2;exact Ev.same (by rw[bz (m:=⟨{af with tm:=tm,todo:=.inLoop c ::k},cs,h,nx⟩) h1 rfl,bz (m:=⟨{af with tm:=tm,todo:=.code (.loop c) ::k},cs,h,nx⟩) h1 rfl];rfl)
  (Stop.not (fun i e=>by cases i<;>cases e) h1) (key n tm h nx hi af k cs h1 h2)
inductive Out where
 |ret (v:AV)
 |pan (a:AV)
noncomputable def HA(C:bP)(f:Nat):Option fq:=bif Nat.beq (Key.fP 12 f).toNat f then ag (Key.fP 12 f) C.fns else none
def Left(C:bP)(f:Nat)(fr:mB)(h1:T ah)(o:Out)(h':T ah):Prop:=fr.dfs=[]∧match o with
 |.ret v=>fr.mode=.ret∧∃l,resultsA h1 fr.tm fr.res=some l∧v=nM (cw (C.ma f) l h1).1∧h'=(cw (C.ma f) l h1).2
 |.pan a=>fr.mode=.pan a false∧h'=h1
def aCG(C:bP)(f:Nat)(R:Out→T ah→Key→Prop)(cs:List mB)(m:AM):Prop:=∃o h' nx' fr h1,R o h' nx'∧fr.fn=f∧fr.GG=false∧Left C f fr h1 o h'∧m=⟨fr,cs,h1,nx'⟩
def aJ(C:bP)(f:Nat)(l:List AV)(h:T ah)(nx:Key)(R:Out→T ah→Key→Prop):Prop:=
 (∃v h' nx',C.sum f l h nx=some (v,h',nx')∧R (.ret v) h' nx')∨
 (C.sum f l h nx=none∧∃p,HA C f=some p∧∀cs,Ev C (aCG C f R cs) ⟨ai f p l,cs,h,nx⟩)
theorem aJ.mono{f:Nat}{l:List AV}{R R':Out→T ah→Key→Prop}(hc:aJ C f l h nx R)(hr:∀o h nx,R o h nx→R' o h nx):aJ C f l h nx R':=by
 rcases hc with⟨v,h',nx',h1,h2⟩|⟨h1,p,h2,h3⟩
 ·exact .inl ⟨v,h',nx',h1,hr _ _ _ h2⟩
 ·refine .inr ⟨h1,p,h2,fun cs=>(h3 cs).mono ?_⟩;rintro m ⟨o,h',nx',fr,h1,q,r⟩;exact⟨o,h',nx',fr,h1,hr _ _ _ q,r⟩
def CT(C:bP)(f:Nat)(res:List RV)(R:Out→T ah→Key→Prop):cH:=fun e tm h nx=>match e with
 |.norm|.ret=>∃l,resultsA h tm res=some l∧R (.ret (nM (cw (C.ma f) l h).1)) (cw (C.ma f) l h).2 nx
 |.pan a=>R (.pan a) h nx
 |.exit _=>False
theorem aJ.acO{f:Nat}{p:fq}{l:List AV}{R:Out→T ah→Key→Prop}(hs:C.sum f l h nx=none)(hp:HA C f=some p)(hw:W C p.body (CT C f p.res R) (ic l .z .nil) h nx):aJ C f l h nx R:=by
 refine .inr ⟨hs,p,hp,fun cs=>(hw (ai f p l) [] cs rfl trivial).bind ?_⟩;rintro m ⟨e,aD,h',nx',fr,q,ha,rfl⟩;cases e with
 |norm=>cases ha;obtain⟨l1,hl,hr⟩:=q;exact .step (m':=⟨{ai f p l with tm:=aD,todo:=[],mode:=.ret},cs,h',nx'⟩) (bz rfl rfl) (.now ⟨_,_,nx',_,h',hr,rfl,rfl,⟨rfl,rfl,l1,hl,rfl,rfl⟩,rfl⟩)
 |ret=>obtain⟨t',rfl⟩:=ha;obtain⟨l1,hl,hr⟩:=q;exact .step (m':=⟨{ai f p l with tm:=aD,todo:=.code .ret ::t',mode:=.ret},cs,h',nx'⟩) (bz rfl rfl) (.now ⟨_,_,nx',_,h',hr,rfl,rfl,⟨rfl,rfl,l1,hl,rfl,rfl⟩,rfl⟩)
 |exit id=>exact q.elim
 |pan a=>cases ha;exact .now ⟨.pan a,h',nx',_,h',q,rfl,rfl,⟨rfl,rfl,rfl⟩,rfl⟩
theorem W.ops{l:List aC}(hw:WI C (.ops l) Q tm h nx):W C (.ops l) Q tm h nx:=
 WI.to (y:=.ops l) (fun _ _ _ _ _=>rfl) hw
theorem WI.asF{l:List aC}{aD:T AV}{h':T ah}{nx':Key}(hr:kJ C.orc l tm h nx=.fin aD h' nx')(hq:Q .norm aD h' nx'):WI C (.ops l) Q tm h nx:=by intro af k cs h1 h2;refine .step (m':=⟨{af with tm:=aD,todo:=k},cs,h',nx'⟩) (bz h1 ?_) (.now ⟨.norm,aD,h',nx',_,hq,rfl,rfl⟩);simp only[b9,hr]
theorem Xb{S:AM→Prop}{f:Nat}{args:List AV}{fr c:mB}{cs:List mB}{R:Out→T ah→Key→Prop}(hc:aJ C f (cw (C.raw f) args h).1 (cw (C.raw f) args h).2 nx R)
  (Qd:∀v,∃fR,cY v fr=some fR) (CR:fr.mode=.run) {m:AM} (hm:iI C m=jn C (.call f args) fr c cs h nx)
  (Gb:∀v h' nx' fR,R (.ret v) h' nx'→cY v fr=some fR→Ev C S ⟨fR,cs,h',nx'⟩)
  (aoT:∀a h' nx',R (.pan a) h' nx'→Ev C S ⟨{fr with mode:=.pan a false,todo:=[],tm:=(match fr.todo with|.staged _ d _ ::_=>Kx d.ds fr.tm (fun t=>t)|_=>fr.tm)},cs,h',nx'⟩):Ev C S m:=by
 rcases hc with⟨v,h',nx',hs,hr⟩|⟨hs,p,hp,eM⟩
 ·obtain⟨fR,hf⟩:=Qd v;refine .step (m':=⟨fR,cs,h',nx'⟩) ?_ (Gb v h' nx' fR hr hf);rw[hm];simp only[jn,yZ,hs,hf]
 ·have hen:iI C m=.next ⟨ai f p (cw (C.raw f) args h).1,fr ::cs,(cw (C.raw f) args h).2,nx⟩:=by rw[hm];simp only[jn,yZ,hs];unfold GH;have hp':(bif Nat.beq (Key.fP 12 f).toNat f then ag (Key.fP 12 f) C.fns else none)=some p:=hp;simp only[hp',DD];rfl
  refine .step hen ((eM (fr ::cs)).bind ?_);rintro m2 ⟨o,h',nx',I6,h1,hr,hfn,hdf,⟨hd,hL⟩,rfl⟩;cases o with
  |ret v=>obtain⟨MI,l,hl,rfl,rfl⟩:=hL;obtain⟨fR,hf⟩:=Qd (nM (cw (C.ma f) l h1).1);refine .step (m':=⟨fR,cs,(cw (C.ma f) l h1).2,nx'⟩) ?_ (Gb _ _ nx' fR hr hf);unfold iI;simp only[MI];unfold AU;simp only[hd,MI,hl,hfn,yZ];unfold L6;simp only[hdf,cond_false,hf]
  |pan a=>obtain⟨MI,rfl⟩:=hL;refine .step ?_ (aoT a h' nx' hr);unfold iI;simp only[MI];unfold AU;simp only[hd,MI,CR];rfl
theorem WI.aoU{l:List aC}{f:Nat}{args:List AV}{o:aC}{rest:List aC}{dc:T AV}{h1:T ah}{bw:Key}{R:Out→T ah→Key→Prop}(hr:kJ C.orc l tm h nx=.ev (.call f args) (o ::rest) dc h1 bw)
  (hc:aJ C f (cw (C.raw f) args h1).1 (cw (C.raw f) args h1).2 bw R)
  (Gb:∀v h2 bu,R (.ret v) h2 bu→WI C (.ops rest) Q (bV o.dst v dc) h2 bu)
  (aoT:∀a h2 bu,R (.pan a) h2 bu→Q (.pan a) dc h2 bu):WI C (.ops l) Q tm h nx:=by
 intro af k cs m1 m2;have fj:iI C ⟨{af with tm:=tm,todo:=.ops l ::k},cs,h,nx⟩=jn C (.call f args) {af with tm:=dc,todo:=.ops (o ::rest) ::k} {af with tm:=dc,todo:=[]} cs h1 bw:=by refine bz m1 ?_;simp only[b9,hr]
 have hfe:∀v,cY v {af with tm:=dc,todo:=.ops (o ::rest) ::k}=some {af with tm:=bV o.dst v dc,todo:=.ops rest ::k}:=fun v=>by simp only[cY,fp]
 refine Xb (fr:={af with tm:=dc,todo:=.ops (o ::rest) ::k}) (c:={af with tm:=dc,todo:=[]}) (cs:=cs) hc (fun v=>⟨_,hfe v⟩) m1 fj ?_ ?_
 ·intro v h' nx' fR hR hf;rw[hfe]at hf;cases hf;refine(Gb v h' nx' hR {af with tm:=bV o.dst v dc} k cs m1 m2).mono ?_;rintro m ⟨e2,tm2,hh2,bu,I6,q2,a2,t2⟩;refine⟨e2,tm2,hh2,bu,I6,q2,?_,t2⟩;cases e2<;>exact a2
 ·intro a h' nx' hR;exact .now ⟨.pan a,dc,h',nx',_,aoT a h' nx' hR,rfl,rfl⟩
theorem W.staged{l:List aN}{d:SD}(hw:WI C (.staged l d []) Q tm h nx):W C (.staged l d) Q tm h nx:=
 WI.to (y:=.staged l d []) (fun _ _ _ _ _=>rfl) hw
theorem W.both{l1 l2:List aN}{d1 d2:SD}(h1:WI C (.staged l1 d1 []) Q tm h nx)(h2:WI C (.staged l2 d2 []) Q tm h nx):W C (.both l1 d1 l2 d2) Q tm h nx:=by intro af k cs m1 m2;have to:∀{l:List aN} {d:SD},WI C (.staged l d []) Q tm h nx→Ev C (Stop Q af k cs) ⟨{af with tm:=tm,todo:=.staged l d [] ::k},cs,h,nx⟩:=fun hw=>hw af k cs m1 m2;exact .alt (bz m1 rfl) (to h1) (to h2)
theorem WI.axW{l:List aN}{d:SD}{av:List (Nat×Key×ah)}{aD:T AV}{h':T ah}{nx':Key}(hr:iH C.orc d.jK l av tm h nx=.fin aD h' nx')(hq:Q .norm aD h' nx'):WI C (.staged l d av) Q tm h nx:=by intro af k cs h1 h2;refine .step (m':=⟨{af with tm:=aD,todo:=k},cs,h',nx'⟩) (bz h1 ?_) (.now ⟨.norm,aD,h',nx',_,hq,rfl,rfl⟩);simp only[b9,hr]
theorem WI.asG{l:List aN}{d:SD}{av Db:List (Nat×Key×ah)}{f:Nat}{args:List AV}{i:Nat}{o:aC}{ad:List Nat}{rest:List aN}{dc:T AV}{h1:T ah}{bw:Key}{R:Out→T ah→Key→Prop}
  (hr:iH C.orc d.jK l av tm h nx=.ev (.call f args) (.H i o ad ::rest) Db dc h1 bw)
  (hc:aJ C f (cw (C.raw f) args h1).1 (cw (C.raw f) args h1).2 bw R)
  (Gb:∀v h2 bu,R (.ret v) h2 bu→WI C (.staged rest d Db) Q (bV o.dst v dc) h2 bu)
  (aoT:∀a h2 bu,R (.pan a) h2 bu→Q (.pan a) (ki d.ds dc) h2 bu):WI C (.staged l d av) Q tm h nx:=by
 intro af k cs m1 m2;have fj:iI C ⟨{af with tm:=tm,todo:=.staged l d av ::k},cs,h,nx⟩=jn C (.call f args) {af with tm:=dc,todo:=.staged (.H i o ad ::rest) d Db ::k} {af with tm:=ki d.ds dc,todo:=[]} cs h1 bw:=by refine bz m1 ?_;simp only[b9,hr,qa]
 have hfe:∀v,cY v {af with tm:=dc,todo:=.staged (.H i o ad ::rest) d Db ::k}=some {af with tm:=bV o.dst v dc,todo:=.staged rest d Db ::k}:=fun v=>by simp only[cY,fp]
 refine Xb (fr:={af with tm:=dc,todo:=.staged (.H i o ad ::rest) d Db ::k}) (c:={af with tm:=ki d.ds dc,todo:=[]}) (cs:=cs) hc (fun v=>⟨_,hfe v⟩) m1 fj ?_ ?_
 ·intro v h' nx' fR hR hf;rw[hfe]at hf;cases hf;refine(Gb v h' nx' hR {af with tm:=bV o.dst v dc} k cs m1 m2).mono ?_;rintro m ⟨e2,tm2,hh2,bu,I6,q2,a2,t2⟩;refine⟨e2,tm2,hh2,bu,I6,q2,?_,t2⟩;cases e2<;>exact a2
 ·intro a h' nx' hR;simp only[qa];exact .now ⟨.pan a,ki d.ds dc,h',nx',_,aoT a h' nx' hR,rfl,rfl⟩
theorem WI.asH{l:List aC}{a:AV}{rest:List aC}{dc:T AV}{h1:T ah}{bw:Key}(hr:kJ C.orc l tm h nx=.ev (.pan a) rest dc h1 bw)(hq:Q (.pan a) dc h1 bw):WI C (.ops l) Q tm h nx:=by intro af k cs m1 m2;refine .step (m':=⟨{af with tm:=dc,todo:=[],mode:=.pan a false},cs,h1,bw⟩) (bz m1 ?_) (.now ⟨.pan a,dc,h1,bw,_,hq,rfl,rfl⟩);simp only[b9,hr,jn]
noncomputable def asI:List Key→List AV→T AV→Option (T AV)
 | [],[],tm=>some tm
 |k ::l,v ::m,tm=>asI l m (aw k (some v) tm)
 |_,_,_=>none
theorem acQ{R:Type}:∀(l:List Key) (m:List AV) (tm:T AV) (bad:R) (c:T AV→R),XJ l m tm bad c=match asI l m tm with|some tm=>c tm|none=>bad
 | [],[],_,_,_=>rfl
 | [],_ ::_,_,_,_=>rfl
 |_ ::_,[],_,_,_=>rfl
 |k ::l,v ::m,tm,bad,c=>by show yL k (some v) tm (fun tm=>XJ l m tm bad c)=_;rw[sTCe];exact acQ l m _ bad c
def K9(R:Out→T ah→Key→Prop)(l:Key)(fn:Nat)(tm:T AV)(res:List RV)(ps:List Key)(a b:aK)(d:Key):cH:=fun e _ h nx=>(∃p,ag l h=some (.loop .busy p fn tm res ps a b d))∧match e with
 |.norm=>R (.ret (.bool true)) (aw l (some (.loop .ready none fn tm res ps a b d)) h) nx
 |.ret=>R (.ret (.bool false)) (aw l (some (.loop .done (some .ret) fn tm res ps a b d)) h) nx
 |.exit i=>R (.ret (.bool false)) (aw l (some (.loop .done (some (.exit i)) fn tm res ps a b d)) h) nx
 |.pan _=>False
def CI(C:bP)(l:Key)(args:List AV)(h:T ah)(nx:Key)(R:Out→T ah→Key→Prop):Prop:=
 ∃fn tm res ps a b d,(∃p,ag l h=some (.loop .ready p fn tm res ps a b d))∧∃dc,asI ps args tm=some dc∧
  W C a (fun e tm2 h2 bu=>e=.norm∧∃p,ag l h2=some (.loop .ready p fn tm res ps a b d)∧W C b (K9 R l fn tm res ps a b d) tm2 (aw l (some (.loop .busy p fn tm res ps a b d)) h2) bu) dc h nx
theorem HV{jump:Option aK}{fr c c':mB}{cs:List mB}{l:Key}{st:LS}{p:Option aK}{fn:Nat}{dc:T AV}{res:List RV}{ps:List Key}{a b:aK}{d:Key}(hr:fr.vm=some l)(hl:ag l h=some (.loop st p fn dc res ps a b d))
  (hf:cY (.bool (match jump with|none=>true|some _=>false)) c=some c'):KJ jump fr (c ::cs) h nx=.next ⟨c',cs,aw l (some (.loop (match jump with|none=>.ready|some _=>.done) jump fn dc res ps a b d)) h,nx⟩:=by
 unfold KJ;rw[hr];dsimp only;rw[hl];cases jump with
 |none=>have hf:cY (.bool true) c=some c':=hf;simp only[sTCe,hf]
 |some j=>have hf:cY (.bool false) c=some c':=hf;simp only[sTCe,hf]
theorem acR{S:AM→Prop}{l:Key}{args:List AV}{fr c:mB}{cs:List mB}{R:Out→T ah→Key→Prop}(hc:CI C l args h nx R)
  (Qd:∀v,∃fR,cY v fr=some fR) {m:AM} (hm:iI C m=jn C (.yld l args) fr c cs h nx)
  (Gb:∀v h' nx' fR,R (.ret v) h' nx'→cY v fr=some fR→Ev C S ⟨fR,cs,h',nx'⟩):Ev C S m:=by
 obtain⟨fn,tm,res,ps,a,b,d,⟨p,hl⟩,dc,hz,hw⟩:=hc;refine .step (m':=⟨{fn:=fn,tm:=dc,todo:=[.code a,.beginRound,.code b],dfs:=[],mode:=.run,GG:=false,vm:=some l,res:=res},fr ::cs,h,nx⟩) ?_ ?_
 ·rw[hm];simp only[jn,hl,acQ,hz]
 ·refine(hw {fn:=fn,tm:=dc,todo:=[],dfs:=[],mode:=.run,GG:=false,vm:=some l,res:=res} [.beginRound,.code b] (fr ::cs) rfl trivial).bind ?_;rintro m2 ⟨e,tm2,h2,bu,I6,⟨rfl,p2,WA,hw2⟩,ha,rfl⟩;cases ha;refine .step (m':=⟨{fn:=fn,tm:=tm2,todo:=[.code b],dfs:=[],mode:=.run,GG:=false,vm:=some l,res:=res},fr ::cs,aw l (some (.loop .busy p2 fn tm res ps a b d)) h2,bu⟩) (bz rfl ?_) ?_
  ·simp only[b9,WA,sTCe]
  ·refine(hw2 {fn:=fn,tm:=tm2,todo:=[],dfs:=[],mode:=.run,GG:=false,vm:=some l,res:=res} [] (fr ::cs) rfl trivial).bind ?_;rintro m3 ⟨e,Eu,h3,dZ,fr3,⟨⟨p3,XG⟩,q⟩,ha,rfl⟩;cases e with
   |norm=>cases ha;obtain⟨fR,hf⟩:=Qd (.bool true);refine .step (m':=⟨fR,cs,_,dZ⟩) (bz rfl ?_) (Gb _ _ dZ fR q hf);exact HV (jump:=none) (fr:={fn:=fn,tm:=Eu,todo:=[],dfs:=[],mode:=.run,GG:=false,vm:=some l,res:=res}) rfl XG hf
   |ret=>obtain⟨t,rfl⟩:=ha;obtain⟨fR,hf⟩:=Qd (.bool false);refine .step (m':=⟨fR,cs,_,dZ⟩) (bz rfl ?_) (Gb _ _ dZ fR q hf);exact HV (jump:=some .ret) (fr:={fn:=fn,tm:=Eu,todo:=.code .ret ::t,dfs:=[],mode:=.run,GG:=false,vm:=some l,res:=res}) rfl XG hf
   |exit i=>obtain⟨k2,hk,rfl⟩:=ha;obtain⟨fR,hf⟩:=Qd (.bool false);refine .step (m':=⟨fR,cs,_,dZ⟩) (bz rfl ?_) (Gb _ _ dZ fR q hf);have hk:mG i k2=none:=hk;simp only[b9,hk];exact HV (jump:=some (.exit i)) (fr:={fn:=fn,tm:=Eu,todo:=.code (.exit i) ::k2,dfs:=[],mode:=.run,GG:=false,vm:=some l,res:=res}) rfl XG hf
   |pan a=>exact q.elim
theorem WI.asJ{l:List aC}{lk:Key}{args:List AV}{o:aC}{rest:List aC}{dc:T AV}{h1:T ah}{bw:Key}{R:Out→T ah→Key→Prop}(hr:kJ C.orc l tm h nx=.ev (.yld lk args) (o ::rest) dc h1 bw)
  (hc:CI C lk args h1 bw R) (Gb:∀v h2 bu,R (.ret v) h2 bu→WI C (.ops rest) Q (bV o.dst v dc) h2 bu):WI C (.ops l) Q tm h nx:=by
 intro af k cs m1 m2;have fj:iI C ⟨{af with tm:=tm,todo:=.ops l ::k},cs,h,nx⟩=jn C (.yld lk args) {af with tm:=dc,todo:=.ops (o ::rest) ::k} {af with tm:=dc,todo:=[]} cs h1 bw:=by refine bz m1 ?_;simp only[b9,hr]
 have hfe:∀v,cY v {af with tm:=dc,todo:=.ops (o ::rest) ::k}=some {af with tm:=bV o.dst v dc,todo:=.ops rest ::k}:=fun v=>by simp only[cY,fp]
 refine acR (fr:={af with tm:=dc,todo:=.ops (o ::rest) ::k}) (c:={af with tm:=dc,todo:=[]}) (cs:=cs) hc (fun v=>⟨_,hfe v⟩) fj ?_;intro v h' nx' fR hR hf;rw[hfe]at hf;cases hf;refine(Gb v h' nx' hR {af with tm:=bV o.dst v dc} k cs m1 m2).mono ?_;rintro m ⟨e2,tm2,hh2,bu,I6,q2,a2,t2⟩;refine⟨e2,tm2,hh2,bu,I6,q2,?_,t2⟩;cases e2<;>exact a2
theorem WI.axX{l:List aN}{d:SD}{av Db:List (Nat×Key×ah)}{lk:Key}{args:List AV}{i:Nat}{o:aC}{ad:List Nat}{rest:List aN}{dc:T AV}{h1:T ah}{bw:Key}{R:Out→T ah→Key→Prop}
  (hr:iH C.orc d.jK l av tm h nx=.ev (.yld lk args) (.H i o ad ::rest) Db dc h1 bw)
  (hc:CI C lk args h1 bw R) (Gb:∀v h2 bu,R (.ret v) h2 bu→WI C (.staged rest d Db) Q (bV o.dst v dc) h2 bu):WI C (.staged l d av) Q tm h nx:=by
 intro af k cs m1 m2;have fj:iI C ⟨{af with tm:=tm,todo:=.staged l d av ::k},cs,h,nx⟩=jn C (.yld lk args) {af with tm:=dc,todo:=.staged (.H i o ad ::rest) d Db ::k} {af with tm:=ki d.ds dc,todo:=[]} cs h1 bw:=by refine bz m1 ?_;simp only[b9,hr,qa]
 have hfe:∀v,cY v {af with tm:=dc,todo:=.staged (.H i o ad ::rest) d Db ::k}=some {af with tm:=bV o.dst v dc,todo:=.staged rest d Db ::k}:=fun v=>by simp only[cY,fp]
 refine acR (fr:={af with tm:=dc,todo:=.staged (.H i o ad ::rest) d Db ::k}) (c:={af with tm:=ki d.ds dc,todo:=[]}) (cs:=cs) hc (fun v=>⟨_,hfe v⟩) fj ?_;intro v h' nx' fR hR hf;rw[hfe]at hf;cases hf;refine(Gb v h' nx' hR {af with tm:=bV o.dst v dc} k cs m1 m2).mono ?_;rintro m ⟨e2,tm2,hh2,bu,I6,q2,a2,t2⟩;refine⟨e2,tm2,hh2,bu,I6,q2,?_,t2⟩;cases e2<;>exact a2
end
end Go.Sx
namespace Go.Sx
def K(n:Nat):Key:=bif Nat.blt n 4095 then Key.fP 12 n else Key.fP n n
theorem r7:∀(f n:Nat),n+1<2^(f+1)→(Key.fP f n).toNat=n
 |0,n,h=>by
  have:n=0:=by omega
  subst this;rfl
 |f+1,n,h=>by
  unfold Key.fP;have hp:2^(f+1+1)=2*2^(f+1):=by rw[Nat.pow_succ,Nat.mul_comm]
  cases h0:Nat.beq n 0 with
  |true=>have:=o5 h0;subst this;rfl
  |false=>
   have hn:n≠0:=by intro e;subst e;cases h0
   simp only[cond_false];cases h1:Nat.beq (n%2) 1 with
   |true=>have h1:=o5 h1;simp only[cond_true,Key.toNat,r7 f (n / 2) (by omega)];omega
   |false=>
    have h1:n%2≠1:=by intro e;rw[e]at h1;cases h1
    simp only[cond_false,Key.toNat,r7 f (n / 2-1) (by omega)];omega
theorem Rf(n:Nat):(K n).toNat=n:=by
 unfold K;cases h:Nat.blt n 4095 with
 |true=>rw[bltN_eq,decide_eq_true_eq]at h;exact r7 12 n (by omega)
 |false=>refine r7 n n ?_;have:n+1<2^(n+1):=Nat.lt_two_pow_self;exact this
theorem aCC{i j:Nat}(h:K i=K j):i=j:=by rw[←Rf i,←Rf j,h]
theorem aw0(n:Nat):(K n).succ=K (n+1):=Key.toNat_inj (by rw[kTSu,Rf,Rf])
theorem get_set_K{α:Type}(i j:Nat)(v:Option α)(t:T α):ag (K i) (aw (K j) v t)=if i=j then v else ag (K i) t:=by
 by_cases h:i=j
 ·subst h;rw[if_pos rfl,gTSm]
 ·rw[if_neg h,aP _ _ _ _ (fun e=>h (aCC e))]
section
variable{orc:iV}{tm:T AV}{h:T ah}{nx:Key}
theorem at_t(k:Key):(PX.t k).at tm=ag k tm:=rfl
theorem at_v(a:AV):(PX.v a).at tm=some a:=rfl
theorem agB:kJ orc [] tm h nx=.fin tm h nx:=rfl
theorem putTm_some(k:Key)(v:AV):bV (some k) v tm=aw k (some v) tm:=rfl
theorem putTm_none(v:AV):bV none v tm=tm:=rfl
theorem wants_none:cD none tm=some true:=rfl
theorem wants_some(k:Key)(b:Bool):cD (some (k,b)) tm=match ag k tm with
  |some (.bool c)=>some (c==b)
  |some (.tuple [])=>some false
  |_=>none:=rfl
theorem ltI_dec(a b:Int):Wm a b=decide (a<b):=Oz a b
theorem aO{n:Int}(h1:-9223372036854775808≤n)(h2:n<9223372036854775808):bD .i64 n=n:=by
 rw[eK];have:IntKind.wrap .i64 n=n:=by
  rw[←eK];simp only[bD,full,half,Oz];have h3:Int.emod n 18446744073709551616=n%18446744073709551616:=rfl;rw[h3];by_cases h0:0≤n
  ·rw[show n%18446744073709551616=n by omega];have:decide (n<9223372036854775808)=true:=by simpa using h2
   rw[this];rfl
  ·rw[show n%18446744073709551616=n+18446744073709551616 by omega];have:decide (n+18446744073709551616<9223372036854775808)=false:=by simp;omega
   rw[this];show n+18446744073709551616-18446744073709551616=n;omega
 exact this
end
end Go.Sx
namespace Go.Sx
open Go.RowKit
def wpG(t:Option Bool)(A B:Prop):Prop:=match t with
 |none=>False
 |some t=>(t=true→A)∧(t=false→B)
noncomputable def qy(C:bP)(Q:cH):List aC→T AV→T ah→Key→Prop
 | [],tm,h,nx=>Q .norm tm h nx
 |o ::l,tm,h,nx=>wpG (cD o.guard tm)
   (match aOp C.orc o.op tm h nx with
   |.val v h nx=>qy C Q l (bV o.dst v tm) h nx
   |.call f args=>aJ C f (cw (C.raw f) args h).1 (cw (C.raw f) args h).2 nx (fun out h nx=>match out with
    |.ret v=>qy C Q l (bV o.dst v tm) h nx
    |.pan a=>Q (.pan a) tm h nx)
   |.yld k args=>CI C k args h nx (fun out h nx=>match out with
    |.ret v=>qy C Q l (bV o.dst v tm) h nx
    |.pan a=>Q (.pan a) tm h nx)
   |.pan a=>Q (.pan a) tm h nx
   |_=>False)
   (qy C Q l (bV o.dst (.tuple []) tm) h nx)
noncomputable def wpS(C:bP)(Q:cH)(d:SD):List aN→List (Nat×Key×ah)→T AV→T ah→Key→Prop
 | [],av,tm,h,nx=>Q .norm tm (dq av h) nx
 |.L i o ::l,av,tm,h,nx=>wpG (cD o.guard tm)
   (match lightOp C.orc o.op tm (zj (FO i d.jK) av h)with
   |some v=>wpS C Q d l av (bV o.dst v tm) h nx
   |none=>False)
   (wpS C Q d l av (bV o.dst (.tuple []) tm) h nx)
 |.A i o ::l,av,tm,h,nx=>wpG (cD o.guard tm)
   (match allocOp o.op tm with
   |some (v,b)=>wpS C Q d l ((i,nx,b) ::av) (bV o.dst (v nx) tm) h nx.succ
   |none=>False)
   (wpS C Q d l av (bV o.dst (.tuple []) tm) h nx)
 |.H i o ad ::l,av,tm,h,nx=>wpG (cD o.guard tm)
   (match aOp C.orc o.op tm (dq (av.filter fun x=>memN x.1 ad) h) nx with
   |.val v h nx=>wpS C Q d l (av.filter fun x=>!(memN x.1 ad)) (bV o.dst v tm) h nx
   |.call f args=>aJ C f (cw (C.raw f) args (dq (av.filter fun x=>memN x.1 ad) h)).1 (cw (C.raw f) args (dq (av.filter fun x=>memN x.1 ad) h)).2 nx (fun out h nx=>match out with
    |.ret v=>wpS C Q d l (av.filter fun x=>!(memN x.1 ad)) (bV o.dst v tm) h nx
    |.pan a=>Q (.pan a) (ki d.ds tm) h nx)
   |.yld k args=>CI C k args (dq (av.filter fun x=>memN x.1 ad) h) nx (fun out h nx=>match out with
    |.ret v=>wpS C Q d l (av.filter fun x=>!(memN x.1 ad)) (bV o.dst v tm) h nx
    |.pan a=>Q (.pan a) (ki d.ds tm) h nx)
   |.pan a=>Q (.pan a) (ki d.ds tm) (dq (av.filter fun x=>memN x.1 ad) h) nx
   |_=>False)
   (wpS C Q d l (av.filter fun x=>!(memN x.1 ad)) (bV o.dst (.tuple []) tm) (dq (av.filter fun x=>memN x.1 ad) h) nx)
 |.R os ::l,av,tm,h,nx=>recheck C.orc d.jK av tm h os=true∧wpS C Q d l av tm h nx
def aW(W:T AV→T ah→Key→Prop)(Q:cH):cH:=fun e tm h nx=>match e with
 |.norm=>W tm h nx
 |e=>Q e tm h nx
def aG(id:Nat)(Q:cH):cH:=fun e tm h nx=>match e with
 |.exit j=>if j=id then Q .norm tm h nx else Q (.exit j) tm h nx
 |e=>Q e tm h nx
noncomputable def iT(C:bP):aK→cH→T AV→T ah→Key→Prop
 |.skip,Q,tm,h,nx=>Q .norm tm h nx
 |.ops l,Q,tm,h,nx=>qy C Q l tm h nx
 |.staged l d,Q,tm,h,nx=>wpS C Q d l [] tm h nx
 |.both l1 d1 l2 d2,Q,tm,h,nx=>wpS C Q d1 l1 [] tm h nx∧wpS C Q d2 l2 [] tm h nx
 |.seq a b,Q,tm,h,nx=>iT C a (aW (iT C b Q) Q) tm h nx
 |.cond x a b,Q,tm,h,nx=>match x.at tm with
  |some (.bool t)=>(t=true→iT C a Q tm h nx)∧(t=false→iT C b Q tm h nx)
  |_=>False
 |.block id c,Q,tm,h,nx=>iT C c (aG id Q) tm h nx
 |.loop c,Q,tm,h,nx=>W C (.loop c) Q tm h nx
 |.rangeF f ps a b,Q,tm,h,nx=>W C (.rangeF f ps a b) Q tm h nx
 |.exit id,Q,tm,h,nx=>Q (.exit id) tm h nx
 |.ret,Q,tm,h,nx=>Q .ret tm h nx
section
variable{C:bP}{Q:cH}
theorem WI.same{x y:de}{tm tm2:T AV}{h h2:T ah}{nx bu:Key}(hy:∀i,y≠.code (Lv i))(hs:∀(af:mB) (k:List de) (cs:List mB),af.mode=.run→b9 C {af with tm:=tm,todo:=x ::k} cs h nx=b9 C {af with tm:=tm2,todo:=y ::k} cs h2 bu)
  (hw:WI C y Q tm2 h2 bu):WI C x Q tm h nx:=by
 intro af k cs h1 Nq;exact Ev.same (by rw[bz (m:=⟨{af with tm:=tm2,todo:=y ::k},cs,h2,bu⟩) h1 rfl,bz (m:=⟨{af with tm:=tm,todo:=x ::k},cs,h,nx⟩) h1 rfl];exact hs af k cs h1)
  (Stop.not hy h1) (hw af k cs h1 Nq)
theorem Dc:∀{l:List aC} {tm:T AV} {h:T ah} {nx:Key},qy C Q l tm h nx→WI C (.ops l) Q tm h nx
 | [],tm,h,nx,hw=>WI.asF agB hw
 |o ::l,tm,h,nx,hw=>by
  unfold qy at hw;cases hg:cD o.guard tm with
  |none=>rw[hg]at hw;exact hw.elim
  |some t=>
   rw[hg]at hw;have J3:∀{tm2:T AV} {h2:T ah} {bu:Key},kJ C.orc (o ::l) tm h nx=kJ C.orc l tm2 h2 bu→qy C Q l tm2 h2 bu→WI C (.ops (o ::l)) Q tm h nx:=by intro tm2 h2 bu he hw2;refine WI.same (y:=.ops l) (fun i e=>by cases i<;>cases e) ?_ (Dc hw2);intro af k cs _;show(match kJ C.orc (o ::l) tm h nx with|.fin tm h nx=>_|.ev r rest tm h nx=>_)=(match kJ C.orc l tm2 h2 bu with|.fin tm h nx=>_|.ev r rest tm h nx=>_);rw[he]
   cases t with
   |false=>refine J3 ?_ (hw.2 rfl);rw[qs,hg];simp only[fp]
   |true=>
    have hw:=hw.1 rfl;cases ha:aOp C.orc o.op tm h nx with
    |val v h' nx'=>rw[ha]at hw;refine J3 ?_ hw;rw[qs,hg,ha];simp only[fp]
    |call f args=>rw[ha]at hw;refine WI.aoU (by rw[qs,hg,ha]) hw (fun v h2 bu hr=>Dc hr) (fun a h2 bu hr=>hr)
    |pan a=>rw[ha]at hw;exact WI.asH (by rw[qs,hg,ha]) hw
    |yld k args=>rw[ha]at hw;exact WI.asJ (by rw[qs,hg,ha]) hw (fun v h2 bu hr=>Dc hr)
    |dfr f args=>rw[ha]at hw;exact hw.elim
    |recover=>rw[ha]at hw;exact hw.elim
    |bad n=>rw[ha]at hw;exact hw.elim
theorem uJ{d:SD}:∀{l:List aN} {av:List (Nat×Key×ah)} {tm:T AV} {h:T ah} {nx:Key},wpS C Q d l av tm h nx→WI C (.staged l d av) Q tm h nx
 | [],av,tm,h,nx,hw=>WI.axW (by show GQ av h (fun h=>RS.fin tm h nx)=_;rw[HW]) hw
 |x ::l,av,tm,h,nx,hw=>by
  have J3:∀{pend2:List (Nat×Key×ah)} {tm2:T AV} {h2:T ah} {bu:Key},iH C.orc d.jK (x ::l) av tm h nx=iH C.orc d.jK l pend2 tm2 h2 bu→wpS C Q d l pend2 tm2 h2 bu→WI C (.staged (x ::l) d av) Q tm h nx:=by intro pend2 tm2 h2 bu he hw2;refine WI.same (y:=.staged l d pend2) (fun i e=>by cases i<;>cases e) ?_ (uJ hw2);intro af k cs _;show(match iH C.orc d.jK (x ::l) av tm h nx with|.fin tm h nx=>_|.ev r rest av tm h nx=>_)=(match iH C.orc d.jK l pend2 tm2 h2 bu with|.fin tm h nx=>_|.ev r rest av tm h nx=>_);rw[he]
  cases x with
  |L i o=>
   unfold wpS at hw;cases hg:cD o.guard tm with
   |none=>rw[hg]at hw;exact hw.elim
   |some t=>
    rw[hg]at hw;cases t with
    |false=>refine J3 ?_ (hw.2 rfl);rw[Y7,hg];simp only[fp]
    |true=>
     have hw:=hw.1 rfl;cases hl:lightOp C.orc o.op tm (zj (FO i d.jK) av h)with
     |none=>rw[hl]at hw;exact hw.elim
     |some v=>rw[hl]at hw;refine J3 ?_ hw;rw[Y7,hg,hl];simp only[fp]
  |A i o=>
   unfold wpS at hw;cases hg:cD o.guard tm with
   |none=>rw[hg]at hw;exact hw.elim
   |some t=>
    rw[hg]at hw;cases t with
    |false=>refine J3 ?_ (hw.2 rfl);rw[Y8,hg];simp only[fp]
    |true=>
     have hw:=hw.1 rfl;cases hl:allocOp o.op tm with
     |none=>rw[hl]at hw;exact hw.elim
     |some vb=>obtain⟨v,b⟩:=vb;rw[hl]at hw;refine J3 ?_ hw;rw[Y8,hg,hl];simp only[fp]
  |H i o ad=>
   unfold wpS at hw;cases hg:cD o.guard tm with
   |none=>rw[hg]at hw;exact hw.elim
   |some t=>
    rw[hg]at hw;cases t with
    |false=>refine J3 ?_ (hw.2 rfl);rw[Y9,zT,hg];simp only[fp]
    |true=>
     have hw:=hw.1 rfl;have eM:iH C.orc d.jK (.H i o ad ::l) av tm h nx=(match aOp C.orc o.op tm (dq (av.filter fun x=>memN x.1 ad) h) nx with
       |.val v h nx=>zi o.dst (some v) tm fun tm=>iH C.orc d.jK l (av.filter fun x=>!(memN x.1 ad)) tm h nx
       |r=>.ev r (.H i o ad ::l) (av.filter fun x=>!(memN x.1 ad)) tm (dq (av.filter fun x=>memN x.1 ad) h) nx):=by
      rw[Y9,zT,hg];rfl
     cases ha:aOp C.orc o.op tm (dq (av.filter fun x=>memN x.1 ad) h) nx with
     |val v h' nx'=>rw[ha]at hw eM;refine J3 ?_ hw;rw[eM];simp only[fp]
     |call f args=>rw[ha]at hw eM;exact WI.asG eM hw (fun v h2 bu hr=>uJ hr) (fun a h2 bu hr=>hr)
     |pan a=>rw[ha]at hw eM;intro af k cs m1 m2;refine .step (m':=⟨{af with tm:=ki d.ds tm,todo:=[],mode:=.pan a false},cs,_,nx⟩) (bz m1 ?_) (.now ⟨.pan a,ki d.ds tm,_,nx,_,hw,rfl,rfl⟩);simp only[b9,eM,qa,jn]
     |yld k args=>rw[ha]at hw eM;exact WI.axX eM hw (fun v h2 bu hr=>uJ hr)
     |dfr f args=>rw[ha]at hw;exact hw.elim
     |recover=>rw[ha]at hw;exact hw.elim
     |bad n=>rw[ha]at hw;exact hw.elim
  |R os=>unfold wpS at hw;refine J3 ?_ hw.2;rw[Yn,hw.1];rfl
theorem mR:∀{c:aK} {Q:cH} {tm:T AV} {h:T ah} {nx:Key},iT C c Q tm h nx→W C c Q tm h nx
 |.skip,Q,tm,h,nx,hw=>W.skip hw
 |.ops l,Q,tm,h,nx,hw=>W.ops (Dc hw)
 |.staged l d,Q,tm,h,nx,hw=>W.staged (uJ hw)
 |.both l1 d1 l2 d2,Q,tm,h,nx,hw=>W.both (uJ hw.1) (uJ hw.2)
 |.seq a b,Q,tm,h,nx,hw=>by
  have hw:iT C a (aW (iT C b Q) Q) tm h nx:=hw;refine W.seq ((mR hw).mono fun e tm h nx hq=>?_);cases e with
  |norm=>exact mR hq
  |_=>exact hq
 |.cond x a b,Q,tm,h,nx,hw=>by
  unfold iT at hw;split at hw
  ·rename_i t hx;refine W.cond hx ?_;cases t with
   |true=>exact mR (hw.1 rfl)
   |false=>exact mR (hw.2 rfl)
  ·exact hw.elim
 |.block id c,Q,tm,h,nx,hw=>by
  have hw:iT C c (aG id Q) tm h nx:=hw;refine W.block ((mR hw).mono fun e tm h nx hq=>?_);cases e with
  |exit j=>exact hq
  |_=>exact hq
 |.loop c,Q,tm,h,nx,hw=>hw
 |.rangeF f ps a b,Q,tm,h,nx,hw=>hw
 |.exit id,Q,tm,h,nx,hw=>W.exit hw
 |.ret,Q,tm,h,nx,hw=>W.ret hw
theorem aJ.of_wp{f:Nat}{p:fq}{l:List AV}{h:T ah}{nx:Key}{R:Out→T ah→Key→Prop}(hs:C.sum f l h nx=none)(hp:HA C f=some p)(hw:iT C p.body (CT C f p.res R) (ic l .z .nil) h nx):aJ C f l h nx R:=
 aJ.acO hs hp (mR hw)
end
end Go.Sx
namespace Go.Sx
noncomputable def A(b:Key):Nat→Key
 |0=>b
 |i+1=>(A b i).succ
theorem ahA(b:Key):∀i,(A b i).toNat=b.toNat+i
 |0=>rfl
 |i+1=>by simp only[A,kTSu,ahA b i];omega
@[simp] theorem aIM(b:Key)(i:Nat):(A b i).succ=A b (i+1):=rfl
@[simp] theorem ayW{α:Type}(b:Key)(i j:Nat)(v:Option α)(t:T α):ag (A b i) (aw (A b j) v t)=if i=j then v else ag (A b i) t:=by
 by_cases h:i=j
 ·subst h;rw[if_pos rfl,gTSm]
 ·rw[if_neg h,aP];intro e;have:=congrArg Key.toNat e;simp only[ahA]at this;omega
theorem aa6{α:Type}{b:Key}{c:Key}(v:Option α)(t:T α)(h:b.toNat<c.toNat):ag b (aw c v t)=ag b t:=
 aP _ _ _ _ (fun e=>by rw[e]at h;exact absurd h (Nat.lt_irrefl _))
attribute [simp] get_set_K at_t at_v putTm_some putTm_none wants_none wants_some okV sTCe
@[simp] theorem qD(W:T AV→T ah→Key→Prop)(Q:cH)(tm:T AV)(h:T ah)(nx:Key):aW W Q .norm tm h nx=W tm h nx:=propext Iff.rfl
@[simp] theorem aub(W:T AV→T ah→Key→Prop)(Q:cH)(tm:T AV)(h:T ah)(nx:Key):aW W Q .ret tm h nx=Q .ret tm h nx:=propext Iff.rfl
@[simp] theorem ard(W:T AV→T ah→Key→Prop)(Q:cH)(i:Nat)(tm:T AV)(h:T ah)(nx:Key):aW W Q (.exit i) tm h nx=Q (.exit i) tm h nx:=propext Iff.rfl
@[simp] theorem auc(W:T AV→T ah→Key→Prop)(Q:cH)(a:AV)(tm:T AV)(h:T ah)(nx:Key):aW W Q (.pan a) tm h nx=Q (.pan a) tm h nx:=propext Iff.rfl
@[simp] theorem amZ(j:Nat)(Q:cH)(tm:T AV)(h:T ah)(nx:Key):aG j Q .norm tm h nx=Q .norm tm h nx:=propext Iff.rfl
@[simp] theorem apL(j:Nat)(Q:cH)(tm:T AV)(h:T ah)(nx:Key):aG j Q .ret tm h nx=Q .ret tm h nx:=propext Iff.rfl
@[simp] theorem am0(j:Nat)(Q:cH)(i:Nat)(tm:T AV)(h:T ah)(nx:Key):aG j Q (.exit i) tm h nx=if i=j then Q .norm tm h nx else Q (.exit i) tm h nx:=propext Iff.rfl
@[simp] theorem apM(j:Nat)(Q:cH)(a:AV)(tm:T AV)(h:T ah)(nx:Key):aG j Q (.pan a) tm h nx=Q (.pan a) tm h nx:=propext Iff.rfl
theorem yC{p q:Prop}(h:p↔q):p=q:=propext h
section
variable(C:bP)(Q:cH)(tm:T AV)(h:T ah)(nx:Key)(d:SD)(av:List (Nat×Key×ah))
@[simp] theorem aa7(t:Bool)(A B:Prop):wpG (some t) A B=((t=true→A)∧(t=false→B)):=yC Iff.rfl
@[simp] theorem aBc(A B:Prop):wpG none A B=False:=yC Iff.rfl
@[simp] theorem aBd:iT C .skip Q tm h nx=Q .norm tm h nx:=yC Iff.rfl
@[simp] theorem fo(l:List aC):iT C (.ops l) Q tm h nx=qy C Q l tm h nx:=yC Iff.rfl
@[simp] theorem jQ(l:List aN)(d:SD):iT C (.staged l d) Q tm h nx=wpS C Q d l [] tm h nx:=yC Iff.rfl
@[simp] theorem aBe(l1 l2:List aN)(d1 d2:SD):iT C (.both l1 d1 l2 d2) Q tm h nx=(wpS C Q d1 l1 [] tm h nx∧wpS C Q d2 l2 [] tm h nx):=yC Iff.rfl
@[simp] theorem dO(a b:aK):iT C (.seq a b) Q tm h nx=iT C a (aW (iT C b Q) Q) tm h nx:=yC Iff.rfl
@[simp] theorem vk(x:PX)(a b:aK):iT C (.cond x a b) Q tm h nx=(match x.at tm with
  |some (.bool t)=>(t=true→iT C a Q tm h nx)∧(t=false→iT C b Q tm h nx)
  |_=>False):=yC Iff.rfl
@[simp] theorem jl(id:Nat)(c:aK):iT C (.block id c) Q tm h nx=iT C c (aG id Q) tm h nx:=yC Iff.rfl
@[simp] theorem aBf(c:aK):iT C (.loop c) Q tm h nx=W C (.loop c) Q tm h nx:=yC Iff.rfl
@[simp] theorem aBg(id:Nat):iT C (.exit id) Q tm h nx=Q (.exit id) tm h nx:=yC Iff.rfl
@[simp] theorem aD4:iT C .ret Q tm h nx=Q .ret tm h nx:=yC Iff.rfl
@[simp] theorem aqJ:qy C Q [] tm h nx=Q .norm tm h nx:=yC Iff.rfl
def KO(o:aC)(l:List aC):Out→T ah→Key→Prop:=fun out h nx=>match out with
 |.ret v=>qy C Q l (bV o.dst v tm) h nx
 |.pan a=>Q (.pan a) tm h nx
def KS(o:aC)(l:List aN):Out→T ah→Key→Prop:=fun out h nx=>match out with
 |.ret v=>wpS C Q d l av (bV o.dst v tm) h nx
 |.pan a=>Q (.pan a) (ki d.ds tm) h nx
@[simp] theorem aIN(o:aC)(l:List aC)(v:AV):KO C Q tm o l (.ret v) h nx=qy C Q l (bV o.dst v tm) h nx:=yC Iff.rfl
@[simp] theorem aIO(o:aC)(l:List aC)(a:AV):KO C Q tm o l (.pan a) h nx=Q (.pan a) tm h nx:=yC Iff.rfl
@[simp] theorem aIP(o:aC)(l:List aN)(v:AV):KS C Q tm d av o l (.ret v) h nx=wpS C Q d l av (bV o.dst v tm) h nx:=yC Iff.rfl
@[simp] theorem aIQ(o:aC)(l:List aN)(a:AV):KS C Q tm d av o l (.pan a) h nx=Q (.pan a) (ki d.ds tm) h nx:=yC Iff.rfl
def Vl(o:aC)(l:List aC)(t:Option Bool):Prop:=wpG t
   (match aOp C.orc o.op tm h nx with
   |.val v h nx=>qy C Q l (bV o.dst v tm) h nx
   |.call f args=>aJ C f (cw (C.raw f) args h).1 (cw (C.raw f) args h).2 nx (KO C Q tm o l)
   |.yld k args=>CI C k args h nx (KO C Q tm o l)
   |.pan a=>Q (.pan a) tm h nx
   |_=>False)
   (qy C Q l (bV o.dst (.tuple []) tm) h nx)
@[simp] theorem aam(o:aC)(l:List aC):qy C Q (o ::l) tm h nx=Vl C Q tm h nx o l (cD o.guard tm):=yC (by rw[qy];exact Iff.rfl)
@[simp] theorem Wt(o:aC)(l:List aC):Vl C Q tm h nx o l (some true)=(match aOp C.orc o.op tm h nx with
   |.val v h nx=>qy C Q l (bV o.dst v tm) h nx
   |.call f args=>aJ C f (cw (C.raw f) args h).1 (cw (C.raw f) args h).2 nx (KO C Q tm o l)
   |.yld k args=>CI C k args h nx (KO C Q tm o l)
   |.pan a=>Q (.pan a) tm h nx
   |_=>False):=by simp[Vl]
@[simp] theorem awB(o:aC)(l:List aC):Vl C Q tm h nx o l (some false)=qy C Q l (bV o.dst (.tuple []) tm) h nx:=by simp[Vl]
@[simp] theorem ayX(o:aC)(l:List aC):Vl C Q tm h nx o l none=False:=by simp[Vl]
@[simp low] theorem aBh(o:aC)(l:List aC)(t:Bool):Vl C Q tm h nx o l (some t)=((t=true→Vl C Q tm h nx o l (some true))∧(t=false→Vl C Q tm h nx o l (some false))):=by cases t<;>simp
@[simp] theorem aD5:wpS C Q d [] av tm h nx=Q .norm tm (dq av h) nx:=yC Iff.rfl
def Vm(i:Nat)(o:aC)(l:List aN)(t:Option Bool):Prop:=wpG t
   (match lightOp C.orc o.op tm (zj (FO i d.jK) av h)with
   |some v=>wpS C Q d l av (bV o.dst v tm) h nx
   |none=>False)
   (wpS C Q d l av (bV o.dst (.tuple []) tm) h nx)
@[simp] theorem aNK(i:Nat)(o:aC)(l:List aN):wpS C Q d (.L i o ::l) av tm h nx=Vm C Q tm h nx d av i o l (cD o.guard tm):=yC (by rw[wpS];exact Iff.rfl)
@[simp] theorem ayY(i:Nat)(o:aC)(l:List aN):Vm C Q tm h nx d av i o l (some true)=(match lightOp C.orc o.op tm (zj (FO i d.jK) av h)with
   |some v=>wpS C Q d l av (bV o.dst v tm) h nx
   |none=>False):=by simp[Vm]
@[simp] theorem awC(i:Nat)(o:aC)(l:List aN):Vm C Q tm h nx d av i o l (some false)=wpS C Q d l av (bV o.dst (.tuple []) tm) h nx:=by simp[Vm]
@[simp] theorem ayZ(i:Nat)(o:aC)(l:List aN):Vm C Q tm h nx d av i o l none=False:=by simp[Vm]
@[simp low] theorem aBi(i:Nat)(o:aC)(l:List aN)(t:Bool):Vm C Q tm h nx d av i o l (some t)=((t=true→Vm C Q tm h nx d av i o l (some true))∧(t=false→Vm C Q tm h nx d av i o l (some false))):=by cases t<;>simp
def Vn(i:Nat)(o:aC)(l:List aN)(t:Option Bool):Prop:=wpG t
   (match allocOp o.op tm with
   |some (v,b)=>wpS C Q d l ((i,nx,b) ::av) (bV o.dst (v nx) tm) h nx.succ
   |none=>False)
   (wpS C Q d l av (bV o.dst (.tuple []) tm) h nx)
@[simp] theorem aNL(i:Nat)(o:aC)(l:List aN):wpS C Q d (.A i o ::l) av tm h nx=Vn C Q tm h nx d av i o l (cD o.guard tm):=yC (by rw[wpS];exact Iff.rfl)
@[simp] theorem ay0(i:Nat)(o:aC)(l:List aN):Vn C Q tm h nx d av i o l (some true)=(match allocOp o.op tm with
   |some (v,b)=>wpS C Q d l ((i,nx,b) ::av) (bV o.dst (v nx) tm) h nx.succ
   |none=>False):=by simp[Vn]
@[simp] theorem awD(i:Nat)(o:aC)(l:List aN):Vn C Q tm h nx d av i o l (some false)=wpS C Q d l av (bV o.dst (.tuple []) tm) h nx:=by simp[Vn]
@[simp] theorem ay1(i:Nat)(o:aC)(l:List aN):Vn C Q tm h nx d av i o l none=False:=by simp[Vn]
@[simp low] theorem aBj(i:Nat)(o:aC)(l:List aN)(t:Bool):Vn C Q tm h nx d av i o l (some t)=((t=true→Vn C Q tm h nx d av i o l (some true))∧(t=false→Vn C Q tm h nx d av i o l (some false))):=by cases t<;>simp
def Vo(o:aC)(ad:List Nat)(l:List aN)(t:Option Bool):Prop:=wpG t
   (match aOp C.orc o.op tm (dq (av.filter fun x=>memN x.1 ad) h) nx with
   |.val v h nx=>wpS C Q d l (av.filter fun x=>!(memN x.1 ad)) (bV o.dst v tm) h nx
   |.call f args=>aJ C f (cw (C.raw f) args (dq (av.filter fun x=>memN x.1 ad) h)).1 (cw (C.raw f) args (dq (av.filter fun x=>memN x.1 ad) h)).2 nx (KS C Q tm d (av.filter fun x=>!(memN x.1 ad)) o l)
   |.yld k args=>CI C k args (dq (av.filter fun x=>memN x.1 ad) h) nx (KS C Q tm d (av.filter fun x=>!(memN x.1 ad)) o l)
   |.pan a=>Q (.pan a) (ki d.ds tm) (dq (av.filter fun x=>memN x.1 ad) h) nx
   |_=>False)
   (wpS C Q d l (av.filter fun x=>!(memN x.1 ad)) (bV o.dst (.tuple []) tm) (dq (av.filter fun x=>memN x.1 ad) h) nx)
@[simp] theorem aNM(i:Nat)(o:aC)(ad:List Nat)(l:List aN):wpS C Q d (.H i o ad ::l) av tm h nx=Vo C Q tm h nx d av o ad l (cD o.guard tm):=yC (by rw[wpS];exact Iff.rfl)
@[simp] theorem ay2(o:aC)(ad:List Nat)(l:List aN):Vo C Q tm h nx d av o ad l (some true)=(match aOp C.orc o.op tm (dq (av.filter fun x=>memN x.1 ad) h) nx with
   |.val v h nx=>wpS C Q d l (av.filter fun x=>!(memN x.1 ad)) (bV o.dst v tm) h nx
   |.call f args=>aJ C f (cw (C.raw f) args (dq (av.filter fun x=>memN x.1 ad) h)).1 (cw (C.raw f) args (dq (av.filter fun x=>memN x.1 ad) h)).2 nx (KS C Q tm d (av.filter fun x=>!(memN x.1 ad)) o l)
   |.yld k args=>CI C k args (dq (av.filter fun x=>memN x.1 ad) h) nx (KS C Q tm d (av.filter fun x=>!(memN x.1 ad)) o l)
   |.pan a=>Q (.pan a) (ki d.ds tm) (dq (av.filter fun x=>memN x.1 ad) h) nx
   |_=>False):=by unfold Vo;simp only[aa7,true_implies,Bool.true_eq_false,false_implies,and_true]
@[simp] theorem awE(o:aC)(ad:List Nat)(l:List aN):Vo C Q tm h nx d av o ad l (some false)=wpS C Q d l (av.filter fun x=>!(memN x.1 ad)) (bV o.dst (.tuple []) tm) (dq (av.filter fun x=>memN x.1 ad) h) nx:=by unfold Vo;simp only[aa7,true_implies,Wh,false_implies,true_and]
@[simp] theorem ay3(o:aC)(ad:List Nat)(l:List aN):Vo C Q tm h nx d av o ad l none=False:=by simp[Vo]
@[simp low] theorem aBk(o:aC)(ad:List Nat)(l:List aN)(t:Bool):Vo C Q tm h nx d av o ad l (some t)=((t=true→Vo C Q tm h nx d av o ad l (some true))∧(t=false→Vo C Q tm h nx d av o ad l (some false))):=by cases t<;>simp only[true_implies,Bool.true_eq_false,Wh,false_implies,and_true,true_and]
@[simp] theorem aNN(os:List (Nat×aC))(l:List aN):wpS C Q d (.R os ::l) av tm h nx=(recheck C.orc d.jK av tm h os=true∧wpS C Q d l av tm h nx):=yC (by rw[wpS])
@[simp] theorem awF:dq [] h=h:=rfl
@[simp] theorem aud(x:Nat×Key×ah)(p:List (Nat×Key×ah)):dq (x ::p) h=dq p (aw x.2.1 (some x.2.2) h):=rfl
@[simp] theorem aue(orc:iV)(jK:List (Nat×List Nat)):recheck orc jK av tm h []=true:=rfl
@[simp] theorem arf(orc:iV)(jK:List (Nat×List Nat))(i:Nat)(o:aC)(l:List (Nat×aC)):recheck orc jK av tm h ((i,o) ::l)=(match cD o.guard tm with
  |some false=>match o.dst with
   |none=>false
   |some d=>match ag d tm with
    |some (.tuple [])=>recheck orc jK av tm h l
    |_=>false
  |some true=>match o.dst with
   |none=>false
   |some d=>match ag d tm,lightOp orc o.op tm (zj (FO i jK) av h)with
    |some v,some u=>bif AV.beq v u then recheck orc jK av tm h l else false
    |_,_=>false
  |none=>false):=rfl
end
attribute [simp] memN
def fQ(res:List RV)(R:Out→T ah→Key→Prop):cH:=fun e tm h nx=>match e with
 |.norm|.ret=>∃l,resultsA h tm res=some l∧R (.ret (nM (bA (aS 9999) l h).1)) (bA (aS 9999) l h).2 nx
 |.pan a=>R (.pan a) h nx
 |.exit _=>False
theorem aJ.of{C:bP}{f:Nat}{p:fq}{l:List AV}{h:T ah}{nx:Key}{R:Out→T ah→Key→Prop}(hs:C.sum f l h nx=none)(hp:HA C f=some p)(hr:C.ma f=false)(hw:iT C p.body (fQ p.res R) (ic l (K 0) .nil) h nx):aJ C f l h nx R:=by
 refine aJ.of_wp hs hp ?_;have e:CT C f p.res R=fQ p.res R:=by funext e tm h nx;cases e<;>simp only[CT,fQ,hr]<;>rfl
 rw[e];exact hw
section
variable(res:List RV)(R:Out→T ah→Key→Prop)(tm:T AV)(h:T ah)(nx:Key)
@[simp] theorem ay4:fQ res R .ret tm h nx=∃l,resultsA h tm res=some l∧R (.ret (nM (bA (aS 9999) l h).1)) (bA (aS 9999) l h).2 nx:=yC Iff.rfl
@[simp] theorem awG:fQ res R .norm tm h nx=∃l,resultsA h tm res=some l∧R (.ret (nM (bA (aS 9999) l h).1)) (bA (aS 9999) l h).2 nx:=yC Iff.rfl
@[simp] theorem ay5(a:AV):fQ res R (.pan a) tm h nx=R (.pan a) h nx:=yC Iff.rfl
end
attribute [simp] aOp lightOp allocOp newB atAll loadB isCmp beqKind arith
attribute [simp] nth_eq dropL_eq takeC_eq putC_eq appC_eq lenL_eq beqN_eq bltN_eq ltI_dec eqI_eq
@[simp] theorem aD6(a b:Nat):Nat.ble a b=decide (a≤b):=by rw[Bool.eq_iff_iff];simp
@[simp] theorem aD7(a b:Int):Int.add a b=a+b:=rfl
@[simp] theorem aD8(a b:Int):Int.sub a b=a-b:=rfl
@[simp] theorem aD9(a b:Int):Int.mul a b=a*b:=rfl
@[simp] theorem ay6(k:IntKind)(m:Nat):qL (.int k (.lit (m:Int)))=some m:=rfl
@[simp] theorem awH(k:IntKind):qL (.int k (.lit 0))=some 0:=rfl
@[simp] theorem ay7(k:IntKind):qL (.int k (.lit 1))=some 1:=rfl
@[simp] theorem ay8(k:IntKind)(n:Nat):qL (.int k (.lit (OfNat.ofNat (n+2):Int)))=some (n+2):=rfl
@[simp] theorem awI(tm:T AV)(d:Nat):mF tm d none=some d:=rfl
@[simp] theorem awJ(tm:T AV)(d:Nat)(x:PX):mF tm d (some x)=match x.at tm with|none=>none|some v=>qL v:=rfl
@[simp] theorem aEa(orc:iV)(op:BinOp)(x y:Int):IJ orc op (.lit x) (.lit y)=(match op with
  |.eql=>some (x==y)
  |.neq=>some (!(x==y))
  |.lss=>some (decide (x<y))
  |.leq=>some (!(decide (y<x)))
  |.gtr=>some (decide (y<x))
  |.geq=>some (!(decide (x<y)))
  |_=>none):=by
 cases op<;>simp[IJ]
@[simp] theorem aBl(tm:T AV)(cs:List AV):L5 tm [] cs=some cs:=rfl
@[simp] theorem ay9(tm:T AV)(off size:Nat)(x:PX)(r:List (Nat×Nat×PX))(cs:List AV):L5 tm ((off,size,x) ::r) cs =
  (match x.at tm with
  |none=>none
  |some v=>bif Nat.beq (lenL v.cells) size then aag v.cells off cs none (fun cs=>L5 tm r cs)else none):=rfl
@[simp] theorem aza(off n:Nat)(l:List AV):y8 true off n l=if n≤(l.drop off).length then some (.agg ((l.drop off).take n))else none:=by simp[y8]
@[simp] theorem awK(off n:Nat)(l:List AV):y8 false off n l=l[off]?:=by simp[y8]
@[simp] theorem auf(b:Bool):AV.aM (.bool b)=true:=rfl
@[simp] theorem awL(b:Bool):AV.cells (.bool b)=[.bool b]:=rfl
@[simp] theorem awM(k:IntKind)(n:SI):AV.aM (.int k n)=true:=rfl
@[simp] theorem azb(k:IntKind)(n:SI):AV.cells (.int k n)=[.int k n]:=rfl
@[simp] theorem awN(n c:Nat):AV.aM (.str n c)=true:=rfl
@[simp] theorem azc(n c:Nat):AV.cells (.str n c)=[.str n c]:=rfl
@[simp] theorem awO(b:Key)(off:Nat):AV.aM (.ptr b off)=true:=rfl
@[simp] theorem azd(b:Key)(off:Nat):AV.cells (.ptr b off)=[.ptr b off]:=rfl
@[simp] theorem aug:AV.aM (.nilp)=true:=rfl
@[simp] theorem awP:AV.cells (.nilp)=[.nilp]:=rfl
@[simp] theorem arh(b:Key)(off len sz:Nat):AV.aM (.slice b off len sz)=true:=rfl
@[simp] theorem auh(b:Key)(off len sz:Nat):AV.cells (.slice b off len sz)=[.slice b off len sz]:=rfl
@[simp] theorem aui:AV.aM (.nils)=true:=rfl
@[simp] theorem awQ:AV.cells (.nils)=[.nils]:=rfl
@[simp] theorem awR(b:Key):AV.aM (.map b)=true:=rfl
@[simp] theorem aze(b:Key):AV.cells (.map b)=[.map b]:=rfl
@[simp] theorem auj:AV.aM (.nilm)=true:=rfl
@[simp] theorem awS:AV.cells (.nilm)=[.nilm]:=rfl
@[simp] theorem azf(f:Nat)(first cap:List AV):AV.aM (.fn f first cap)=true:=rfl
@[simp] theorem aBm(f:Nat)(first cap:List AV):AV.cells (.fn f first cap)=[.fn f first cap]:=rfl
@[simp] theorem auk:AV.aM (.nilf)=true:=rfl
@[simp] theorem awT:AV.cells (.nilf)=[.nilf]:=rfl
@[simp] theorem ari(t:Nat)(v:AV):AV.aM (.iface t v)=true:=rfl
@[simp] theorem aul(t:Nat)(v:AV):AV.cells (.iface t v)=[.iface t v]:=rfl
@[simp] theorem aum:AV.aM (.nili)=true:=rfl
@[simp] theorem awU:AV.cells (.nili)=[.nili]:=rfl
@[simp] theorem azg(l:List AV)(len sz:Nat)(fl:SF):AV.aM (.sl l len sz fl)=true:=rfl
@[simp] theorem aBn(l:List AV)(len sz:Nat)(fl:SF):AV.cells (.sl l len sz fl)=[.sl l len sz fl]:=rfl
@[simp] theorem aun(l:List AV):AV.aM (.cref l)=true:=rfl
@[simp] theorem awV(l:List AV):AV.cells (.cref l)=[.cref l]:=rfl
@[simp] theorem awW(l:List AV):AV.aM (.agg l)=false:=rfl
@[simp] theorem azh(l:List AV):AV.cells (.agg l)=l:=rfl
@[simp] theorem arj(l:List AV)(h:T ah):cw false l h=bA (aS 9999) l h:=rfl
@[simp] theorem auo(l:List AV)(h:T ah):cw true l h=(l,h):=rfl
@[simp] theorem azi(g:AV→T ah→AV×T ah)(h:T ah):bA g [] h=([],h):=rfl
@[simp] theorem awX(g:AV→T ah→AV×T ah)(v:AV)(l:List AV)(h:T ah):bA g (v ::l) h=((g v h).1 ::(bA g l (g v h).2).1,(bA g l (g v h).2).2):=rfl
section
variable(n:Nat)(h:T ah)
@[simp] theorem aBo(k:IntKind)(i:SI):aS n (.int k i) h=(.int k i,h):=by cases n<;>rfl
@[simp] theorem azj(b:Bool):aS n (.bool b) h=(.bool b,h):=by cases n<;>rfl
@[simp] theorem aBp(a b:Nat):aS n (.str a b) h=(.str a b,h):=by cases n<;>rfl
@[simp] theorem aBq(b:Key)(o:Nat):aS n (.ptr b o) h=(.ptr b o,h):=by cases n<;>rfl
@[simp] theorem azk:aS n .nilp h=(.nilp,h):=by cases n<;>rfl
@[simp] theorem azl:aS n .nils h=(.nils,h):=by cases n<;>rfl
@[simp] theorem aBr(b:Key):aS n (.map b) h=(.map b,h):=by cases n<;>rfl
@[simp] theorem azm:aS n .nilm h=(.nilm,h):=by cases n<;>rfl
@[simp] theorem aEb(f:Nat)(a c:List AV):aS n (.fn f a c) h=(.fn f a c,h):=by cases n<;>rfl
@[simp] theorem azn:aS n .nilf h=(.nilf,h):=by cases n<;>rfl
@[simp] theorem awY(t:Nat)(v:AV):aS n (.iface t v) h=(.iface t v,h):=by cases n<;>rfl
@[simp] theorem azo:aS n .nili h=(.nili,h):=by cases n<;>rfl
@[simp] theorem azp(l:List AV):aS n (.cref l) h=(.cref l,h):=by cases n<;>rfl
@[simp] theorem awZ(l:List AV):aS n (.tuple l) h=(.tuple l,h):=by cases n<;>rfl
@[simp] theorem aEc(l:List AV)(m z:Nat)(f:SF):aS (n+1) (.sl l m z f) h=(.sl l m z .any,h):=rfl
@[simp] theorem aBs(l:List AV)(m z:Nat)(f:SF):aS 9999 (.sl l m z f) h=(.sl l m z .any,h):=rfl
@[simp] theorem aBt(l:List AV)(m z:Nat)(f:SF):aS 9998 (.sl l m z f) h=(.sl l m z .any,h):=rfl
@[simp] theorem WR(l:List AV):aS 9999 (.agg l) h=(.agg (bA (aS 9998) l h).1,(bA (aS 9998) l h).2):=rfl
end
@[simp] theorem aup(k:Key)(tm:T AV):ic [] k tm=tm:=rfl
@[simp] theorem ark(v:AV)(l:List AV)(i:Nat)(tm:T AV):ic (v ::l) (K i) tm=ic l (K (i+1)) (aw (K i) (some v) tm):=by simp only[ic,aw0]
@[simp] theorem aw1(v:AV):nM [v]=v:=rfl
@[simp] theorem aw2(v u:AV)(l:List AV):nM (v ::u ::l)=.tuple (v ::u ::l):=rfl
attribute [simp] resultsA
@[simp] theorem AV.all_nil:([]:List AV).all AV.aM=true:=rfl
attribute [simp] gTSm setK findK keyEq kTSu
theorem aA{α:Type}{b c:Key}{v:Option α}{t:T α}(h:b.toNat<c.toNat):ag b (aw c v t)=ag b t:=aa6 v t h
@[simp] theorem set_set{α:Type}(k:Key)(v u:Option α):∀(t:T α),aw k v (aw k u t)=aw k v t:=by
 induction k with
 |z=>intro t;cases t<;>rfl
 |o k ih=>intro t;cases t<;>simp only[T.am3,T.Oi,ih]
 |e k ih=>intro t;cases t<;>simp only[T.am4,T.Oj,ih]
structure Ext(h:T ah)(nx:Key)(h':T ah)(nx':Key):Prop where
 n:nx.toNat≤nx'.toNat
 g:∀b:Key,b.toNat<nx.toNat→ag b h'=ag b h
theorem Ext.refl(h:T ah)(nx:Key):Ext h nx h nx:=⟨fE _,fun _ _=>rfl⟩
theorem Ext.trans{h1 h2 h3:T ah}{n1 n2 n3:Key}(a:Ext h1 n1 h2 n2)(b:Ext h2 n2 h3 n3):Ext h1 n1 h3 n3:=
 ⟨Nat.le_trans a.n b.n,fun k hk=>(b.g k (O5 hk a.n)).trans (a.g k hk)⟩
@[simp] theorem aw3(a b:Bool):AV.beq (.bool a) (.bool b)=(a==b):=rfl
@[simp] theorem aEd(orc:iV)(a b:Bool):jM orc .bool (.bool a) (.bool b)=some (a==b):=by simp[jM]
@[simp] theorem eq_int(orc:iV)(k:IntKind)(a b:SI):jM orc .int (.int k a) (.int k b)=IJ orc .eql a b:=by cases k<;>simp[jM]
@[simp] theorem aBu(orc:iV)(l:List (Nat×Nx))(a b:List AV):jM orc (.parts l) (.agg a) (.agg b)=db orc l a b:=by simp[jM]
@[simp] theorem auq(orc:iV)(a b:List AV):db orc [] a b=some true:=by simp[db]
@[simp] theorem arl(orc:iV)(off:Nat)(p:Nx)(l:List (Nat×Nx))(a b:List AV):db orc ((off,p) ::l) a b=(match nth off a,nth off b with
  |some x,some y=>match jM orc p x y with
   |some true=>db orc l a b
   |some false=>some false
   |none=>none
  |_,_=>none):=by rw[db];rfl
section
variable{C:bP}{Q:cH}{tm:T AV}{h:T ah}{nx:Key}
theorem W.fh{c:aK}(Inv:Nat→T AV→T ah→Key→Prop){n:Nat}(hi:Inv n tm h nx)(hw:∀n tm h nx,Inv n tm h nx→W C c (aW (fun tm h nx=>∃m,m<n∧Inv m tm h nx) Q) tm h nx):W C (.loop c) Q tm h nx:=
 W.loop Inv (fun n tm h nx hi=>WI.mono (hw n tm h nx hi) fun e tm h nx hq=>by cases e<;>exact hq) hi
theorem W.wO{c:aK}(h1:W C c (aW (W C (.loop c) Q) Q) tm h nx):W C (.loop c) Q tm h nx:=by
 intro af k cs m1 m2;refine .step (m':=⟨{af with tm:=tm,todo:=.code c ::.inLoop c ::k},cs,h,nx⟩) (bz m1 rfl) ((h1 af (.inLoop c ::k) cs m1 m2).bind ?_);rintro m ⟨e,aD,h',nx',fr,q,ha,rfl⟩;cases e with
 |norm=>cases ha;have q2:WI C (.inLoop c) Q aD h' nx':=WI.same (y:=.code (.loop c)) (fun i e=>by cases i<;>cases e) (fun _ _ _ _=>rfl) q;refine(q2 {af with tm:=aD} k cs m1 m2).mono ?_;rintro m ⟨e2,tm2,hh2,bu,I6,q2,a2,t2⟩;refine⟨e2,tm2,hh2,bu,I6,q2,?_,t2⟩;cases e2<;>exact a2
 |ret=>exact .now ⟨.ret,aD,h',nx',fr,q,ha,rfl⟩
 |exit id=>obtain⟨k2,e1,e2⟩:=ha;exact .now ⟨.exit id,aD,h',nx',fr,q,⟨k2,e1,e2⟩,rfl⟩
 |pan a=>exact .now ⟨.pan a,aD,h',nx',fr,q,ha,rfl⟩
theorem W.of{c:aK}(h1:iT C c Q tm h nx):W C c Q tm h nx:=mR h1
end
@[simp] theorem aBv{R:Type}(l:List AV)(h:T ah)(c:List AV→T ah→R):LM (ZM 9999) l h c=c (bA (aS 9999) l h).1 (bA (aS 9999) l h).2:=yv (GD 9999) l h c
attribute [simp] appendTo repL_eq
@[simp] theorem aBw(i:Nat):FO i []=[]:=rfl
@[simp] theorem azq(i j:Nat)(l:List Nat)(r:List (Nat×List Nat)):FO i ((j,l) ::r)=if i=j then l else FO i r:=by simp[FO]
@[simp] theorem azr(p:List (Nat×Key×ah))(h:T ah):zj [] p h=h:=rfl
@[simp] theorem aw4(a:Nat)(l:List Nat)(p:List (Nat×Key×ah))(h:T ah):zj (a ::l) p h=dq (p.filter fun x=>memN x.1 (a ::l)) h:=by show Gk (a ::l) p h (fun _ h=>h)=_;rw[zT]
theorem cF{k:Key}{n:Nat}(h:Key.beq k (K n)=true):k=K n:=Key.eq_of_beq h
def k0:Key:=.z
def k1:=Key.o k0
def k2:=Key.e k0
def k3:=Key.o k1
def k4:=Key.e k1
def k5:=Key.o k2
def k6:=Key.e k2
def k7:=Key.o k3
def k8:=Key.e k3
def k9:=Key.o k4
def cJ:=Key.e k4
def dd:=Key.o k5
def dy:=Key.e k5
def dz:=Key.o k6
def eh:=Key.e k6
def dA:=Key.o k7
def fX:=Key.e k7
def iG:=Key.o k8
def iD:=Key.e k8
def iX:=Key.o k9
def ig:=Key.e k9
def kx:=Key.o cJ
def ky:=Key.e cJ
def kQ:=Key.o dd
def mC:=Key.e dd
def lW:=Key.o dy
def lH:=Key.e dy
def nP:=Key.o dz
def nh:=Key.e dz
def qi:=Key.o eh
def mD:=Key.e eh
def ph:=Key.o dA
def ra:=Key.e dA
def ud:=Key.o fX
def qB:=Key.e fX
def vX:=Key.o iG
def yJ:=Key.e iG
def wM:=Key.o iD
def xa:=Key.e iD
def yK:=Key.o iX
def bC:=Key.e iX
def ub:=Key.o ig
def uc:=Key.e ig
def xb:=Key.o kx
def AG:=Key.e kx
def CN:=Key.o ky
def Dy:=Key.e ky
def EW:=Key.o kQ
def EY:=Key.e kQ
def DR:=Key.o mC
def Bl:=Key.e mC
def Ht:=Key.o lW
def AH:=Key.e lW
def FU:=Key.o lH
def DS:=Key.e lH
def Bm:=Key.o nP
def Cd:=Key.e nP
def Dz:=Key.o nh
def DU:=Key.e nh
def DA:=Key.o qi
def Bn:=Key.e qi
def DV:=Key.o mD
def Bo:=Key.e mD
def IM:=Key.o ph
def DW:=Key.e ph
def Lq:=Key.o ra
def Km:=Key.e ra
def IB:=Key.o ud
def Dw:=Key.e ud
def Gy:=Key.o qB
def H8:=Key.e qB
def Gc:=Key.o vX
def Ko:=Key.e vX
def NB:=Key.o yJ
def H9:=Key.e yJ
def I5:=Key.o wM
def NC:=Key.e wM
def Lk:=Key.o xa
def Ia:=Key.e xa
def Nr:=Key.o yK
def LB:=Key.e yK
def Qb:=Key.o bC
def Ll:=Key.e bC
def Ns:=Key.o ub
def ND:=Key.e ub
def OT:=Key.o uc
def LC:=Key.e uc
def Q1:=Key.o xb
def UK:=Key.e xb
def OU:=Key.o AG
def Rl:=Key.e AG
def Xk:=Key.o CN
def Xl:=Key.e CN
def Zy:=Key.o Dy
def UL:=Key.e Dy
def ZJ:=Key.o EW
def k96:=Key.e EW
def k97:=Key.o EY
def k98:=Key.e EY
def Xm:=Key.o DR
def IC:=Key.e DR
def ID:=Key.o Bl
def IE:=Key.e Bl
def IF:=Key.o Ht
def Gz:=Key.e Ht
def Kq:=Key.o AH
def IG:=Key.e AH
def IH:=Key.o FU
def LD:=Key.e FU
def FN:=Key.o DS
def Kr:=Key.e DS
def Ks:=Key.o Bm
def LF:=Key.e Bm
def LG:=Key.o Cd
def LH:=Key.e Cd
def LI:=Key.o Dz
def NF:=Key.e Dz
def NG:=Key.o DU
def Rm:=Key.e DU
def Xn:=Key.o DA
def aan:=Key.e DA
def ZK:=Key.o Bn
def XN:=Key.e Bn
def Rn:=Key.o DV
def Kt:=Key.e DV
def Ro:=Key.o Bo
def Qc:=Key.e Bo
def Rp:=Key.o IM
def Rq:=Key.e IM
def Rr:=Key.o DW
def BI:=Key.e DW
def Qi:=Key.o Lq
def XO:=Key.e Lq
def XP:=Key.o Km
def XQ:=Key.e Km
def XR:=Key.o IB
def XS:=Key.e IB
def XT:=Key.o Dw
def ad5:=Key.e Dw
def ad6:=Key.o Gy
def aao:=Key.e Gy
def ad7:=Key.o H8
def ad8:=Key.e H8
def awc:=Key.o Gc
def awd:=Key.e Gc
def awe:=Key.o Ko
def awf:=Key.e Ko
def awg:=Key.o NB
def awh:=Key.e NB
def awi:=Key.o H9
def awj:=Key.e H9
def awk:=Key.o I5
def awl:=Key.e I5
def awm:=Key.o NC
def awn:=Key.e NC
def awo:=Key.o Lk
def awp:=Key.e Lk
def awq:=Key.o Ia
def awr:=Key.e Ia
def aGD:=Key.e Rl
def aGE:=Key.o Gz
def aGF:=Key.o aGD
def aGy:=Key.e aGE
def aGz:=Key.e aGF
@[simp] theorem aQM:k0=K 0:=cF rfl
@[simp] theorem aFL:k1=K 1:=cF rfl
@[simp] theorem aQN:k2=K 2:=cF rfl
@[simp] theorem aQO:k3=K 3:=cF rfl
@[simp] theorem aQP:k4=K 4:=cF rfl
@[simp] theorem aQQ:k5=K 5:=cF rfl
@[simp] theorem aQR:k6=K 6:=cF rfl
@[simp] theorem aQS:k7=K 7:=cF rfl
@[simp] theorem aQT:k8=K 8:=cF rfl
@[simp] theorem aQU:k9=K 9:=cF rfl
@[simp] theorem aL5:cJ=K 10:=cF rfl
@[simp] theorem aL6:dd=K 11:=cF rfl
@[simp] theorem aL7:dy=K 12:=cF rfl
@[simp] theorem aL8:dz=K 13:=cF rfl
@[simp] theorem aL9:eh=K 14:=cF rfl
@[simp] theorem aMa:dA=K 15:=cF rfl
@[simp] theorem aMb:fX=K 16:=cF rfl
@[simp] theorem aMc:iG=K 17:=cF rfl
@[simp] theorem aAq:iD=K 18:=cF rfl
@[simp] theorem aAr:iX=K 19:=cF rfl
@[simp] theorem aMd:ig=K 20:=cF rfl
@[simp] theorem aMe:kx=K 21:=cF rfl
@[simp] theorem aMf:ky=K 22:=cF rfl
@[simp] theorem aMg:kQ=K 23:=cF rfl
@[simp] theorem aMh:mC=K 24:=cF rfl
@[simp] theorem aMi:lW=K 25:=cF rfl
@[simp] theorem aMj:lH=K 26:=cF rfl
@[simp] theorem aMk:nP=K 27:=cF rfl
@[simp] theorem aMl:nh=K 28:=cF rfl
@[simp] theorem aMm:qi=K 29:=cF rfl
@[simp] theorem aMn:mD=K 30:=cF rfl
@[simp] theorem aMo:ph=K 31:=cF rfl
@[simp] theorem aMp:ra=K 32:=cF rfl
@[simp] theorem aMq:ud=K 33:=cF rfl
@[simp] theorem aMr:qB=K 34:=cF rfl
@[simp] theorem aMs:vX=K 35:=cF rfl
@[simp] theorem aMt:yJ=K 36:=cF rfl
@[simp] theorem aMu:wM=K 37:=cF rfl
@[simp] theorem aMv:xa=K 38:=cF rfl
@[simp] theorem aMw:yK=K 39:=cF rfl
@[simp] theorem aMx:bC=K 40:=cF rfl
@[simp] theorem aMy:ub=K 41:=cF rfl
@[simp] theorem aMz:uc=K 42:=cF rfl
@[simp] theorem aMA:xb=K 43:=cF rfl
@[simp] theorem aMB:AG=K 44:=cF rfl
@[simp] theorem aMC:CN=K 45:=cF rfl
@[simp] theorem aMD:Dy=K 46:=cF rfl
@[simp] theorem aME:EW=K 47:=cF rfl
@[simp] theorem aMF:EY=K 48:=cF rfl
@[simp] theorem aMG:DR=K 49:=cF rfl
@[simp] theorem aMH:Bl=K 50:=cF rfl
@[simp] theorem aMI:Ht=K 51:=cF rfl
@[simp] theorem aMJ:AH=K 52:=cF rfl
@[simp] theorem aMK:FU=K 53:=cF rfl
@[simp] theorem aML:DS=K 54:=cF rfl
@[simp] theorem aMM:Bm=K 55:=cF rfl
@[simp] theorem aMN:Cd=K 56:=cF rfl
@[simp] theorem aMO:Dz=K 57:=cF rfl
@[simp] theorem aMP:DU=K 58:=cF rfl
@[simp] theorem aMQ:DA=K 59:=cF rfl
@[simp] theorem aMR:Bn=K 60:=cF rfl
@[simp] theorem aMS:DV=K 61:=cF rfl
@[simp] theorem aMT:Bo=K 62:=cF rfl
@[simp] theorem aMU:IM=K 63:=cF rfl
@[simp] theorem aMV:DW=K 64:=cF rfl
@[simp] theorem aMW:Lq=K 65:=cF rfl
@[simp] theorem aMX:Km=K 66:=cF rfl
@[simp] theorem aMY:IB=K 67:=cF rfl
@[simp] theorem aMZ:Dw=K 68:=cF rfl
@[simp] theorem aM0:Gy=K 69:=cF rfl
@[simp] theorem aM1:H8=K 70:=cF rfl
@[simp] theorem aM2:Gc=K 71:=cF rfl
@[simp] theorem aM3:Ko=K 72:=cF rfl
@[simp] theorem aM4:NB=K 73:=cF rfl
@[simp] theorem aM5:H9=K 74:=cF rfl
@[simp] theorem aM6:I5=K 75:=cF rfl
@[simp] theorem aM7:NC=K 76:=cF rfl
@[simp] theorem aM8:Lk=K 77:=cF rfl
@[simp] theorem aM9:Ia=K 78:=cF rfl
@[simp] theorem aNa:Nr=K 79:=cF rfl
@[simp] theorem aNb:LB=K 80:=cF rfl
@[simp] theorem aNc:Qb=K 81:=cF rfl
@[simp] theorem aNd:Ll=K 82:=cF rfl
@[simp] theorem aNe:Ns=K 83:=cF rfl
@[simp] theorem aNf:ND=K 84:=cF rfl
@[simp] theorem aNg:OT=K 85:=cF rfl
@[simp] theorem aNh:LC=K 86:=cF rfl
@[simp] theorem aNi:Q1=K 87:=cF rfl
@[simp] theorem aNj:UK=K 88:=cF rfl
@[simp] theorem aNk:OU=K 89:=cF rfl
@[simp] theorem aNl:Rl=K 90:=cF rfl
@[simp] theorem aNm:Xk=K 91:=cF rfl
@[simp] theorem aNn:Xl=K 92:=cF rfl
@[simp] theorem aNo:Zy=K 93:=cF rfl
@[simp] theorem aNp:UL=K 94:=cF rfl
@[simp] theorem aNq:ZJ=K 95:=cF rfl
@[simp] theorem aNr:k96=K 96:=cF rfl
@[simp] theorem aNs:k97=K 97:=cF rfl
@[simp] theorem aNt:k98=K 98:=cF rfl
@[simp] theorem aNu:Xm=K 99:=cF rfl
@[simp] theorem aGG:IC=K 100:=cF rfl
@[simp] theorem aGH:ID=K 101:=cF rfl
@[simp] theorem aGI:IE=K 102:=cF rfl
@[simp] theorem aGJ:IF=K 103:=cF rfl
@[simp] theorem aGK:Gz=K 104:=cF rfl
@[simp] theorem aGL:Kq=K 105:=cF rfl
@[simp] theorem aGM:IG=K 106:=cF rfl
@[simp] theorem aGN:IH=K 107:=cF rfl
@[simp] theorem aGO:LD=K 108:=cF rfl
@[simp] theorem aGP:FN=K 109:=cF rfl
@[simp] theorem aGQ:Kr=K 110:=cF rfl
@[simp] theorem aGR:Ks=K 111:=cF rfl
@[simp] theorem aGS:LF=K 112:=cF rfl
@[simp] theorem aGT:LG=K 113:=cF rfl
@[simp] theorem aGU:LH=K 114:=cF rfl
@[simp] theorem aGV:LI=K 115:=cF rfl
@[simp] theorem aGW:NF=K 116:=cF rfl
@[simp] theorem aGX:NG=K 117:=cF rfl
@[simp] theorem aGY:Rm=K 118:=cF rfl
@[simp] theorem aGZ:Xn=K 119:=cF rfl
@[simp] theorem aG0:aan=K 120:=cF rfl
@[simp] theorem aG1:ZK=K 121:=cF rfl
@[simp] theorem aG2:XN=K 122:=cF rfl
@[simp] theorem aG3:Rn=K 123:=cF rfl
@[simp] theorem aG4:Kt=K 124:=cF rfl
@[simp] theorem aG5:Ro=K 125:=cF rfl
@[simp] theorem aG6:Qc=K 126:=cF rfl
@[simp] theorem aG7:Rp=K 127:=cF rfl
@[simp] theorem aG8:Rq=K 128:=cF rfl
@[simp] theorem aG9:Rr=K 129:=cF rfl
@[simp] theorem aHa:BI=K 130:=cF rfl
@[simp] theorem aHb:Qi=K 131:=cF rfl
@[simp] theorem aHc:XO=K 132:=cF rfl
@[simp] theorem aHd:XP=K 133:=cF rfl
@[simp] theorem aHe:XQ=K 134:=cF rfl
@[simp] theorem aHf:XR=K 135:=cF rfl
@[simp] theorem aHg:XS=K 136:=cF rfl
@[simp] theorem aHh:XT=K 137:=cF rfl
@[simp] theorem aHi:ad5=K 138:=cF rfl
@[simp] theorem aHj:ad6=K 139:=cF rfl
@[simp] theorem aHk:aao=K 140:=cF rfl
@[simp] theorem aHl:ad7=K 141:=cF rfl
@[simp] theorem aHm:ad8=K 142:=cF rfl
@[simp] theorem aHn:awc=K 143:=cF rfl
@[simp] theorem aHo:awd=K 144:=cF rfl
@[simp] theorem aHp:awe=K 145:=cF rfl
@[simp] theorem aHq:awf=K 146:=cF rfl
@[simp] theorem aHr:awg=K 147:=cF rfl
@[simp] theorem aHs:awh=K 148:=cF rfl
@[simp] theorem aHt:awi=K 149:=cF rfl
@[simp] theorem aHu:awj=K 150:=cF rfl
@[simp] theorem aHv:awk=K 151:=cF rfl
@[simp] theorem aHw:awl=K 152:=cF rfl
@[simp] theorem aHx:awm=K 153:=cF rfl
@[simp] theorem aHy:awn=K 154:=cF rfl
@[simp] theorem aHz:awo=K 155:=cF rfl
@[simp] theorem aHA:awp=K 156:=cF rfl
@[simp] theorem aHB:awq=K 157:=cF rfl
@[simp] theorem aHC:awr=K 158:=cF rfl
theorem hide{α:Type}{a b:α}(h:a=b):a=b:=h
abbrev I(n:Int):AV:=.int .i64 (.lit n)
def oM(d s:Key):aC:=⟨some d,.mov (.t s),none⟩
def oL(d:Key)(n:Nat)(s:Key):aC:=⟨some d,.load false n (.t s),none⟩
def oA(d:Key)(n:Nat)(s:Key):aC:=⟨some d,.load true n (.t s),none⟩
def oF(d:Key)(n:Nat)(s:Key):aC:=⟨some d,.fieldA n (.t s),none⟩
def oS(n:Nat)(a s:Key):aC:=⟨none,.store n (.t a) (.t s),none⟩
def oN(d s:Key):aC:=⟨some d,.nilc (.t s),none⟩
def oZ(d s:Key):aC:=⟨some d,.lenL (.t s),none⟩
def oE(d s:Key)(n:Int):aC:=⟨some d,.bin .eql (.t s) (.v (I n)),none⟩
def oI(d:Key)(n:Nat)(s i:Key):aC:=⟨some d,.indexL n (.t s) (.t i),none⟩
def oX(d s:Key)(n:Nat):aC:=⟨some d,.extract (.t s) n,none⟩
def oB(d s:Key):aC:=⟨some d,.box (.t s),none⟩
def oJ(d:Key)(v:AV):aC:=⟨some d,.mov (.v v),none⟩
@[simp] theorem sM(d s:Key):oM d s=⟨some d,.mov (.t s),none⟩:=hide rfl
@[simp] theorem sN(d:Key)(n:Nat)(s:Key):oL d n s=⟨some d,.load false n (.t s),none⟩:=hide rfl
@[simp] theorem xL(d:Key)(n:Nat)(s:Key):oA d n s=⟨some d,.load true n (.t s),none⟩:=hide rfl
@[simp] theorem xM(d:Key)(n:Nat)(s:Key):oF d n s=⟨some d,.fieldA n (.t s),none⟩:=hide rfl
@[simp] theorem xO(n:Nat)(a s:Key):oS n a s=⟨none,.store n (.t a) (.t s),none⟩:=hide rfl
@[simp] theorem xR(d s:Key):oN d s=⟨some d,.nilc (.t s),none⟩:=hide rfl
@[simp] theorem xQ(d s:Key):oZ d s=⟨some d,.lenL (.t s),none⟩:=hide rfl
@[simp] theorem xP(d s:Key)(n:Int):oE d s n=⟨some d,.bin .eql (.t s) (.v (I n)),none⟩:=hide rfl
@[simp] theorem xK(d:Key)(n:Nat)(s i:Key):oI d n s i=⟨some d,.indexL n (.t s) (.t i),none⟩:=hide rfl
@[simp] theorem xS(d s:Key)(n:Nat):oX d s n=⟨some d,.extract (.t s) n,none⟩:=hide rfl
@[simp] theorem aNv(d s:Key):oB d s=⟨some d,.box (.t s),none⟩:=hide rfl
@[simp] theorem sO(d:Key)(v:AV):oJ d v=⟨some d,.mov (.v v),none⟩:=hide rfl
abbrev Rw:=List aC
def oO(d:Key)(o:BinOp)(a b:Key):aC:=⟨some d,.bin o (.t a) (.t b),none⟩
@[simp] theorem sP(d:Key)(o:BinOp)(a b:Key):oO d o a b=⟨some d,.bin o (.t a) (.t b),none⟩:=hide rfl
def oK(d:Key)(o:BinOp)(a:Key)(i:Int):aC:=⟨some d,.bin o (.t a) (.v (I i)),none⟩
@[simp] theorem sQ(d:Key)(o:BinOp)(a:Key)(i:Int):oK d o a i=⟨some d,.bin o (.t a) (.v (I i)),none⟩:=hide rfl
instance:Coe Key PX:=⟨.t⟩
instance:Coe AV PX:=⟨.v⟩
instance:Coe (List aC) aK:=⟨.ops⟩
def oC(d:Key)(f:Nat)(l:List PX):aC:=⟨some d,.callF f l,none⟩
@[simp] theorem xN(d:Key)(f:Nat)(l:List PX):oC d f l=⟨some d,.callF f l,none⟩:=hide rfl
def oT(d s g:Key):aC:=⟨some d,.mov (.t s),some (g,true)⟩
@[simp] theorem aNw(d s g:Key):oT d s g=⟨some d,.mov (.t s),some (g,true)⟩:=hide rfl
def oQ(d s g:Key):aC:=⟨some d,.mov (.t s),some (g,false)⟩
@[simp] theorem aNx(d s g:Key):oQ d s g=⟨some d,.mov (.t s),some (g,false)⟩:=hide rfl
def oP(d a b:Key):aC:=⟨some d,.pick (.t a) (.t b) (.v (.bool false)),none⟩
@[simp] theorem aNy(d a b:Key):oP d a b=⟨some d,.pick (.t a) (.t b) (.v (.bool false)),none⟩:=hide rfl
@[simp] abbrev QZ(l:List AV):Option ah:=some (.cells l .fix)
end Go.Sx
namespace Go.Sx
open Go.RowKit
mutual
def AV.kf:AV→Bool
 |.bool _|.int _ _|.str _ _|.nilp|.nils|.nilm|.nilf|.nili=>true
 |.iface _ v=>AV.kf v
 |.agg l=>AV.Ey l
 |.tuple l=>AV.Ey l
 |.sl l _ _ .any=>AV.Ey l
 |.cref l=>AV.Ey l
 |.fn _ a c=>AV.Ey a&&AV.Ey c
 |_=>false
def AV.Ey:List AV→Bool
 | []=>true
 |a ::l=>AV.kf a&&AV.Ey l
end
mutual
theorem aX.kf{ρ:Nat→Int}{μ μ':Mu}(hf:∀c i v,μ.fz c i=some v→μ'.fz c i=some v):∀{a:AV} {v:Value},aX ρ μ a v→a.kf=true→aX ρ μ' a v
 |_,_,.bool b,_=>.bool b
 |_,_,.int k s n h,_=>.int k s n h
 |_,_,.str n c s h h',_=>.str n c s h h'
 |_,_,.ptr b off l a h ha,hk=>by simp[AV.kf]at hk
 |_,_,.nilp,_=>.nilp
 |_,_,.slice b off len sz cap l a h hc hl ha,hk=>by simp[AV.kf]at hk
 |_,_,.nils,_=>.nils
 |_,_,.map b l r h hr,hk=>by simp[AV.kf]at hk
 |_,_,.nilm,_=>.nilm
 |_,_,.fn f first cap vs ws h h',hk=>by simp only[AV.kf,jq]at hk;exact .fn f first cap vs ws (aB.kf hf h hk.1) (aB.kf hf h' hk.2)
 |_,_,.yld b l r h hr,hk=>by simp[AV.kf]at hk
 |_,_,.nilf,_=>.nilf
 |_,_,.iface t a v h,hk=>.iface t a v (aX.kf hf h (by simpa[AV.kf]using hk))
 |_,_,.nili,_=>.nili
 |_,_,.agg l vs h,hk=>.agg l vs (aB.kf hf h (by simpa[AV.kf]using hk))
 |_,_,.tuple l vs h,hk=>.tuple l vs (aB.kf hf h (by simpa[AV.kf]using hk))
 |_,_,.sl l len sz fl cap c o a vs h hn hl ha hff hg,hk=>by
  cases fl with
  |any=>exact .sl l len sz .any cap c o a vs (aB.kf hf h (by simpa[AV.kf]using hk)) hn hl ha (fun i v e=>hf _ _ _ (hff i v e)) trivial
  |tok b=>simp[AV.kf]at hk
 |_,_,.cref l c o a vs h ha hff,hk=>.cref l c o a vs (aB.kf hf h (by simpa[AV.kf]using hk)) ha (fun i v e=>hf _ _ _ (hff i v e))
theorem aB.kf{ρ:Nat→Int}{μ μ':Mu}(hf:∀c i v,μ.fz c i=some v→μ'.fz c i=some v):∀{l:List AV} {vs:List Value},aB ρ μ l vs→AV.Ey l=true→aB ρ μ' l vs
 |_,_,.nil,_=>.nil
 |_,_,.cons a l v vs h h',hk=>by simp only[AV.Ey,jq]at hk;exact .cons a l v vs (aX.kf hf h hk.1) (aB.kf hf h' hk.2)
end
structure ji(P:Program)(heap0:T ah)(w0:W0):Prop where
 size:P.globals.size≤w0.heap.size
 at_:∀b B,ag b heap0=some B→b.toNat<P.globals.size∧∃L arr elem f,B=.cells L .ro∧w0.heap[b.toNat]?=some (.cells arr elem f)∧(∀(ρ:Nat→Int) (μ:Mu),aB ρ μ L arr.toList)∧∀i v,arr[i]?=some v→w0.z b.toNat i=some v
section
variable{P:Program}{ρ:Nat→Int}{heap0:T ah}
noncomputable def Tz(heap0:T ah)(b:Key):Nat:=match ag b heap0 with
 |some (.cells L _)=>L.length
 |_=>0
noncomputable def gMu(P:Program)(heap0:T ah)(fz:Nat→Nat→Option Value):Mu:=⟨fun b=>if b.toNat<P.globals.size then some ⟨b.toNat,0,Tz heap0 b⟩else none,fz⟩
theorem MX{fz:Nat→Nat→Option Value}{b:Key}{l:Loc}(h:(gMu P heap0 fz) b=some l):b.toNat<P.globals.size∧l=⟨b.toNat,0,Tz heap0 b⟩:=by
 have h:(if b.toNat<P.globals.size then some (⟨b.toNat,0,Tz heap0 b⟩:Loc)else none)=some l:=h;split at h
 ·rename_i hb;cases h;exact⟨hb,rfl⟩
 ·cases h
theorem It{w0:W0}(hL:ji P heap0 w0)(hz:∀c i v,w0.z c i=some v→∃arr elem f,w0.heap[c]?=some (.cells arr elem f)∧arr[i]?=some v){nx:Nat}(hn:P.globals.size≤nx) :
  bB P ρ w0 (gMu P heap0 w0.z) (fun b=>ag b heap0) nx w0.toWorld:=by
 have aqd:∀b:Key,b.toNat<P.globals.size→(gMu P heap0 w0.z) b=some ⟨b.toNat,0,Tz heap0 b⟩:=by intro b hb;show(if b.toNat<P.globals.size then some (⟨b.toNat,0,Tz heap0 b⟩:Loc)else none)=_;rw[if_pos hb]
 refine⟨?_,?_,?_,?_,?_,?_,Below.refl _ _,hz,?_,fun _ _ _ h=>h,fun _ _ _ h=>.inr h,?_,fE _⟩
 ·intro b B hb;obtain⟨h1,L,arr,elem,f,rfl,h3,h4,h5⟩:=hL.at_ b B hb;have hlen:L.length=arr.size:=by simpa using(h4 ρ (gMu P heap0 w0.z)).length
  refine⟨_,_,aqd b h1,h3,.cells L .ro _ arr elem f ?_ ?_ ?_ (fun h=>absurd rfl h) ?_⟩
  ·intro i a ha;obtain⟨v,hv,hr⟩:=(h4 ρ (gMu P heap0 w0.z)).get i a ha;exact⟨v,by simpa using hv,hr⟩
  ·show 0+Tz heap0 b≤arr.size;simp only[Tz,hb];omega
  ·show L.length≤Tz heap0 b;simp only[Tz,hb];exact fE _
  ·intro _ _;show L.length=Tz heap0 b;simp only[Tz,hb]
 ·intro b b' B B' l l' h1 h2 m1 m2 bW;obtain⟨_,rfl⟩:=MX m1;obtain⟨_,rfl⟩:=MX m2;exact fun e=>bW (Key.toNat_inj e)
 ·intro b l m;obtain⟨h1,rfl⟩:=MX m;exact O5 h1 hL.size
 ·intro b B l hb m;obtain⟨h1,L,arr,elem,f,rfl,_⟩:=hL.at_ b B hb;exact .inl trivial
 ·intro k hk;exact⟨_,aqd k hk⟩
 ·intro b l m;obtain⟨h1,rfl⟩:=MX m;omega
 ·intro b B l n hb m lV i hi;obtain⟨h1,L,arr,elem,f,rfl,_⟩:=hL.at_ b B hb;cases lV
 ·intro b L l hb m;obtain⟨_,rfl⟩:=MX m;obtain⟨h1,L',arr,elem,f,e,h3,h4,h5⟩:=hL.at_ b _ hb;refine .inr fun KB ee ff i v ha hv=>?_;have ha:w0.heap[b.toNat]?=some (.cells KB ee ff):=ha;rw[h3]at ha;cases ha;exact h5 i v hv
theorem ji.ang{w0:W0}{w:World}{fz:Nat→Nat→Option Value}(hL:ji P heap0 w0)(hb:Below w0.heap.size w0.toWorld w)(hz:∀c i v,w0.z c i=some v→fz c i=some v):ji P heap0 ⟨w,fz⟩:=by refine⟨Nat.le_trans hL.size hb.size,fun b B h=>?_⟩;obtain⟨h1,L,arr,elem,f,h2,h3,h4,h5⟩:=hL.at_ b B h;refine⟨h1,L,arr,elem,f,h2,?_,h4,fun i v hv=>hz _ _ _ (h5 i v hv)⟩;show w.heap[b.toNat]?=_;rw[hb.block _ (O5 h1 hL.size)];exact h3
def aB0(tab:List (Nat×List AV×AV))(f:Nat)(l:List AV)(h:T ah)(nx:Key):Option (AV×T ah×Key):=match tab with
 | []=>none
 |(g,m,v) ::r=>bif Nat.beq f g&&AV.II l m then some (v,h,nx)else aB0 r f l h nx
theorem HE{C:bP}{w0:W0}{w:World}{μ0:Mu}{G0:Key→Option ah}{H:T ah}{nx:Key}(X:Ctx P ρ w0 C){f:Nat}{l:List AV}{args:Array Value}(hM:bB P ρ w0 μ0 G0 nx.toNat w)(hH:HSub H G0)(hl:aB ρ μ0 l args.toList)
  {R:Out→T ah→Key→Prop} (hR:∀o h nx,R o h nx→∃v,o=.ret v) (hc:aJ C f l H nx R) :
  Calls P f args w fun e w'=>∃v h' nx' u μ G,R (.ret v) h' nx'∧e=.returned u∧aX ρ μ v u∧μ0.le μ∧bB P ρ w0 μ G nx'.toNat w'∧HSub h' G:=by
 rcases hc with⟨v,h',nx',hs,hr⟩|⟨hs,p,hp,eM⟩
 ·refine(X.sum f l H nx v h' nx' hs args w μ0 G0 hM hH hl).mono ?_;rintro e w' ⟨u,μ',G',rfl,h1,h2,h3,h4,_⟩;exact⟨v,h',nx',u,μ',G',hr,rfl,h1,h2,h3,h4⟩
 ·have hpf:I3 P f=some p:=X.fns f p hp;intro cs;have hm:BN P ρ C.orc w0 μ0 ⟨ai f p l,[],H,nx⟩ (Frame.enter P f args .normal) [] w:=
   ⟨μ0,G0,μ0.le_refl,hM,hH,yH hpf hl false,trivial,by simp[bL,pk,ai]⟩
  obtain⟨am',fR,yu,w',⟨o,h',nx',fr,h1,hr,hfn,hdf,⟨hd,hL⟩,rfl⟩,s1,s2⟩:=Ev.sound (rest:=cs) X (eM []) hm;obtain⟨v,rfl⟩:=hR o h' nx' hr;obtain⟨MI,l1,hl1,rfl,rfl⟩:=hL;have JT:iI C ⟨fr,[],h1,nx'⟩=.done f (nM (cw (C.ma f) l1 h1).1) (cw (C.ma f) l1 h1).2 nx':=by unfold iI;simp only[MI];unfold AU;simp only[hd,MI,hl1,hfn,yZ];unfold L6;simp only[hdf,cond_false,hfn]
  have hg:=AP (rest:=cs) X s2;rw[JT]at hg;obtain⟨I6,w2,μ,G,u,t1,t2,t3,t4,t5,t6,t7⟩:=hg;exact⟨.returned u,w2,I6,⟨_,_,_,u,μ,G,hr,rfl,t4,t5,t6,t7⟩,s1.trans t1,t2,t3⟩
noncomputable def HG:List (Nat×fq)→T fq
 | []=>.nil
 |(i,p) ::l=>aw (Key.fP 12 i) (some p) (HG l)
theorem TA:∀{l:List (Nat×fq)} {k:Key} {p:fq},ag k (HG l)=some p→∃i,(i,p)∈l∧k=Key.fP 12 i
 | [],k,p,h=>by simp[HG]at h
 |(i,q) ::l,k,p,h=>by
  simp only[HG]at h;by_cases e:k=Key.fP 12 i
  ·subst e;rw[gTSm]at h;cases h;exact⟨i,by simp,rfl⟩
  ·rw[aP _ _ _ _ e]at h;obtain⟨j,h1,h2⟩:=TA h;exact⟨j,List.mem_cons_of_mem _ h1,h2⟩
def MV(P:Program):List (Nat×fq)→Prop
 | []=>True
 |(i,p) ::l=>(Nat.blt i 8000=true∧I3 P i=some p)∧MV P l
theorem MV.mem:∀{l:List (Nat×fq)},MV P l→∀{i:Nat} {p:fq},(i,p)∈l→i<8000∧I3 P i=some p
 | [],_,_,_,h=>by cases h
 |(j,q) ::l,ha,i,p,h=>by
  rcases GP.1 h with e|e
  ·cases e;have:=ha.1.1;rw[bltN_eq,decide_eq_true_eq]at this;exact⟨this,ha.1.2⟩
  ·exact MV.mem ha.2 e
noncomputable def aB1(fns:T fq)(tab:List (Nat×List AV×AV)):bP:=⟨[],fns,aB0 tab,fun _=>false,fun _=>false⟩
theorem abp{fns:T fq}{abo:List (Nat×fq)}(hb:fns=HG abo)(ha:MV P abo){tab:List (Nat×List AV×AV)}{f:Nat}{p:fq}(h:HA (aB1 fns tab) f=some p):I3 P f=some p:=by
 unfold HA at h;cases hk:Nat.beq (Key.fP 12 f).toNat f with
 |false=>rw[hk]at h;cases h
 |true=>
  rw[hk]at h;have hk:=o5 hk;have h:ag (Key.fP 12 f) fns=some p:=h;rw[hb]at h;obtain⟨i,h1,h2⟩:=TA h;obtain⟨h3,h4⟩:=ha.mem h1;have:i=f:=by have e:=congrArg Key.toNat h2;rw[hk,r7 12 i (by omega)]at e;exact e.symm
  subst this;exact h4
def ahU(P:Program)(ρ:Nat→Int)(heap0:T ah):List (Nat×List AV×AV)→Prop
 | []=>True
 |(f,l,v) ::r=>((∃p,I3 P f=some p)∧∀w0:W0,ji P heap0 w0→∀H nx,LV P ρ w0 f l H nx v H nx)∧ahU P ρ heap0 r
theorem ahU.mem:∀{tab:List (Nat×List AV×AV)},ahU P ρ heap0 tab→∀{f:Nat} {l:List AV} {v:AV},(f,l,v)∈tab→(∃p,I3 P f=some p)∧∀w0:W0,ji P heap0 w0→∀H nx,LV P ρ w0 f l H nx v H nx
 | [],_,_,_,_,h=>by cases h
 |(g,m,u) ::r,ht,f,l,v,h=>by
  rcases GP.1 h with e|e
  ·cases e;exact ht.1
  ·exact ahU.mem ht.2 e
end
end Go.Sx
namespace Go.Sx
open Go
theorem awy{a b:Key}(h:a.toNat≠b.toNat):a≠b:=fun e=>h (by rw[e])
theorem tq{a b:Key}(v:Option ah)(t:T ah)(h:a.toNat≠b.toNat:=by simp;try omega):ag a (aw b v t)=ag a t:=aP _ _ _ _ (awy h)
variable(n:Key)(v:Option ah)(t:T ah)
@[simp] theorem aHN:ag n (aw n.succ v t)=ag n t:=tq v t
@[simp] theorem aHO:ag n (aw n.succ.succ v t)=ag n t:=tq v t
@[simp] theorem aHP:ag n (aw n.succ.succ.succ v t)=ag n t:=tq v t
@[simp] theorem aHQ:ag n (aw n.succ.succ.succ.succ v t)=ag n t:=tq v t
@[simp] theorem aHR:ag n (aw n.succ.succ.succ.succ.succ v t)=ag n t:=tq v t
@[simp] theorem aHS:ag n (aw n.succ.succ.succ.succ.succ.succ v t)=ag n t:=tq v t
@[simp] theorem aHT:ag n (aw n.succ.succ.succ.succ.succ.succ.succ v t)=ag n t:=tq v t
@[simp] theorem aHU:ag n.succ (aw n v t)=ag n.succ t:=tq v t
@[simp] theorem aHV:ag n.succ (aw n.succ.succ v t)=ag n.succ t:=tq v t
@[simp] theorem aHW:ag n.succ (aw n.succ.succ.succ v t)=ag n.succ t:=tq v t
@[simp] theorem aHX:ag n.succ (aw n.succ.succ.succ.succ v t)=ag n.succ t:=tq v t
@[simp] theorem aHY:ag n.succ (aw n.succ.succ.succ.succ.succ v t)=ag n.succ t:=tq v t
@[simp] theorem aHZ:ag n.succ (aw n.succ.succ.succ.succ.succ.succ v t)=ag n.succ t:=tq v t
@[simp] theorem aH0:ag n.succ (aw n.succ.succ.succ.succ.succ.succ.succ v t)=ag n.succ t:=tq v t
@[simp] theorem aH1:ag n.succ.succ (aw n v t)=ag n.succ.succ t:=tq v t
@[simp] theorem aH2:ag n.succ.succ (aw n.succ v t)=ag n.succ.succ t:=tq v t
@[simp] theorem aH3:ag n.succ.succ (aw n.succ.succ.succ v t)=ag n.succ.succ t:=tq v t
@[simp] theorem aH4:ag n.succ.succ (aw n.succ.succ.succ.succ v t)=ag n.succ.succ t:=tq v t
@[simp] theorem aH5:ag n.succ.succ (aw n.succ.succ.succ.succ.succ v t)=ag n.succ.succ t:=tq v t
@[simp] theorem aH6:ag n.succ.succ (aw n.succ.succ.succ.succ.succ.succ v t)=ag n.succ.succ t:=tq v t
@[simp] theorem aH7:ag n.succ.succ (aw n.succ.succ.succ.succ.succ.succ.succ v t)=ag n.succ.succ t:=tq v t
@[simp] theorem aH8:ag n.succ.succ.succ (aw n v t)=ag n.succ.succ.succ t:=tq v t
@[simp] theorem aH9:ag n.succ.succ.succ (aw n.succ v t)=ag n.succ.succ.succ t:=tq v t
@[simp] theorem aIa:ag n.succ.succ.succ (aw n.succ.succ v t)=ag n.succ.succ.succ t:=tq v t
@[simp] theorem aIb:ag n.succ.succ.succ (aw n.succ.succ.succ.succ v t)=ag n.succ.succ.succ t:=tq v t
@[simp] theorem aIc:ag n.succ.succ.succ (aw n.succ.succ.succ.succ.succ v t)=ag n.succ.succ.succ t:=tq v t
@[simp] theorem aId:ag n.succ.succ.succ (aw n.succ.succ.succ.succ.succ.succ v t)=ag n.succ.succ.succ t:=tq v t
@[simp] theorem aIe:ag n.succ.succ.succ (aw n.succ.succ.succ.succ.succ.succ.succ v t)=ag n.succ.succ.succ t:=tq v t
@[simp] theorem aIf:ag n.succ.succ.succ.succ (aw n v t)=ag n.succ.succ.succ.succ t:=tq v t
@[simp] theorem aIg:ag n.succ.succ.succ.succ (aw n.succ v t)=ag n.succ.succ.succ.succ t:=tq v t
@[simp] theorem aIh:ag n.succ.succ.succ.succ (aw n.succ.succ v t)=ag n.succ.succ.succ.succ t:=tq v t
@[simp] theorem aIi:ag n.succ.succ.succ.succ (aw n.succ.succ.succ v t)=ag n.succ.succ.succ.succ t:=tq v t
@[simp] theorem aIj:ag n.succ.succ.succ.succ (aw n.succ.succ.succ.succ.succ v t)=ag n.succ.succ.succ.succ t:=tq v t
@[simp] theorem aIk:ag n.succ.succ.succ.succ (aw n.succ.succ.succ.succ.succ.succ v t)=ag n.succ.succ.succ.succ t:=tq v t
@[simp] theorem aIl:ag n.succ.succ.succ.succ (aw n.succ.succ.succ.succ.succ.succ.succ v t)=ag n.succ.succ.succ.succ t:=tq v t
@[simp] theorem aIm:ag n.succ.succ.succ.succ.succ (aw n v t)=ag n.succ.succ.succ.succ.succ t:=tq v t
@[simp] theorem aIn:ag n.succ.succ.succ.succ.succ (aw n.succ v t)=ag n.succ.succ.succ.succ.succ t:=tq v t
@[simp] theorem aIo:ag n.succ.succ.succ.succ.succ (aw n.succ.succ v t)=ag n.succ.succ.succ.succ.succ t:=tq v t
@[simp] theorem aIp:ag n.succ.succ.succ.succ.succ (aw n.succ.succ.succ v t)=ag n.succ.succ.succ.succ.succ t:=tq v t
@[simp] theorem aIq:ag n.succ.succ.succ.succ.succ (aw n.succ.succ.succ.succ v t)=ag n.succ.succ.succ.succ.succ t:=tq v t
@[simp] theorem aIr:ag n.succ.succ.succ.succ.succ (aw n.succ.succ.succ.succ.succ.succ v t)=ag n.succ.succ.succ.succ.succ t:=tq v t
@[simp] theorem aIs:ag n.succ.succ.succ.succ.succ (aw n.succ.succ.succ.succ.succ.succ.succ v t)=ag n.succ.succ.succ.succ.succ t:=tq v t
@[simp] theorem aIt:ag n.succ.succ.succ.succ.succ.succ (aw n v t)=ag n.succ.succ.succ.succ.succ.succ t:=tq v t
@[simp] theorem aIu:ag n.succ.succ.succ.succ.succ.succ (aw n.succ v t)=ag n.succ.succ.succ.succ.succ.succ t:=tq v t
@[simp] theorem aIv:ag n.succ.succ.succ.succ.succ.succ (aw n.succ.succ v t)=ag n.succ.succ.succ.succ.succ.succ t:=tq v t
@[simp] theorem aIw:ag n.succ.succ.succ.succ.succ.succ (aw n.succ.succ.succ v t)=ag n.succ.succ.succ.succ.succ.succ t:=tq v t
@[simp] theorem aIx:ag n.succ.succ.succ.succ.succ.succ (aw n.succ.succ.succ.succ v t)=ag n.succ.succ.succ.succ.succ.succ t:=tq v t
@[simp] theorem aIy:ag n.succ.succ.succ.succ.succ.succ (aw n.succ.succ.succ.succ.succ v t)=ag n.succ.succ.succ.succ.succ.succ t:=tq v t
@[simp] theorem aIz:ag n.succ.succ.succ.succ.succ.succ (aw n.succ.succ.succ.succ.succ.succ.succ v t)=ag n.succ.succ.succ.succ.succ.succ t:=tq v t
@[simp] theorem aIA:ag n.succ.succ.succ.succ.succ.succ.succ (aw n v t)=ag n.succ.succ.succ.succ.succ.succ.succ t:=tq v t
@[simp] theorem aIB:ag n.succ.succ.succ.succ.succ.succ.succ (aw n.succ v t)=ag n.succ.succ.succ.succ.succ.succ.succ t:=tq v t
@[simp] theorem aIC:ag n.succ.succ.succ.succ.succ.succ.succ (aw n.succ.succ v t)=ag n.succ.succ.succ.succ.succ.succ.succ t:=tq v t
@[simp] theorem aID:ag n.succ.succ.succ.succ.succ.succ.succ (aw n.succ.succ.succ v t)=ag n.succ.succ.succ.succ.succ.succ.succ t:=tq v t
@[simp] theorem aIE:ag n.succ.succ.succ.succ.succ.succ.succ (aw n.succ.succ.succ.succ v t)=ag n.succ.succ.succ.succ.succ.succ.succ t:=tq v t
@[simp] theorem aIF:ag n.succ.succ.succ.succ.succ.succ.succ (aw n.succ.succ.succ.succ.succ v t)=ag n.succ.succ.succ.succ.succ.succ.succ t:=tq v t
@[simp] theorem aIG:ag n.succ.succ.succ.succ.succ.succ.succ (aw n.succ.succ.succ.succ.succ.succ v t)=ag n.succ.succ.succ.succ.succ.succ.succ t:=tq v t
@[simp] theorem ayV(k:IntKind):qL (.int k (.lit 2))=some 2:=rfl
@[simp] theorem atV(k:IntKind):qL (.int k (.lit 3))=some 3:=rfl
theorem mq:∀(k:Key),Key.beq k k=true
 |.z=>rfl
 |.o k=>by rw[Key.beq];exact mq k
 |.e k=>by rw[Key.beq];exact mq k
theorem aeD(f:SF):SF.beq f f=true:=by cases f<;>simp[SF.beq,mq]
mutual
def AV.lits:AV→Bool
 |.int _ (.lit _)=>true
 |.int _ _=>false
 |.fn _ a c=>AV.dU a&&AV.dU c
 |.iface _ v=>AV.lits v
 |.agg l=>AV.dU l
 |.tuple l=>AV.dU l
 |.sl l _ _ _=>AV.dU l
 |.cref l=>AV.dU l
 |_=>true
def AV.dU:List AV→Bool
 | []=>true
 |v ::l=>AV.lits v&&AV.dU l
end
mutual
theorem beq_refl:∀(v:AV),AV.lits v=true→AV.beq v v=true
 |.bool b,_=>by simp[AV.beq]
 |.int k (.lit n),_=>by cases k<;>simp[AV.beq,SI.beq]
 |.int k (.var n),h=>by simp[AV.lits]at h
 |.int k (.bin o k' a b),h=>by simp[AV.lits]at h
 |.str n c,_=>by simp[AV.beq]
 |.ptr b o,_=>by simp[AV.beq,mq]
 |.nilp,_=>by simp[AV.beq]
 |.slice b o l s,_=>by simp[AV.beq,mq]
 |.nils,_=>by simp[AV.beq]
 |.map b,_=>by simp[AV.beq,mq]
 |.nilm,_=>by simp[AV.beq]
 |.fn f a c,h=>by simp[AV.lits]at h;simp[AV.beq,um a h.1,um c h.2]
 |.yld l,_=>by simp[AV.beq,mq]
 |.nilf,_=>by simp[AV.beq]
 |.iface t v,h=>by simp[AV.lits]at h;simp[AV.beq,beq_refl v h]
 |.nili,_=>by simp[AV.beq]
 |.agg l,h=>by simp[AV.lits]at h;simp[AV.beq,um l h]
 |.tuple l,h=>by simp[AV.lits]at h;simp[AV.beq,um l h]
 |.sl l n z f,h=>by simp[AV.lits]at h;simp[AV.beq,aeD,um l h]
 |.cref l,h=>by simp[AV.lits]at h;simp[AV.beq,um l h]
theorem um:∀(l:List AV),AV.dU l=true→AV.II l l=true
 | [],_=>by simp[AV.II]
 |v ::l,h=>by simp[AV.dU]at h;simp[AV.II,beq_refl v h.1,um l h.2]
end
theorem aaZ:∀{l:List AV},(∀x∈l,AV.lits x=true)→AV.dU l=true
 | [],_=>by simp[AV.dU]
 |v ::l,h=>by simp[AV.dU,h v (by simp),aaZ (l:=l) fun x hx=>h x (by simp[hx])]
theorem kF:∀{l:List AV},AV.dU l=true→∀x∈l,AV.lits x=true
 | [],_,x,hx=>by simp at hx
 |v ::l,h,x,hx=>by
  simp[AV.dU]at h;rcases GP.1 hx with rfl|hx
  ·exact h.1
  ·exact kF h.2 x hx
end Go.Sx
namespace Go.Sx
open Go
structure Fn(C:bP)(f:Nat)(p:fq):Prop where
 get:HA C f=some p
 off:∀l h nx,C.sum f l h nx=none
 ma:C.ma f=false
theorem Fn.call{C:bP}{f:Nat}{p:fq}(S:Fn C f p){l:List AV}{h:T ah}{nx:Key}{R:Out→T ah→Key→Prop}(hw:iT C p.body (fQ p.res R) (ic l (K 0) .nil) h nx):aJ C f l h nx R:=
 aJ.of (S.off _ _ _) S.get S.ma hw
abbrev S:=Nat×Nat
def KD(c:AV):Prop:=∀n h,aS n c h=(c,h)
theorem KE(l:List AV)(n z:Nat):KD (.sl l n z .any):=fun k h=>by cases k<;>rfl
theorem qG:KD .nils:=fun k h=>by cases k<;>rfl
theorem c5(k:IntKind)(n:SI):KD (.int k n):=fun k h=>by cases k<;>rfl
theorem jj(a b:Nat):KD (.str a b):=fun k h=>by cases k<;>rfl
theorem alv(b:Bool):KD (.bool b):=fun k h=>by cases k<;>rfl
theorem bF{n:Nat}:∀{l:List AV} {h:T ah},(∀x∈l,KD x)→bA (aS n) l h=(l,h)
 | [],_,_=>rfl
 |v ::l,h,hs=>by have h1:=hs v (by simp) n h;have h2:=bF (n:=n) (l:=l) (h:=h) fun x hx=>hs x (by simp[hx]);simp only[bA,h1,h2]
theorem yQ{n:Nat}{b:Key}{len sz:Nat}{l:List AV}{H:T ah}(hg:ag b H=some (.cells l .part))(hl:l.length=len*sz)(hs:∀x∈l,KD x):aS (n+1) (.slice b 0 len sz) H=(.sl l len sz .any,aw b (some (.cells l .rop)) H):=by simp only[aS,JC,hg,List.drop_zero];rw[if_pos (by omega),Lm (by omega),bF hs]
theorem ahm{n:Nat}{b:Key}{len sz:Nat}{l:List AV}{H:T ah}(hg:ag b H=some (.cells l .rop))(hl:l.length=len*sz)(hs:∀x∈l,KD x):aS (n+1) (.slice b 0 len sz) H=(.sl l len sz .any,H):=by simp only[aS,JC,hg,List.drop_zero];rw[if_pos (by omega),Lm (by omega),bF hs]
theorem ame{n:Nat}{b:Key}{len sz:Nat}{l:List AV}{H:T ah}(hg:ag b H=some (.cells l .ro))(hl:l.length=len*sz)(hs:∀x∈l,KD x):aS (n+1) (.slice b 0 len sz) H=(.sl l len sz .any,H):=by simp only[aS,JC,hg,List.drop_zero];rw[if_pos (by omega),Lm (by omega),bF hs]
theorem o9{n:Nat}{b:Key}{len sz:Nat}{l:List AV}{H:T ah}(hg:ag b H=some (.cells l .fix))(hl:l.length=len*sz)(hs:∀x∈l,KD x):aS (n+1) (.slice b 0 len sz) H=(.sl l len sz .any,aw b (some (.cells l .ro)) H):=by simp only[aS,JC,hg,List.drop_zero];rw[if_pos (by omega),Lm (by omega),bF hs]
def Pur(C:bP)(f:Nat)(l:List AV)(P:Out→Prop):Prop:=∀h nx,aJ C f l h nx (fun o h' nx'=>P o∧Ext h nx h' nx')
theorem Pur.mono{C:bP}{f:Nat}{l:List AV}{P Q:Out→Prop}(hp:Pur C f l P)(hq:∀o,P o→Q o):Pur C f l Q:=
 fun h nx=>(hp h nx).mono fun o _ _ ⟨a,b⟩=>⟨hq o a,b⟩
theorem E0(h:T ah)(nx:Key)(B:ah):Ext h nx (aw nx (some B) h) nx.succ:=by have s1:=kTSu nx;exact⟨by omega,fun b hb=>by rw[aA hb]⟩
theorem Ext.put{h h':T ah}{nx nx' k:Key}{B:Option ah}(e:Ext h nx h' nx')(hk:nx.toNat≤k.toNat):Ext h nx (aw k B h') nx':=
 ⟨e.n,fun b hb=>by rw[aA (by omega)];exact e.g b hb⟩
theorem Ext.up{h h':T ah}{nx nx' n2:Key}(e:Ext h nx h' nx')(hn:nx'.toNat≤n2.toNat):Ext h nx h' n2:=⟨by have:=e.n;omega,e.g⟩
section
variable{α:Type}
def aq(enc:α→List AV)(l:List α):List AV:=l.flatMap enc
structure Flat(z:Nat)(enc:α→List AV):Prop where
 len:∀x,(enc x).length=z
 wU:∀x,∀y∈enc x,KD y
 cell:∀x,∀y∈enc x,AV.aM y=true
 lits:∀x,AV.dU (enc x)=true
variable{z:Nat}{enc:α→List AV}
@[simp] theorem ai0(enc:α→List AV):aq enc []=[]:=rfl
theorem dg(enc:α→List AV)(x:α)(l:List α):aq enc (x ::l)=enc x++aq enc l:=rfl
theorem ju(enc:α→List AV)(l m:List α):aq enc (l++m)=aq enc l++aq enc m:=by simp[aq]
theorem iC(enc:α→List AV)(x:α):aq enc [x]=enc x:=by simp[aq]
theorem Flat.rows(F:Flat z enc):∀(l:List α),(aq enc l).length=l.length*z
 | []=>by simp
 |x ::l=>by rw[dg,DG,F.len,F.rows l,ZW,Nat.add_mul,Nat.one_mul,Nat.add_comm]
theorem Flat.drop(F:Flat z enc):∀(l:List α) (i:Nat),(aq enc l).drop (i*z)=aq enc (l.drop i)
 |l,0=>by simp
 | [],i+1=>by simp
 |x ::l,i+1=>by
  have hx:(enc x).length=z:=F.len x;have hz:z≤(i+1)*z:=Nat.le_mul_of_pos_left _ (Nat.succ_pos _);have he:(i+1)*z-z=i*z:=by rw[Nat.add_mul,Nat.one_mul];omega
  rw[dg,zqq,List.drop_eq_nil_of_le (by omega),List.nil_append,hx,he,F.drop l i];simp
theorem Flat.take(F:Flat z enc):∀(l:List α) (i:Nat),(aq enc l).take (i*z)=aq enc (l.take i)
 |l,0=>by simp
 | [],i+1=>by simp
 |x ::l,i+1=>by
  have hx:(enc x).length=z:=F.len x;have hz:z≤(i+1)*z:=Nat.le_mul_of_pos_left _ (Nat.succ_pos _);have he:(i+1)*z-z=i*z:=by rw[Nat.add_mul,Nat.one_mul];omega
  rw[dg,zqw,Lm (by omega),hx,he,F.take l i];simp[dg]
theorem Flat.at(F:Flat z enc){l:List α}{i:Nat}(hi:i<l.length):((aq enc l).drop (i*z)).take z=enc l[i]:=by rw[F.drop,zqt hi,dg,List.take_append_of_le_length (by rw[F.len];exact fE _),Lm (by rw[F.len];exact fE _)]
theorem Flat.FM(F:Flat z enc)(l:List α):∀y∈aq enc l,KD y:=by intro y hy;obtain⟨x,_,hx⟩:=List.mem_flatMap.1 hy;exact F.wU x y hx
theorem Flat.cells(F:Flat z enc)(l:List α):∀y∈aq enc l,AV.aM y=true:=by intro y hy;obtain⟨x,_,hx⟩:=List.mem_flatMap.1 hy;exact F.cell x y hx
theorem Flat.aAo(F:Flat z enc)(l:List α):(aq enc l).all AV.aM=true:=sF.2 (F.cells l)
theorem Flat.atr(F:Flat z enc)(l:List α):AV.dU (aq enc l)=true:=by refine aaZ fun y hy=>?_;obtain⟨x,_,hx⟩:=List.mem_flatMap.1 hy;exact kF (F.lits x) y hx
def nW(z:Nat)(enc:α→List AV)(c:AV)(l:List α):Prop:=(c=.nils∧l=[])∨c=.sl (aq enc l) l.length z .any
theorem nW.wU{c:AV}{l:List α}(h:nW z enc c l):KD c:=by
 rcases h with⟨rfl,_⟩|rfl
 ·exact qG
 ·exact KE _ _ _
theorem nW.cell{c:AV}{l:List α}(h:nW z enc c l):c.aM=true∧c.cells=[c]:=by rcases h with⟨rfl,_⟩|rfl<;>exact⟨rfl,rfl⟩
end
structure App(c:AV)(l:List AV)(len sz:Nat)(h:T ah)(nx n0:Key):Prop where
 is:(c=.nils∧l=[]∧len=0)∨(∃b:Key,c=.slice b 0 len sz∧ag b h=some (.cells l .part)∧n0.toNat≤b.toNat∧b.toNat<nx.toNat∧l.length=len*sz)∨
  (∃t:Key,c=.sl l len sz (.tok t)∧ag t h=some .tok∧n0.toNat≤t.toNat∧t.toNat<nx.toNat)
section
variable{c:AV}{l new:List AV}{len sz m:Nat}{h h':T ah}{nx nx' n0:Key}
theorem App.nil(sz:Nat):App .nils [] 0 sz h nx n0:=⟨.inl ⟨rfl,rfl,rfl⟩⟩
theorem App.fu(ha:App c l len sz h nx n0)(h0:n0.toNat≤nx.toNat)(hn:new.length=m*sz)(hl:len+m≤1048576)(hc:new.all AV.aM=true) :
  ∃c' h' nx',appendTo sz c new m h nx=.val c' h' nx'∧App c' (l++new) (len+m) sz h' nx' n0∧nx.toNat≤nx'.toNat∧(∀b:Key,b.toNat<n0.toNat→ag b h'=ag b h)∧∀b:Key,b.toNat<nx.toNat→(∀B,ag b h=some B→B≠.tok∧∀l,B≠.cells l .part)→ag b h'=ag b h:=by
 have s1:=kTSu nx;by_cases hm:m=0
 ·subst hm;have:new=[]:=zqr (by omega);subst this;rcases id ha.is with⟨rfl,rfl,rfl⟩|⟨b,rfl,hb,lV,cQ,hll⟩|⟨t,rfl,ht,lV,cQ⟩
  ·exact⟨.nils,h,nx,by simp,by simpa using ha,fE _,fun _ _=>rfl,fun _ _ _=>rfl⟩
  ·exact⟨.slice b 0 len sz,h,nx,by have RK:len≤1048576:=hl;simp[hb,RK],by simpa using ha,fE _,fun _ _=>rfl,fun _ _ _=>rfl⟩
  ·exact⟨.sl l len sz (.tok t),h,nx,by simp,by simpa using ha,fE _,fun _ _=>rfl,fun _ _ _=>rfl⟩
 ·rcases id ha.is with⟨rfl,rfl,rfl⟩|⟨b,rfl,hb,lV,cQ,hll⟩|⟨t,rfl,ht,lV,cQ⟩
  ·have MI:m≤1048576:=by omega
   exact⟨.slice nx 0 (0+m) sz,aw nx (some (.cells new .part)) h,nx.succ,by simp[hm,MI],⟨.inr (.inl ⟨nx,rfl,by simp,by omega,by omega,by simpa using hn⟩)⟩,by omega,fun b hb=>aA (by omega),fun b hb _=>aA hb⟩
  ·cases hw:Jb sz with
   |true=>
    refine⟨.slice nx 0 (len+m) sz,aw nx (some (.cells (l++new) .part)) (aw b none h),nx.succ,?_,⟨.inr (.inl ⟨nx,rfl,by simp,by omega,by omega,by rw[DG,hll,hn,Nat.add_mul]⟩)⟩,by omega,fun x hx=>?_,fun x hx hk=>?_⟩
    ·simp[hl,hc,hb,hll,hm,hw]
    ·rw[aA (by omega),aA (by omega)]
    ·rw[aA hx,aP];rintro rfl;exact(hk _ hb).2 l rfl
   |false=>
    refine⟨.sl (l++new) (len+m) sz (.tok nx),aw nx (some .tok) (aw b none h),nx.succ,?_,⟨.inr (.inr ⟨nx,rfl,by simp,by omega,by omega⟩)⟩,by omega,fun x hx=>?_,fun x hx hk=>?_⟩
    ·simp[hl,hc,hb,hll,hm,hw]
    ·rw[aA (by omega),aA (by omega)]
    ·rw[aA hx,aP];rintro rfl;exact(hk _ hb).2 l rfl
  ·refine⟨.sl (l++new) (len+m) sz (.tok nx),aw nx (some .tok) (aw t none h),nx.succ,?_,⟨.inr (.inr ⟨nx,rfl,by simp,by omega,by omega⟩)⟩,by omega,fun x hx=>?_,fun x hx hk=>?_⟩
   ·simp[hl,hc,ht,hm]
   ·rw[aA (by omega),aA (by omega)]
   ·rw[aA hx,aP];rintro rfl;exact(hk _ ht).1 rfl
theorem App.cv(ha:App c l len sz h nx n0)(hn:nx.toNat≤nx'.toNat)(hg:∀b:Key,b.toNat<nx.toNat→(ag b h=some .tok∨∃l,ag b h=some (.cells l .part))→ag b h'=ag b h):App c l len sz h' nx' n0:=by
 refine⟨?_⟩;rcases ha.is with⟨rfl,rfl,rfl⟩|⟨b,rfl,hb,lV,cQ,hll⟩|⟨t,rfl,ht,lV,cQ⟩
 ·exact .inl ⟨rfl,rfl,rfl⟩
 ·exact .inr (.inl ⟨b,rfl,by rw[hg b cQ (.inr ⟨_,hb⟩)];exact hb,lV,by omega,hll⟩)
 ·exact .inr (.inr ⟨t,rfl,by rw[hg t cQ (.inl ht)];exact ht,lV,by omega⟩)
theorem App.ext(ha:App c l len sz h nx n0)(e:Ext h nx h' nx'):App c l len sz h' nx' n0:=ha.cv e.n fun b hb _=>e.g b hb
theorem App.cell(ha:App c l len sz h nx n0):c.aM=true∧c.cells=[c]:=by rcases ha.is with⟨rfl,rfl,rfl⟩|⟨b,rfl,_⟩|⟨t,rfl,_⟩<;>exact⟨rfl,rfl⟩
theorem App.set{k:Key}{B:Option ah}(ha:App c l len sz h nx n0)(hk:∀B,ag k h=some B→B≠.tok∧∀l,B≠.cells l .part):App c l len sz (aw k B h) nx n0:=
 ha.cv (fE _) fun b _ hx=>aP _ _ _ _ fun e=>by
  subst e;rcases hx with hx|⟨l,hx⟩
  ·exact(hk _ hx).1 rfl
  ·exact(hk _ hx).2 _ rfl
theorem App.ajo(ha:App c l len sz h nx n0)(orc:iV){tm:T AV}{k:Key}(hk:ag k tm=some c):lightOp orc (.lenL (.t k)) tm h=some (I len):=by rcases ha.is with⟨rfl,rfl,rfl⟩|⟨b,rfl,_⟩|⟨t,rfl,_⟩<;>simp[hk]
theorem App.am5(ha:App c l len sz h nx n0)(hs:∀y∈l,KD y)(n:Nat) :
  ((aS (n+1) c h).1=.nils∧l=[]∧len=0∨(aS (n+1) c h).1=.sl l len sz .any)∧∀b:Key,b.toNat<n0.toNat→ag b (aS (n+1) c h).2=ag b h:=by
 rcases ha.is with⟨rfl,rfl,rfl⟩|⟨b,rfl,hb,lV,cQ,hll⟩|⟨t,rfl,ht,lV,cQ⟩
 ·exact⟨.inl ⟨rfl,rfl,rfl⟩,fun _ _=>rfl⟩
 ·rw[yQ hb hll hs];exact⟨.inr rfl,fun x hx=>aA (by omega)⟩
 ·exact⟨.inr rfl,fun _ _=>rfl⟩
theorem App.aaF{α:Type}{enc:α→List AV}(F:Flat sz enc){us:List α}(ha:App c (aq enc us) us.length sz h nx n0)(n:Nat) :
  nW sz enc (aS (n+1) c h).1 us∧∀b:Key,b.toNat<n0.toNat→ag b (aS (n+1) c h).2=ag b h:=by
 obtain⟨h1,h2⟩:=ha.am5 (F.FM us) n;refine⟨?_,h2⟩;rcases h1 with⟨e,_,e3⟩|e
 ·exact .inl ⟨e,zqr e3⟩
 ·exact .inr e
theorem App.Z7{α:Type}{enc:α→List AV}(F:Flat sz enc){us:List α}(ha:App c (aq enc us) us.length sz h nx n0)(h0:n0.toNat≤nx.toNat)(hl:us.length+1≤1048576)(x:α) :
  ∃c' h' nx',appendTo sz c (enc x) 1 h nx=.val c' h' nx'∧App c' (aq enc (us ++ [x])) (us ++ [x]).length sz h' nx' n0∧nx.toNat≤nx'.toNat∧(∀b:Key,b.toNat<n0.toNat→ag b h'=ag b h)∧∀b:Key,b.toNat<nx.toNat→(∀B,ag b h=some B→B≠.tok∧∀l,B≠.cells l .part)→ag b h'=ag b h:=by
 obtain⟨c',h',nx',a,b,c,d,e⟩:=ha.fu (new:=enc x) (m:=1) h0 (by rw[F.len,Nat.one_mul]) hl (sF.2 (F.cell x));exact⟨c',h',nx',a,by rw[ju,iC,DG];exact b,c,d,e⟩
end
end Go.Sx
