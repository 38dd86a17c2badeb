/- A part of the proof. No condition. -/
import Derived.Test.YtecbfpngkfdkoaaGreatP4
import Derived.Orders
import Derived.Recover
set_option linter.unusedSimpArgs false
set_option linter.unusedVariables false
set_option linter.unusedSectionVars false
namespace Go.Sx
open Go.RowKit
def KJ(ops:Array Oper):(Nat→Bool)→List Nat→Prop
 |D,[]=>∀ i,i<ops.size→D i=true
 |D,i ::r=>i<ops.size∧D i=false∧(∀ o,ops[i]?=some o→∀ e∈o.after.toList,Region.binds .any e=true→D e.on=true)∧KJ ops (fun j=>D j||j==i) r
theorem KJ.congr{ops:Array Oper}:∀ {l:List Nat} {D D':Nat→Bool},(∀ i,i<ops.size→D i=D' i)→(∀ (i:Nat) (o:Oper),ops[i]?=some o→∀ e∈o.after.toList,Region.binds .any e=true→e.on<ops.size)→KJ ops D l→KJ ops D' l
 | [],D,D',h,_,hv=>fun i hi=>by rw[← h i hi];exact hv i hi
 |i ::r,D,D',h,he,hv=>by
  obtain⟨h1,h2,h3,h4⟩:=hv
  refine⟨h1,by rw[← h i h1];exact h2,fun o ho e hm hb=>?_,KJ.congr (fun j hj=>by rw[h j hj]) he h4⟩
  rw[← h e.on (he i o ho e hm hb)];exact h3 o ho e hm hb
def HH(ops:Array Oper):Prop:=∀ (i:Nat) (o:Oper),ops[i]?=some o→∀ e∈o.after.toList,Region.binds .any e=true→e.on<i
def unl(n:Nat)(listed:Array Bool):Nat:=(List.range n).countP fun i=>!listed.getD i true
theorem apd{n:Nat}{listed:Array Bool}(hs:listed.size=n){i:Nat}(hi:i<n)(hf:listed.getD i true=false):unl n listed=unl n (listed.setIfInBounds i true)+1:=by
 unfold unl
 have key:∀ (l:List Nat),l.Nodup→(∀ j∈l,j<n)→l.countP (fun j=>!listed.getD j true)=l.countP (fun j=>!(listed.setIfInBounds i true).getD j true)+(if i∈l then 1 else 0):=by
  intro l
  induction l with
  |nil=>intro _ _;simp
  |cons x l ih=>
   intro Dn bN
   have aFn:=List.nodup_cons.1 Dn
   rw[List.countP_cons,List.countP_cons,ih aFn.2 (fun j hj=>bN j (by simp[hj]))]
   by_cases hx:x=i
   ·subst hx
    have h1:(listed.setIfInBounds x true).getD x true=true:=by
     simp[Array.getD,hs,hi]
    simp only[hf,h1,aFn.1,if_false,JY,true_or,if_true]
    simp
   ·have h1:(listed.setIfInBounds i true).getD x true=listed.getD x true:=by
     simp only[Array.getD_eq_getD_getElem?]
     rw[zqn (fun e=>hx e.symm)]
    have h2:(i∈x ::l)↔i∈l:=by simp[Ne.symm hx]
    simp only[h1,h2]
    omega
 rw[key _ List.nodup_range (fun j hj=>by simpa using hj),if_pos (by simpa using hi)]
theorem axn{n:Nat}{listed:Array Bool}(h:0<unl n listed):∃ i,i<n∧listed.getD i true=false∧∀ j,j<i→listed.getD j true=true:=by
 unfold unl at h
 rw[List.countP_pos_iff] at h
 obtain⟨a,ha,hb⟩:=h
 have ha:a<n:=by simpa using ha
 have hb:listed.getD a true=false:=by simpa using hb
 induction a using Nat.strongRecOn with
 |_ a ih=>
  by_cases EV:∀ j,j<a→listed.getD j true=true
  ·exact⟨a,ha,hb,EV⟩
  ·simp only[Classical.not_forall] at EV
   obtain⟨j,hj,hjf⟩:=EV
   exact ih j hj (by simpa using Nat.lt_trans hj ha) (by simpa using hjf) (Nat.lt_trans hj ha) (by simpa using hjf)
theorem Hv{ops:Array Oper}(hd:HH ops):∀ (fuel t:Nat) (listed:Array Bool) (acc:List Nat),listed.size=ops.size→unl ops.size listed=fuel→
  ∃ r,Region.linearise.go .any ops fuel t listed acc=acc.reverse++r∧KJ ops (fun i=>listed.getD i true) r
 |0,t,listed,acc,hs,hu=>by
  refine⟨[],by simp[Region.linearise.go],fun i hi=>?_⟩
  show listed.getD i true=true
  cases h:listed.getD i true with
  |true=>rfl
  |false=>have:=apd hs hi h;omega
 |fuel+1,t,listed,acc,hs,hu=>by
  obtain⟨i0,hi0,hf0,aLJ⟩:=axn (n:=ops.size) (listed:=listed) (by omega)
  simp only[Region.linearise.go]
  generalize hrs:(List.range ops.size).filter (fun i=>!listed.getD i true&&((ops[i]?).map (·.after.all fun e=>!Region.binds .any e||listed.getD e.on false)).getD false)=rs
  have gq:∀ i,i∈rs↔i<ops.size∧listed.getD i true=false∧∀ o,ops[i]?=some o→∀ e∈o.after.toList,Region.binds .any e=true→listed.getD e.on false=true:=by
   intro i
   rw[← hrs,List.mem_filter]
   constructor
   ·rintro⟨h1,h2⟩
    have hi:i<ops.size:=by simpa using h1
    simp only[iE,Bool.not_eq_true'] at h2
    refine⟨hi,h2.1,fun o ho e he hb=>?_⟩
    have h3:=h2.2
    rw[ho] at h3
    simp only[Option.map_some,Option.getD_some,Array.all_eq_true_iff_forall_mem] at h3
    have:=h3 e (by simpa using he)
    simpa[hb] using this
   ·rintro⟨hi,h1,h2⟩
    refine⟨by simpa using hi,?_⟩
    simp only[iE,Bool.not_eq_true']
    refine⟨h1,?_⟩
    have ho:ops[i]?=some ops[i]:=by simp[hi]
    rw[ho]
    simp only[Option.map_some,Option.getD_some,Array.all_eq_true_iff_forall_mem]
    intro e he
    cases hb:Region.binds .any e with
    |false=>rfl
    |true=>simpa using h2 _ ho e (by simpa using he) hb
  have bI:i0∈rs:=by
   rw[gq]
   refine⟨hi0,hf0,fun o ho e he hb=>?_⟩
   have bN:=hd i0 o ho e he hb
   have h1:=aLJ e.on bN
   have:e.on<listed.size:=by omega
   simp only[Array.getD_eq_getD_getElem?,this,getElem?_pos,Option.getD_some] at h1 ⊢
   exact h1
  have hlen:0<rs.length:=List.length_pos_of_mem bI
  have bN:t%rs.length<rs.length:=Nat.mod_lt _ hlen
  have mI:rs[t%rs.length]?=some rs[t%rs.length]:=by simp[bN]
  rw[mI]
  have sC:rs[t%rs.length]∈rs:=JW bN
  generalize rs[t%rs.length]=i at sC
  obtain⟨hi,hf,aLK⟩:=(gq i).1 sC
  have hun:=apd hs hi hf
  obtain⟨r,hr,hv⟩:=Hv hd fuel (t / rs.length) (listed.setIfInBounds i true) (i ::acc) (by simp[hs]) (by omega)
  refine⟨i ::r,?_,hi,hf,fun o ho e he hb=>?_,?_⟩
  ·show Region.linearise.go _ _ _ _ _ _=_
   rw[hr];simp
  ·have h1:=aLK o ho e he hb
   have bN:=hd i o ho e he hb
   have:e.on<listed.size:=by omega
   simp only[Array.getD_eq_getD_getElem?,this,getElem?_pos,Option.getD_some] at h1 ⊢
   exact h1
  ·refine KJ.congr ?_ (fun j o ho e he hb=>?_) hv
   ·intro j hj
    by_cases sB:j=i
    ·subst sB
     have:j<listed.size:=by omega
     simp[Array.getD,this]
    ·simp only[Array.getD_eq_getD_getElem?]
     rw[zqn (fun e=>sB e.symm)]
     simp[sB]
   ·have h1:=hd j o ho e he hb
    have:j<ops.size:=by
     rcases Dp j ops.size with h'|h'
     ·exact h'
     ·rw[Tx h'] at ho;cases ho
    omega
theorem Oe{ops:Array Oper}(hd:HH ops)(t:Nat):KJ ops (fun _=>false) (Region.schedule true ops t):=by
 have hu:unl ops.size (Array.replicate ops.size false)=ops.size:=by
  unfold unl
  rw[List.countP_eq_length.2 (fun a ha=>by
   have:a<ops.size:=by simpa using ha
   simp[Array.getD,this])]
  simp
 obtain⟨r,hr,hv⟩:=Hv hd ops.size t (Array.replicate ops.size false) [] (by simp) hu
 have:Region.schedule true ops t=r:=by simp[Region.schedule,Region.linearise,hr]
 rw[this]
 refine KJ.congr (fun i hi=>by simp[Array.getD,hi]) (fun j o ho e he hb=>?_) hv
 have h1:=hd j o ho e he hb
 have:j<ops.size:=by
  rcases Dp j ops.size with h'|h'
  ·exact h'
  ·rw[Tx h'] at ho;cases ho
 omega
end Go.Sx
/-
 SX: the model's own steps, one by one, for a single goroutine. No condition.
-/
namespace Go.Sx
open Go.RowKit
section
variable{P:Program}{fr:Frame}{cs:List Frame}{w w':World}{k:List Item}
def G1(fr:Frame)(cs:List Frame):Goroutine:={frame:=fr,callers:=cs,status:=.running,dying:=none}
theorem aqh(hm:fr.mode=.run):stepG P true (G1 fr cs) w=stepG.exec P true true fr cs none w:=by
 simp[stepG,G1,hm]
theorem Ss(hm:fr.mode≠.run):stepG P true (G1 fr cs) w=unwind P true fr cs none w:=by
 cases h:fr.mode with
 |run=>exact absurd h hm
 |returning=>simp[stepG,G1,h]
 |panicking c=>simp[stepG,G1,h]
theorem dj{ej:Frame}{yw:List Frame}(hm:fr.mode=.run)(h:(stepG.exec P true true fr cs none w).bare=.go (G1 ej yw) w'):step P (lone fr cs w)=.next (lone ej yw w'):=
 step_lone_go (by have:=aqh (P:=P) (cs:=cs) (w:=w) hm;simp only[G1] at this h;rw[this];exact h)
theorem Ix{ej:Frame}{yw:List Frame}(hm:fr.mode≠.run)(h:(unwind P true fr cs none w).bare=.go (G1 ej yw) w'):step P (lone fr cs w)=.next (lone ej yw w'):=
 step_lone_go (by have:=Ss (P:=P) (cs:=cs) (w:=w) hm;simp only[G1] at this h;rw[this];exact h)
theorem awA(hm:fr.mode=.run)(ht:fr.todo=.code .skip ::k):step P (lone fr cs w)=.next (lone {fr with todo:=k} cs w):=
 dj hm (by simp[stepG.exec,ht,G1])
theorem aAL{a b:Code}(hm:fr.mode=.run)(ht:fr.todo=.code (.seq a b) ::k):step P (lone fr cs w)=.next (lone {fr with todo:=.code a ::.code b ::k} cs w):=
 dj hm (by simp[stepG.exec,ht,G1])
theorem amY{c:Operand}{a b:Code}{t:Bool}(hm:fr.mode=.run)(ht:fr.todo=.code (.cond c a b) ::k)(hc:fr.eval c=.bool t) :
  step P (lone fr cs w)=.next (lone {fr with todo:=.code (if t then a else b) ::k} cs w):=
 dj hm (by simp[stepG.exec,ht,G1,hc])
theorem as3{id:Nat}{c:Code}(hm:fr.mode=.run)(ht:fr.todo=.code (.block id c) ::k):step P (lone fr cs w)=.next (lone {fr with todo:=.code c ::.inBlock id ::k} cs w):=
 dj hm (by simp[stepG.exec,ht,G1])
theorem ajM{id:Nat}(hm:fr.mode=.run)(ht:fr.todo=.inBlock id ::k):step P (lone fr cs w)=.next (lone {fr with todo:=k} cs w):=
 dj hm (by simp[stepG.exec,ht,G1])
theorem as4{c:Code}(hm:fr.mode=.run)(ht:fr.todo=.code (.scope c) ::k):step P (lone fr cs w)=.next (lone {fr with todo:=.code c ::.inScope c ::k} cs w):=
 dj hm (by simp[stepG.exec,ht,G1])
theorem as5{i:Nat}(hm:fr.mode=.run)(ht:fr.todo=.code (.label i) ::k):step P (lone fr cs w)=.next (lone {fr with todo:=k} cs w):=
 dj hm (by simp[stepG.exec,ht,G1])
theorem ajN{c:Code}(hm:fr.mode=.run)(ht:fr.todo=.inScope c ::k):step P (lone fr cs w)=.next (lone {fr with todo:=k} cs w):=
 dj hm (by simp[stepG.exec,ht,G1])
theorem Su{c:Code}(hm:fr.mode=.run)(ht:fr.todo=.code (.loop c) ::k):step P (lone fr cs w)=.next (lone {fr with todo:=.code c ::.inLoop c ::k} cs w):=
 dj hm (by simp[stepG.exec,ht,G1])
theorem ap2{c:Code}(hm:fr.mode=.run)(ht:fr.todo=.inLoop c ::k):step P (lone fr cs w)=.next (lone {fr with todo:=.code c ::.inLoop c ::k} cs w):=
 dj hm (by simp[stepG.exec,ht,G1])
theorem awB{id:Nat}{k':List Item}(hm:fr.mode=.run)(ht:fr.todo=.code (.exit id) ::k)(he:exitTo id k=some k'):step P (lone fr cs w)=.next (lone {fr with todo:=k'} cs w):=
 dj hm (by simp[stepG.exec,ht,G1,he])
theorem aqi{id:Nat}{ops:Array Oper}(hm:fr.mode=.run)(ht:fr.todo=.code (.region id ops false) ::k) :
  step P (lone fr cs w)=.next (lone {fr with todo:=.inRegion ops (List.range ops.size) ::k} cs w):=
 dj hm (by simp[stepG.exec,ht,G1])
theorem awC{id:Nat}{ops:Array Oper}(hm:fr.mode=.run)(ht:fr.todo=.code (.region id ops true) ::k) :
  ∃ t,step P (lone fr cs w)=.next (lone {fr with todo:=.inRegion ops (Region.schedule (P.follows .mixedOrders) ops t) ::k} cs {w with drawn:=w.drawn+1}):=
 ⟨w.tape w.drawn (.order fr.fn id),dj hm (by simp[stepG.exec,ht,G1,choose,Sem.run,Question.forced,Question.cut])⟩
theorem DX{ops:Array Oper}(hm:fr.mode=.run)(ht:fr.todo=.inRegion ops [] ::k):step P (lone fr cs w)=.next (lone {fr with todo:=k} cs w):=
 dj hm (by simp[stepG.exec,ht,G1])
theorem aAM(hm:fr.mode=.run)(ht:fr.todo=[])(hr:fr.roundOf=none):step P (lone fr cs w)=.next (lone {fr with mode:=.returning} cs w):=
 dj hm (by simp[stepG.exec,ht,G1,hr])
theorem aAN(hm:fr.mode=.run)(ht:fr.todo=.code .ret ::k)(hr:fr.roundOf=none):step P (lone fr cs w)=.next (lone {fr with mode:=.returning} cs w):=
 dj hm (by simp[stepG.exec,ht,G1,hr])
variable{ops:Array Oper}{i:Nat}{rest:List Nat}{o:Oper}
theorem EW(hm:fr.mode=.run)(ht:fr.todo=.inRegion ops (i ::rest) ::k)(ho:ops[i]?=some o)(hw:Region.wanted o (yielded ops fr.tmps)=false) :
  step P (lone fr cs w)=.next (lone (fr.finish undef) cs w):=
 dj hm (by simp[stepG.exec,ht,G1,ho,hw])
def dP:Op→Bool
 |.defer _=>true
 |_=>false
theorem vQ(ht:fr.todo=.inRegion ops (i ::rest) ::k)(ho:ops[i]?=some o)(hw:Region.wanted o (yielded ops fr.tmps)=true)(hd:fr.roundOf=none∨dP o.op=false) :
  stepG.exec P true true fr cs none w=stepG.apply P true fr cs none (Go.execOp fr.eval o) w:=by
 simp only[stepG.exec,ht,ho,Option.map_some,Option.getD_some,hw,if_true,stepG.oper,Frame.oper?]
 cases hr:fr.roundOf with
 |none=>rfl
 |some l=>
  rw[hr] at hd
  have hd:dP o.op=false:=hd.resolve_left (by simp)
  cases jx:o.op<;>first|rfl|(rw[jx] at hd;cases hd)
theorem Lw{v:Value}(hm:fr.mode=.run)(ht:fr.todo=.inRegion ops (i ::rest) ::k)(ho:ops[i]?=some o)(hw:Region.wanted o (yielded ops fr.tmps)=true)(hd:fr.roundOf=none∨dP o.op=false)
  (h:(Go.execOp fr.eval o).run P w=.ok (.value v) w'):step P (lone fr cs w)=.next (lone (fr.finish v) cs w'):=
 dj hm (by rw[vQ ht ho hw hd];simp[stepG.apply,h,G1])
theorem amZ(hm:fr.mode=.run)(ht:fr.todo=.inRegion ops (i ::rest) ::k)(ho:ops[i]?=some o)(hw:Region.wanted o (yielded ops fr.tmps)=true)(hd:fr.roundOf=none∨dP o.op=false)
  (h:(Go.execOp fr.eval o).run P w=.ok .skip w'):step P (lone fr cs w)=.next (lone (fr.finish undef) cs w'):=
 dj hm (by rw[vQ ht ho hw hd];simp[stepG.apply,h,G1])
theorem arj{f:FuncId}{args:Array Value}(hm:fr.mode=.run)(ht:fr.todo=.inRegion ops (i ::rest) ::k)(ho:ops[i]?=some o)(hw:Region.wanted o (yielded ops fr.tmps)=true)(hd:fr.roundOf=none∨dP o.op=false)
  (h:(Go.execOp fr.eval o).run P w=.ok (.enter f args) w'):step P (lone fr cs w)=.next (lone (Frame.enter P f args .normal) (fr ::cs) w'):=
 dj hm (by rw[vQ ht ho hw hd];simp[stepG.apply,h,G1,ht])
theorem arl{l:Nat}{f:FuncId}{tmps:Array Value}{as bd:Code}(hm:fr.mode=.run)(ht:fr.todo=.inRegion ops (i ::rest) ::k)(ho:ops[i]?=some o)(hw:Region.wanted o (yielded ops fr.tmps)=true)(hd:fr.roundOf=none∨dP o.op=false)
  (h:(Go.execOp fr.eval o).run P w=.ok (.round l f tmps as bd) w'):step P (lone fr cs w)=.next (lone (Frame.round l f tmps as bd .normal) (fr ::cs) w'):=
 dj hm (by rw[vQ ht ho hw hd];simp[stepG.apply,h,G1])
theorem arn{v:Value}(hm:fr.mode=.run)(ht:fr.todo=.inRegion ops (i ::rest) ::k)(ho:ops[i]?=some o)(hw:Region.wanted o (yielded ops fr.tmps)=true)(hd:fr.roundOf=none∨dP o.op=false)
  (h:(Go.execOp fr.eval o).run P w=.halt (.panic v) w'):step P (lone fr cs w)=.next (lone {fr with mode:=.panicking [{v,recovered:=false}]} cs w'):=
 dj hm (by rw[vQ ht ho hw hd];simp[stepG.apply,h,G1,Frame.raise,hm])
theorem arp{d:Deferred}(hm:fr.mode=.run)(ht:fr.todo=.inRegion ops (i ::rest) ::k)(ho:ops[i]?=some o)(hw:Region.wanted o (yielded ops fr.tmps)=true)(hd:fr.roundOf=none∨dP o.op=false)
  (h:(Go.execOp fr.eval o).run P w=.ok (.defer d) w'):step P (lone fr cs w)=.next (lone ({fr with defers:=d ::fr.defers}.finish undef) cs w'):=
 dj hm (by rw[vQ ht ho hw hd];simp[stepG.apply,h,G1])
theorem J1{v:Value}{yw:List Frame}(hm:fr.mode=.run)(ht:fr.todo=.inRegion ops (i ::rest) ::k)(ho:ops[i]?=some o)(hw:Region.wanted o (yielded ops fr.tmps)=true)(hr:fr.roundOf=none)
  (h:(Go.execOp fr.eval o).run P w=.ok .recover w') (ai9:tryRecover fr cs=some (v,yw)):step P (lone fr cs w)=.next (lone (fr.finish v) yw w'):=
 dj hm (by rw[vQ ht ho hw (.inl hr)];simp[stepG.apply,h,G1,hr,ai9])
theorem J2(hm:fr.mode=.run)(ht:fr.todo=.inRegion ops (i ::rest) ::k)(ho:ops[i]?=some o)(hw:Region.wanted o (yielded ops fr.tmps)=true)(hr:fr.roundOf=none)
  (h:(Go.execOp fr.eval o).run P w=.ok .recover w') (ai9:tryRecover fr cs=none):step P (lone fr cs w)=.next (lone (fr.finish .nilIface) cs w'):=
 dj hm (by rw[vQ ht ho hw (.inl hr)];simp[stepG.apply,h,G1,hr,ai9])
end
end Go.Sx
/-
 SX: the model's own steps: returns, panics, deferred calls, range over functions. No condition.
-/
namespace Go.Sx
open Go.RowKit
section
variable{P:Program}{fr c:Frame}{cs:List Frame}{w w':World}{k:List Item}{fn:Func}
theorem ap4{v:Value}(hm:fr.mode=.returning)(hd:fr.defers=[])(hk:fr.kind=.normal)(hf:P.funcs[fr.fn]?=some fn)(hr:(results fn fr.tmps).run P w=.ok v w) :
  step P (lone fr (c ::cs) w)=.next (lone (c.finish v) cs w):=
 Ix (by simp[hm]) (by simp[unwind,hd,hm,hf,hr,doReturn,hk,G1])
theorem ES{v:Value}(hm:fr.mode=.returning)(hd:fr.defers=[])(hk:fr.kind=.deferred)(hf:P.funcs[fr.fn]?=some fn)(hr:(results fn fr.tmps).run P w=.ok v w) :
  step P (lone fr (c ::cs) w)=.next (lone {c with mode:=settle c.mode} cs w):=
 step_going_returned (fr:=fr) hk ⟨hm,hd,fn,hf,hr⟩
theorem UC{chain:List PanicEntry}(hm:fr.mode=.panicking chain)(hd:fr.defers=[])(hf:P.funcs[fr.fn]?=some fn) :
  step P (lone fr (c ::cs) w)=.next (lone (c.raise chain) cs w):=
 Ix (by simp[hm]) (by simp[unwind,hd,hm,Frame.catches,hf,G1])
theorem UB{d:Deferred}{ds:List Deferred}{fv:Fn}{cap args:Array Value}{f:FuncId}(hm:fr.mode≠.run)(hd:fr.defers=d ::ds)(ht:d.target=.fn fv cap)
  (hi:(invoke d.target d.args).run P w=.ok (.enter f args) w):step P (lone fr cs w)=.next (lone (Frame.enter P f args .deferred) ({fr with defers:=ds} ::cs) w):=
 step_defer hm hd ht hi
theorem R9{b:Nat}{ds ds':List Deferred}(hm:fr.mode≠.run)(hd:fr.defers=⟨.collected b,#[]⟩ ::ds)(h:(Instr.takeDeferred b).run P w=.ok ds' w') :
  step P (lone fr cs w)=.next (lone {fr with defers:=ds'++ds} cs w'):=
 Ix hm (by simp[unwind,hd,h,G1])
theorem Nr{l:Nat}{v:Value}(hm:fr.mode=.run)(ht:fr.todo=[])(hr:fr.roundOf=some l)(hk:fr.kind=.normal)(h:(Instr.endRound l none).run P w=.ok v w') :
  step P (lone fr (c ::cs) w)=.next (lone (c.finish v) cs w'):=
 dj hm (by simp[stepG.exec,ht,hr,h,doReturn,hk,G1])
theorem SE{l:Nat}{v:Value}(hm:fr.mode=.run)(ht:fr.todo=.code .ret ::k)(hr:fr.roundOf=some l)(hk:fr.kind=.normal)(h:(Instr.endRound l (some .ret)).run P w=.ok v w') :
  step P (lone fr (c ::cs) w)=.next (lone (c.finish v) cs w'):=
 dj hm (by simp[stepG.exec,ht,hr,h,doReturn,hk,G1])
theorem Po{l id:Nat}{v:Value}(hm:fr.mode=.run)(ht:fr.todo=.code (.exit id) ::k)(he:exitTo id k=none)(hr:fr.roundOf=some l)(hk:fr.kind=.normal)(h:(Instr.endRound l (some (.exit id))).run P w=.ok v w') :
  step P (lone fr (c ::cs) w)=.next (lone (c.finish v) cs w'):=
 dj hm (by simp[stepG.exec,ht,he,hr,h,doReturn,hk,G1])
theorem O8{l:Nat}(hm:fr.mode=.run)(ht:fr.todo=.beginRound ::k)(hr:fr.roundOf=some l)(h:(Instr.beginRound l).run P w=.ok () w') :
  step P (lone fr cs w)=.next (lone {fr with todo:=k} cs w'):=
 dj hm (by simp[stepG.exec,ht,hr,stepG.apply,h,G1,Frame.finish])
theorem ass{l:Nat}{j:Option Code}(hm:fr.mode=.run)(ht:fr.todo=.endRangeFunc l ::k)(h:(Instr.endLoop l).run P w=.ok j w') :
  step P (lone fr cs w)=.next (lone {fr with todo:=(j.map Item.code).toList++k} cs w'):=
 dj hm (by simp[stepG.exec,ht,h,G1])
theorem awP (ev : Operand → Value) {f : Operand} {g : FuncId} {first cap : Array Value} (hev : ev f = .func (.func g) first cap) {y : Value} (hy : ev (.const y) = y) {fn' : Func} (hf : P.funcs[g]? = some fn') (hb : fn'.body.isSome = true) (hn : fn'.name ≠ "runtime.NumGoroutine") :
  (do let d ← resolve ev {callee:=.value f,args:=#[.const y],argTypes:=#[]} 0;invoke d.target d.args:Sem Next).run P w=.ok (.enter g (first ++ #[y]++cap)) w:=by
 simp[resolve,hev,Deferred.ofValue,invoke,hy,tg hf hb hn]
theorem SG{f:Operand}{params:Array Tmp}{as bd:Code}{l:Nat}{mk:List Deferred}{w1:World}{g:FuncId}{first cap:Array Value}{fn':Func}(hm:fr.mode=.run)(ht:fr.todo=.code (.rangeFunc f params as bd) ::k)(hr:fr.roundOf=none)
  (h:(Instr.enterLoop fr.fn fr.tmps params as bd none).run P w=.ok (l,mk) w1) (hev:fr.eval f=.func (.func g) first cap)
  (hf : P.funcs[g]? = some fn') (hb : fn'.body.isSome = true) (hn : fn'.name ≠ "runtime.NumGoroutine") :
  step P (lone fr cs w)=.next (lone (Frame.enter P g (first ++ #[.func (.yield l) #[] #[]]++cap) .normal) ({fr with todo:=.inRangeFunc l ::k,defers:=mk++fr.defers} ::cs) w1):=by
 obtain⟨fn0,ayt,aOy,aoV,aOz,ayu,aKr⟩:=fr
 simp only at hm ht hr h hev
 subst hm ht hr
 refine dj rfl ?_
 have aKs:({fn:=fn0,tmps:=ayt,todo:=Item.inRangeFunc l ::k,defers:=mk++aoV,mode:=.run,kind:=ayu}:Frame).eval f=.func (.func g) first cap:=by
  rw[← hev];cases f<;>rfl
 have JX:=awP (w:=w1) ({fn:=fn0,tmps:=ayt,todo:=Item.inRangeFunc l ::k,defers:=mk++aoV,mode:=.run,kind:=ayu}:Frame).eval aKs (y:=.func (.yield l) #[] #[]) rfl hf hb hn
 simp only[stepG.exec,Sem.runT_eq,h,GStep.bare_after]
 simp only[stepG.apply,Sem.runT_eq,JX,GStep.bare_after]
 simp[G1]
end
end Go.Sx
/-
 SX: a region that draws its order: what is known while it is under way. No condition.
-/
namespace Go.Sx
open Go.RowKit
structure P1(P:Program)(nt:Nat)(ops:Array Oper)(pl:List J)(bf:List Nat):Prop where
 nR:kK P nt ops (List.range ops.size)=some pl
 axD:KY ops bf=true
 aCR:Rc ops bf=true
section
variable{P:Program}{ρ:Nat→Int}{nt:Nat}{ops:Array Oper}{pl:List J}{bf:List Nat}
theorem EB:∀ {l:List Nat} {pl:List J},kK P nt ops l=some pl→pl.length=l.length∧∀ (q i:Nat),l[q]?=some i→∃ o po,ops[i]?=some o∧IS P nt ops o=some po∧pl[q]?=some po
 | [],pl,h=>by simp only[kK,cS] at h;subst h;exact⟨rfl,fun q i hq=>by simp at hq⟩
 |j ::l,pl,h=>by
  simp only[kK] at h
  split at h
  ·cases h
  ·rename_i o ho
   split at h
   ·rename_i a r h1 h2
    cases h
    obtain⟨e1,e2⟩:=EB h2
    refine⟨by simp[e1],fun q i hq=>?_⟩
    cases q with
    |zero=>simp at hq;subst hq;exact⟨o,a,ho,h1,by simp⟩
    |succ q=>simpa using e2 q i (by simpa using hq)
   ·cases h
theorem P1.at(R:P1 P nt ops pl bf){i:Nat}(hi:i<ops.size):∃ o po,ops[i]?=some o∧IS P nt ops o=some po∧pl[i]?=some po:=by
 obtain⟨_,h⟩:=EB R.nR
 exact h i i (by simp[hi])
theorem P1.at'(R:P1 P nt ops pl bf){i:Nat}{po:J}(h:pl[i]?=some po):i<ops.size:=by
 obtain⟨h1,_⟩:=EB R.nR
 rcases Dp i ops.size with h'|h'
 ·exact h'
 ·rw[zqo (by rw[h1];simpa using h')] at h;cases h
theorem P1.aCS(R:P1 P nt ops pl bf){i:Nat}{o:Oper}(ho:ops[i]?=some o){e:Edge}(he:e∈o.after.toList)(hb:Region.binds .any e=true):e.on<i∧hasB (eu bf i) e.on=true:=by
 have hi:i<ops.size:=by
  rcases Dp i ops.size with h'|h'
  ·exact h'
  ·rw[Tx h'] at ho;cases ho
 have h:=R.axD
 unfold KY at h
 rw[zr] at h
 have h:=h i (by simpa using hi)
 rw[ho] at h
 simp only[iE,zr] at h
 have h:=h.1 e he
 simp only[hb,Bool.not_true,Bool.false_or,iE,bltN_eq,decide_eq_true_eq] at h
 exact h
theorem P1.down(R:P1 P nt ops pl bf):HH ops:=fun _ _ ho _ he hb=>(R.aCS ho he hb).1
theorem P1.pred(R:P1 P nt ops pl bf){i:Nat}{o:Oper}(ho:ops[i]?=some o){j:Nat}(hj:j<ops.size)(hb:hasB (eu bf i) j=true) :
  ∃ e∈o.after.toList,Region.binds .any e=true∧(e.on=j∨hasB (eu bf e.on) j=true):=by
 have hi:i<ops.size:=by
  rcases Dp i ops.size with h'|h'
  ·exact h'
  ·rw[Tx h'] at ho;cases ho
 have h:=R.axD
 unfold KY at h
 rw[zr] at h
 have h:=h i (by simpa using hi)
 rw[ho] at h
 simp only[iE,zr] at h
 have h:=h.2 j (by simpa using hj)
 simp only[hb,Bool.not_true,Bool.false_or,List.any_eq_true,iE,Bool.or_eq_true,beqN_eq,decide_eq_true_eq] at h
 exact h
def art(ops:Array Oper)(D:Nat→Bool):Prop:=∀ (i:Nat) (o:Oper),D i=true→ops[i]?=some o→∀ e∈o.after.toList,Region.binds .any e=true→D e.on=true
theorem P1.closed(R:P1 P nt ops pl bf){D:Nat→Bool}(hD:art ops D):∀ (i:Nat) (o:Oper),ops[i]?=some o→(∀ e∈o.after.toList,Region.binds .any e=true→D e.on=true)→∀ j,j<ops.size→hasB (eu bf i) j=true→D j=true:=by
 intro i
 induction i using Nat.strongRecOn with
 |_ i ih=>
  intro o ho hp j hj hb
  obtain⟨e,he,heb,hor⟩:=R.pred ho hj hb
  have bN:=(R.aCS ho he heb).1
  have hi:i<ops.size:=by
   rcases Dp i ops.size with h'|h'
   ·exact h'
   ·rw[Tx h'] at ho;cases ho
  rcases hor with h|h
  ·rw[← h];exact hp e he heb
  ·have Rj:ops[e.on]?=some ops[e.on]:=by
    have:e.on<ops.size:=by omega
    simp[this]
   exact ih e.on bN _ Rj (fun e' he' fb=>hD e.on _ (hp e he heb) Rj e' he' fb) j hj h
theorem P1.slot(R:P1 P nt ops pl bf){i j t:Nat}{o:Oper}(ho:ops[i]?=some o)(hj:kM ops j=some t) :
  (i=j→t∉jz ops o)∧(i≠j→o.dst≠some t∧(t∈jz ops o→hasB (eu bf i) j=true∨hasB (eu bf j) i=true)):=by
 have hi:i<ops.size:=by
  rcases Dp i ops.size with h'|h'
  ·exact h'
  ·rw[Tx h'] at ho;cases ho
 have aR:j<ops.size:=by
  rcases Dp j ops.size with h'|h'
  ·exact h'
  ·simp[kM,Tx h'] at hj
 have h:=R.aCR
 unfold Rc at h
 rw[zr] at h
 have h:=h i (by simpa using hi)
 rw[ho] at h
 simp only[zr] at h
 have h:=h j (by simpa using aR)
 rw[hj] at h
 simp only[beqN_eq] at h
 constructor
 ·rintro rfl
  simpa using h
 ·intro bI
  simp only[bI,decide_false,cond_false,iE,Bool.not_eq_true',Bool.or_eq_true] at h
  refine⟨by simpa using h.1,fun hm=>?_⟩
  have h2:=h.2
  have hc:(jz ops o).contains t=true:=by simpa using hm
  rw[hc] at h2
  simpa using h2
theorem ajb{j t:Nat}(hj:kM ops j=some t):∃ o,ops[j]?=some o∧o.dst=some t:=by
 unfold kM at hj
 cases h:ops[j]? with
 |none=>rw[h] at hj;cases hj
 |some o=>rw[h] at hj;exact⟨o,rfl,by simpa using hj⟩
theorem P1.K3(R:P1 P nt ops pl bf){i j t:Nat}(hi:kM ops i=some t)(hj:kM ops j=some t):i=j:=by
 rcases Nat.decEq i j with bI|h
 ·obtain⟨o,ho,hd⟩:=ajb hi
  exact absurd hd ((R.slot ho hj).2 bI).1
 ·exact h
end
theorem Fy(m i j:Nat):hasB (Fj m i) j=(hasB m j||decide (i=j)):=by
 unfold hasB Fj
 rw[Nat.testBit_or,Nat.testBit_two_pow]
theorem CQ(j:Nat):hasB 0 j=false:=by simp[hasB]
theorem CR{n a b:Nat}:ai3 n a b=true↔∀ j,j<n→hasB a j=true→hasB b j=true:=by
 unfold ai3
 rw[zr]
 constructor
 ·intro h j hj ha
  have:=h j (by simpa using hj)
  simpa[ha] using this
 ·intro h j hj
  have hj:j<n:=by simpa using hj
  cases ha:hasB a j with
  |false=>rfl
  |true=>simpa using h j hj ha
end Go.Sx
/-
 SX: a region that draws its order: an operation that the machine has evaluated is carried out by the model. No condition.
-/
namespace Go.Sx
open Go.RowKit
theorem l7{nt i:Nat}{k:Key}(h:Dl nt i=some k):k.toNat=i∧i<nt:=by
 unfold Dl at h
 replace h:=aE h
 obtain⟨hc,h⟩:=h
 simp only[cS] at h
 subst h
 simp only[iE,bltN_eq,decide_eq_true_eq] at hc
 exact⟨ml hc.2,hc.1⟩
theorem gp{P:Program}{nt:Nat}{ops:Array Oper}{o:Oper}{po:J}(h:IS P nt ops o=some po) :
  gi P nt o=some po.op∧Lq nt ops o.guard=some po.guard∧((o.dst=none∧po.dst=none)∨∃ k,o.dst=some k.toNat∧po.dst=some k∧k.toNat<nt):=by
 unfold IS at h
 split at h
 ·rename_i op g h1 h2
  split at h
  ·rename_i hd
   cases h
   exact⟨h1,h2,.inl ⟨hd,rfl⟩⟩
  ·rename_i d hd
   split at h
   ·rename_i k hk
    cases h
    obtain⟨e,bN⟩:=l7 hk
    exact⟨h1,h2,.inr ⟨k,by rw[e];exact hd,rfl,by omega⟩⟩
   ·cases h
 ·cases h
noncomputable def cK(p:List (Nat×Key×ah))(h:T ah):T ah:=p.foldl (fun h x=>av x.2.1 (some x.2.2) h) h
theorem CB{R:Type}:∀ (p:List (Nat×Key×ah)) (h:T ah) (c:T ah→R),BE p h c=c (cK p h)
 | [],h,c=>rfl
 |x ::p,h,c=>by
  show sx x.2.1 (some x.2.2) h (fun h=>BE p h c)=_
  rw[sTCe,CB p]
  rfl
theorem ux{R:Type}(l:List Nat):∀ (p:List (Nat×Key×ah)) (h:T ah) (c:List (Nat×Key×ah)→T ah→R),Bg l p h c=c (p.filter fun x=>!(memN x.1 l)) (cK (p.filter fun x=>memN x.1 l) h)
 | [],h,c=>rfl
 |x ::p,h,c=>by
  show(bif memN x.1 l then sx x.2.1 (some x.2.2) h (fun h=>Bg l p h c) else Bg l p h fun p h=>c (x ::p) h)=_
  cases hm:memN x.1 l with
  |true=>
   simp only[cond_true,sTCe,ux l p,List.filter_cons,hm,Bool.not_true,Ow,if_false,if_true]
   rfl
  |false=>
   simp only[cond_false,ux l p,List.filter_cons,hm,Bool.not_false,Ow,if_false,if_true]
theorem Hl{i:Nat}:∀ {l:List Nat},memN i l=true→i∈l
 | [],h=>by cases h
 |j ::l,h=>by
  simp only[memN] at h
  cases hb:Nat.beq i j with
  |true=>have:=ml hb;simp[this]
  |false=>rw[hb] at h;exact List.mem_cons_of_mem _ (Hl h)
theorem NW:∀ {p:List (Nat×Key×ah)} {h:T ah} {b:Key} {B:ah},aa b (cK p h)=some B→aa b h=some B∨∃ x∈p,x.2.1=b∧x.2.2=B
 | [],_,_,_,e=>.inl e
 |x ::p,h,b,B,e=>by
  rcases NW (p:=p) e with h1|⟨y,h1,h2⟩
  ·by_cases hb:b=x.2.1
   ·subst hb;rw[gTSm] at h1;cases h1;exact .inr ⟨x,by simp,rfl,rfl⟩
   ·rw[bZ _ _ _ _ hb] at h1;exact .inl h1
  ·exact .inr ⟨y,List.mem_cons_of_mem _ h1,h2⟩
theorem aqK{l:List Nat}{aj:List (Nat×Key×ah)}{h:T ah}{b:Key}{B:ah}(e:aa b (tU l aj h)=some B):aa b h=some B∨∃ j,(j,b,B)∈aj∧j∈l:=by
 unfold tU at e
 split at e
 ·exact .inl e
 ·rw[ux] at e
  rcases NW e with h1|⟨⟨j,k,B'⟩,h1,h2,h3⟩
  ·exact .inl h1
  ·obtain⟨h4,h5⟩:=List.mem_filter.1 h1
   simp only at h2 h3
   subst h2 h3
   exact .inr ⟨j,h4,Hl h5⟩
theorem aiG{bf:List Nat}:∀ {hO:List (Nat×List Nat)},wU bf hO=true→∀ i j,j∈AX i hO→hasB (eu bf i) j=true
 | [],_,i,j,h=>by cases h
 |(q,l) ::r,ha,i,j,h=>by
  simp only[wU,iE,zr] at ha
  simp only[AX] at h
  cases hb:Nat.beq i q with
  |true=>rw[hb] at h;have:=ml hb;subst this;exact ha.1 j h
  |false=>rw[hb] at h;exact aiG ha.2 i j h
def VOk(bf:List Nat)(H:T ah)(aj:List (Nat×Key×ah))(i:Nat)(V:T ah):Prop:=∀ b B,aa b V=some B→aa b H=some B∨∃ j,(j,b,B)∈aj∧hasB (eu bf i) j=true
theorem VOk.refl(bf:List Nat)(H:T ah)(aj:List (Nat×Key×ah))(i:Nat):VOk bf H aj i H:=fun _ _ h=>.inl h
theorem VOk.view{bf:List Nat}{hO:List (Nat×List Nat)}(ha:wU bf hO=true)(H:T ah)(aj:List (Nat×Key×ah))(i:Nat):VOk bf H aj i (tU (AX i hO) aj H):=by
 intro b B e
 rcases aqK e with h|⟨j,h1,h2⟩
 ·exact .inl h
 ·exact .inr ⟨j,h1,aiG ha i j h2⟩
structure Gh where
 L:Nat
 D:Nat→Bool
 a0:Key→Option AV
 val:Nat→Option AV
section
variable(P:Program)(ρ:Nat→Int)(orc:gD)(nt:Nat)(ops:Array Oper)(pl:List J)(bf:List Nat)
def Tb(g:Gh)(i:Nat)(k:Key)(a:AV):Prop:=
 (∃ j,kM ops j=some k.toNat∧hasB (eu bf i) j=true∧g.val j=some a)∨((∀ j,kM ops j=some k.toNat→hasB (eu bf j) i=true)∧g.a0 k=some a)
def UL(g:Gh)(i:Nat)(kg:T AV):Prop:=∀ o,ops[i]?=some o→∀ (k:Key) a,k.toNat∈jz ops o→aa k kg=some a→Tb ops bf g i k a
inductive ur(H:T ah)(g:Gh)(aj:List (Nat×Key×ah))(zG:Nat→Prop)(i:Nat):Prop
 |skip (po:J) (kg:T AV) (h1:pl[i]?=some po) (h2:UL ops bf g i kg) (h3:b9 po.guard kg=some false) (h4:g.val i=some (.tuple [])) (h5:∀ x∈aj,x.1≠i):ur H g aj zG i
 |light (po:J) (kg:T AV) (v:AV) (h1:pl[i]?=some po) (h2:UL ops bf g i kg) (h3:b9 po.guard kg=some true) (hk:nZ pl i=0) (h4:¬ zG i→∃ V,lightOp orc po.op kg V=some v∧VOk bf H aj i V) (h5:g.val i=some v)
   (h6:∀ x∈aj,x.1≠i):ur H g aj zG i
 |alloc (po:J) (kg:T AV) (f:Key→AV) (B:ah) (k:Key) (h1:pl[i]?=some po) (h2:UL ops bf g i kg) (h3:b9 po.guard kg=some true) (hk:nZ pl i=1) (h4:allocOp po.op kg=some (f,B))
   (h5:g.val i=some (f k)) (h6:(i,k,B)∈aj):ur H g aj zG i
structure fc(μ:Mu)(G:Key→Option ah)(H:T ah)(nx:Key)(g:Gh)(zG:Nat→Prop)(aj:List (Nat×Key×ah))(tm:T AV)(tmps:Array Value)(rest:List Nat):Prop where
 Lg:P1 P nt ops pl bf
 ord:KJ ops g.D rest
 cl:art ops g.D
 sub:∀ i,g.D i=true→hasB g.L i=true
 ET:∀ i,hasB g.L i=true→i<ops.size
 lcl:∀ i,hasB g.L i=true→∀ j,j<ops.size→hasB (eu bf i) j=true→hasB g.L j=true
 a1:∀ (k:Key) j,hasB g.L j=true→kM ops j=some k.toNat→aa k tm=g.val j
 a2:∀ (k:Key),(∀ j,hasB g.L j=true→kM ops j≠some k.toNat)→aa k tm=g.a0 k
 sz:nt≤tmps.size
 c1:∀ (k:Key) j a,g.D j=true→kM ops j=some k.toNat→g.val j=some a→∃ v,tmps[k.toNat]?=some v∧aC ρ μ a v
 c2:∀ (k:Key) a,(∀ j,g.D j=true→kM ops j≠some k.toNat)→g.a0 k=some a→∃ v,tmps[k.toNat]?=some v∧aC ρ μ a v
 pd:∀ i,hasB g.L i=true→g.D i=false→ur orc ops pl bf H g aj zG i
 pe:∀ x∈aj,hasB g.L x.1=true∧(g.D x.1=true→G x.2.1=some x.2.2)∧(g.D x.1=false→μ x.2.1=none∧G x.2.1=none)∧aa x.2.1 H=none∧x.2.1.toNat<nx.toNat
 nk:(aj.map (·.2.1.toNat)).Nodup
 ni:(aj.map (·.1)).Nodup
end
section
variable{P:Program}{ρ:Nat→Int}{orc:gD}{nt:Nat}{ops:Array Oper}{pl:List J}{bf:List Nat}{w0:W0}{w:World}{μ:Mu}{G:Key→Option ah}{H:T ah}{nx:Key}{g:Gh}{zG:Nat→Prop}{aj:List (Nat×Key×ah)}{tm:T AV}{rest:List Nat}{fr:Frame}{cs:List Frame}{K:List Item}
theorem apb(hM:aP P ρ w0 μ G nx.toNat w){x:Operand}{px:PX}{a:AV}{kg:T AV}(hp:pX P nt x=some px)(ha:px.at kg=some a)
  (ht:∀ t k,x=.tmp t→k.toNat=t→aa k kg=some a→∃ v,fr.tmps[t]?=some v∧aC ρ μ a v):aC ρ μ a (fr.eval x):=by
 cases x with
 |tmp t=>
  simp only[pX] at hp
  split at hp
  ·rename_i k hk
   cases hp
   obtain⟨v,hv,hr⟩:=ht t k rfl (l7 hk).1 ha
   have:fr.eval (.tmp t)=v:=by simp[Frame.eval,Array.getD_eq_getD_getElem?,hv]
   rw[this];exact hr
  ·cases hp
 |const v=>
  simp only[pX] at hp
  split at hp
  ·rename_i b hb
   cases hp
   simp only[PX.at,cS] at ha;subst ha
   exact fK _ _ _ hb
  ·cases hp
 |global gl=>
  simp only[pX] at hp
  split at hp
  ·rename_i k hk
   cases hp
   simp only[PX.at,cS] at ha;subst ha
   obtain⟨e,bN⟩:=l7 hk
   obtain⟨ext,he⟩:=hM.MJ k (by omega)
   exact .ptr _ _ _ _ he (by simp[e])
  ·cases hp
 |func f=>
  simp only[pX,cS] at hp;subst hp
  simp only[PX.at,cS] at ha;subst ha
  exact .fn _ _ _ _ _ .nil .nil
theorem CO(hM:aP P ρ w0 μ G nx.toNat w){o:Oper}{kg:T AV}(ht:∀ (k:Key) a,k.toNat∈jz ops o→aa k kg=some a→∃ v,fr.tmps[k.toNat]?=some v∧aC ρ μ a v) :
  sY P ρ μ nt o.op.operands.toList kg fr.eval:=by
 intro x hx px a hp ha
 refine apb hM hp ha fun t k hxt hkt hg=>?_
 subst hxt
 rw[← hkt]
 refine ht k a ?_ hg
 unfold jz
 rw[List.mem_append,List.mem_filterMap]
 exact .inl ⟨_,hx,by rw[hkt]⟩
theorem xI{o:Oper}{gd:Option (Key×Bool)}(hg:Lq nt ops o.guard=some gd){kg:T AV}{tmps:Array Value}(ht:∀ (k:Key) a,k.toNat∈jz ops o→aa k kg=some a→∃ v,tmps[k.toNat]?=some v∧aC ρ μ a v)
  {b:Bool} (hw:b9 gd kg=some b):Region.wanted o (yielded ops tmps)=b:=by
 cases Rh:o.guard with
 |none=>
  rw[Rh] at hg
  simp only[Lq,cS] at hg;subst hg
  simp only[b9,cS] at hw
  simp[Region.wanted,Rh,hw]
 |some p=>
  obtain⟨j,want⟩:=p
  rw[Rh] at hg
  simp only[Lq] at hg
  split at hg
  ·rename_i oj hoj
   split at hg
   ·rename_i d hd
    split at hg
    ·rename_i k hk
     cases hg
     obtain⟨e,_⟩:=l7 hk
     have gq:k.toNat∈jz ops o:=by
      unfold jz
      rw[List.mem_append,Rh,e]
      right
      simp[hoj,hd]
     simp only[b9] at hw
     split at hw
     ·rename_i b' fb
      cases hw
      obtain⟨v,hv,hr⟩:=ht k _ gq fb
      cases hr
      rw[e] at hv
      simp only[Region.wanted,Rh,yielded,hoj,Option.bind_some,hd,hv]
      cases b'<;>cases want<;>rfl
     ·rename_i fb
      cases hw
      obtain⟨v,hv,hr⟩:=ht k _ gq fb
      cases hr with|tuple _ vs hvs=>
      rw[e] at hv
      simp only[Region.wanted,Rh,yielded,hoj,Option.bind_some,hd,hv]
      cases want<;>rfl
     ·cases hw
    ·cases hg
   ·cases hg
  ·cases hg
end
end Go.Sx
/-
 SX: a region that draws its order: an operation that the machine has evaluated is carried out by the model. No condition.
-/
namespace Go.Sx
open Go.RowKit
section
variable{P:Program}{ρ:Nat→Int}{orc:gD}{nt:Nat}{ops:Array Oper}{pl:List J}{bf:List Nat}{w0:W0}{w:World}{μ μ':Mu}{G G':Key→Option ah}{H:T ah}{nx:Key}{g:Gh}{zG:Nat→Prop}{aj:List (Nat×Key×ah)}{tm:T AV}{tmps:Array Value}{rest:List Nat}{fr:Frame}{cs:List Frame}{K:List Item}{i:Nat}
theorem fc.ready(S:fc P ρ orc nt ops pl bf μ G H nx g zG aj tm tmps (i ::rest)) :
  i<ops.size∧g.D i=false∧(∀ j,j<ops.size→hasB (eu bf i) j=true→g.D j=true):=by
 obtain⟨h1,h2,h3,_⟩:=S.ord
 exact⟨h1,h2,fun j hj hb=>S.Lg.closed S.cl i ops[i] (by simp[h1]) (fun e he vj=>h3 _ (by simp[h1]) e he vj) j hj hb⟩
theorem Il{j t:Nat}(h:kM ops j=some t):j<ops.size:=by
 obtain⟨o,ho,_⟩:=ajb h
 rcases Dp j ops.size with h'|h'
 ·exact h'
 ·rw[Tx h'] at ho;cases ho
theorem fc.GQ(S:fc P ρ orc nt ops pl bf μ G H nx g zG aj tm tmps (i ::rest)){kg:T AV}(ht:UL ops bf g i kg){o:Oper}(ho:ops[i]?=some o) :
  ∀ (k:Key) a,k.toNat∈jz ops o→aa k kg=some a→∃ v,tmps[k.toNat]?=some v∧aC ρ μ a v:=by
 intro k a hk hg
 obtain⟨h1,h2,h3⟩:=S.ready
 rcases ht o ho k a hk hg with⟨j,hj,hb,hv⟩|⟨EV,ha⟩
 ·exact S.c1 k j a (h3 j (Il hj) hb) hj hv
 ·refine S.c2 k a (fun j hD hj=>?_) ha
  have hb:=EV j hj
  obtain⟨oj,hoj,_⟩:=ajb hj
  have:=S.Lg.closed S.cl j oj hoj (fun e he vj=>S.cl j oj hD hoj e he vj) i h1 hb
  rw[h2] at this;cases this
def Dg(d:Option Nat)(v:Value)(tmps:Array Value):Array Value:=match d with
 |some d=>tmps.setIfInBounds d v
 |none=>tmps
theorem cr{o:Oper}(ht:fr.todo=.inRegion ops (i ::rest) ::K)(ho:ops[i]?=some o)(v:Value) :
  fr.finish v={fr with tmps:=Dg o.dst v fr.tmps,todo:=.inRegion ops rest ::K}:=by
 simp only[Frame.finish,ht,ho,Option.bind_some,Dg]
 cases o.dst<;>rfl
theorem Cb{o:Oper}{op:Fa}(hp:gi P nt o=some op)(hd:dP o.op=true):Fg op=true:=by
 obtain⟨dst,tC,ty,pos,after,guard⟩:=o
 cases tC<;>first|(cases hd;done)|skip
 rename_i c
 simp only[gi] at hp
 split at hp
 ·split at hp
  ·cases hp;rfl
  ·cases hp
 ·cases hp
theorem Qy{po:J}(h:pl[i]?=some po):nZ pl i=(bif Fg po.op then 2 else bif KW po.op then 1 else 0):=by
 simp[nZ,h]
theorem amN{tmps:Array Value}{d:Option Nat}{v:Value}(t:Nat)(h:∀ x,d=some x→x<tmps.size) :
  (Dg d v tmps)[t]?=if d=some t then some v else tmps[t]?:=by
 cases d with
 |none=>simp[Dg]
 |some x=>
  have:=h x rfl
  simp only[Dg]
  by_cases e:x=t
  ·subst e;simp[this]
  ·rw[if_neg (by simpa using e),zqn e]
theorem fc.done(S:fc P ρ orc nt ops pl bf μ G H nx g zG aj tm tmps (i ::rest))(hm:μ.le μ'){o:Oper}(ho:ops[i]?=some o){a:AV}{v:Value}(hL:hasB g.L i=true)(Kh:g.val i=some a)(hv:aC ρ μ' a v)
  (Qz:∀ x∈aj,(x.1=i→G' x.2.1=some x.2.2)∧(x.1≠i→μ' x.2.1=μ x.2.1∧G' x.2.1=G x.2.1)) :
  fc P ρ orc nt ops pl bf μ' G' H nx {g with D:=fun j=>g.D j||j==i} zG aj tm (Dg o.dst v tmps) rest:=by
 obtain⟨hi,hDi,og⟩:=S.ready
 obtain⟨o',po,Rj,Rg,nR⟩:=S.Lg.at hi
 rw[ho] at Rj;cases Rj
 obtain⟨jx,Rh,yC⟩:=gp Rg
 have aAE:∀ x,o.dst=some x→x<tmps.size:=by
  intro x hx
  rcases yC with⟨h,_⟩|⟨k,h,_,bN⟩
  ·rw[h] at hx;cases hx
  ·rw[h] at hx;cases hx;exact LO bN S.sz
 have hdi:kM ops i=o.dst:=by simp[kM,ho]
 have mI:=fun t=>amN (v:=v) t aAE
 have asU:(Dg o.dst v tmps).size=tmps.size:=by
  cases o.dst<;>simp[Dg]
 have UM:∀ j,((g.D j||j==i)=true)↔(g.D j=true∨j=i):=by intro j;simp
 refine⟨S.Lg,S.ord.2.2.2,?_,?_,S.ET,S.lcl,S.a1,S.a2,by rw[asU];exact S.sz,?_,?_,?_,?_,S.nk,S.ni⟩
 ·intro j oj hj hoj e he hb
  rcases (UM j).1 hj with h|h
  ·exact(UM _).2 (.inl (S.cl j oj h hoj e he hb))
  ·subst h
   exact(UM _).2 (.inl (S.ord.2.2.1 oj hoj e he hb))
 ·intro j hj
  rcases (UM j).1 hj with h|h
  ·exact S.sub j h
  ·subst h;exact hL
 ·intro k j b hj hjd hjv
  rw[mI]
  rcases (UM j).1 hj with h|h
  ·by_cases e:o.dst=some k.toNat
   ·have:i=j:=S.Lg.K3 (hdi.trans e) hjd
    subst this;rw[hDi] at h;cases h
   ·rw[if_neg e]
    obtain⟨u,hu,hr⟩:=S.c1 k j b h hjd hjv
    exact⟨u,hu,hr.mono hm⟩
  ·subst h
   rw[hdi] at hjd
   rw[if_pos hjd]
   have hjv:g.val j=some b:=hjv
   rw[Kh] at hjv;cases hjv
   exact⟨v,rfl,hv⟩
 ·intro k b sE ha
  rw[mI]
  have hni:o.dst≠some k.toNat:=by
   intro e
   exact sE i ((UM i).2 (.inr rfl)) (hdi.trans e)
  rw[if_neg hni]
  obtain⟨u,hu,hr⟩:=S.c2 k b (fun j hj=>sE j ((UM j).2 (.inl hj))) ha
  exact⟨u,hu,hr.mono hm⟩
 ·intro j hj hjD
  have hjD:(g.D j||j==i)=false:=hjD
  rw[Bool.or_eq_false_iff] at hjD
  cases S.pd j hj hjD.1 with
  |skip po kg h1 h2 h3 h4 h5=>exact .skip po kg h1 h2 h3 h4 h5
  |light po kg v h1 h2 h3 hk h4 h5 h6=>exact .light po kg v h1 h2 h3 hk h4 h5 h6
  |alloc po kg f B k h1 h2 h3 hk h4 h5 h6=>exact .alloc po kg f B k h1 h2 h3 hk h4 h5 h6
 ·intro x hx
  obtain⟨p1,p2,p3,p4,p5⟩:=S.pe x hx
  obtain⟨q1,q2⟩:=Qz x hx
  refine⟨p1,fun h=>?_,fun h=>?_,p4,p5⟩
  ·by_cases e:x.1=i
   ·exact q1 e
   ·rw[(q2 e).2]
    exact p2 (((UM _).1 h).resolve_right e)
  ·have h:(g.D x.1||x.1==i)=false:=h
   rw[Bool.or_eq_false_iff] at h
   have e:x.1≠i:=by simpa using h.2
   rw[(q2 e).1,(q2 e).2]
   exact p3 h.1
theorem Sg(hM:aP P ρ w0 μ G nx.toNat w)(hH:HSub H G)(ho:cY ρ orc)(S:fc P ρ orc nt ops pl bf μ G H nx g zG aj tm fr.tmps (i ::rest))(hL:hasB g.L i=true)(hu:¬ zG i)
  (hm:fr.mode=.run) (ht:fr.todo=.inRegion ops (i ::rest) ::K) :
  ∃ dp w' μ' G',step P (lone fr cs w)=.next (lone {fr with tmps:=dp,todo:=.inRegion ops rest ::K} cs w')∧μ.le μ'∧aP P ρ w0 μ' G' nx.toNat w'∧HSub H G'∧
   fc P ρ orc nt ops pl bf μ' G' H nx {g with D:=fun j=>g.D j||j==i} zG aj tm dp rest∧(∀ b,(∀ x∈aj,x.2.1≠b)→μ' b=μ b∧G' b=G b):=by
 obtain⟨hi,hDi,og⟩:=S.ready
 obtain⟨o,po,jx,Rg,nR⟩:=S.Lg.at hi
 obtain⟨hp,Rh,yC⟩:=gp Rg
 cases S.pd i hL hDi with
 |skip Oo kg h1 h2 h3 h4 h5=>
  rw[nR] at h1;cases h1
  have hs:=S.GQ h2 jx
  have hw:=xI Rh hs h3
  have zS:=EW (P:=P) (cs:=cs) (w:=w) hm ht jx hw
  rw[cr ht jx] at zS
  refine⟨_,w,μ,G,zS,μ.le_refl,hM,hH,?_,fun b _=>⟨rfl,rfl⟩⟩
  refine S.done μ.le_refl jx hL h4 (v:=undef) (.tuple _ _ .nil) ?_
  intro x hx
  exact⟨fun e=>absurd e (h5 x hx),fun _=>⟨rfl,rfl⟩⟩
 |light Oo kg v h1 h2 h3 hk h4 h5 h6=>
  rw[nR] at h1;cases h1
  have hs:=S.GQ h2 jx
  have hw:=xI Rh hs h3
  obtain⟨V,hlV,hV⟩:=h4 hu
  have hVG:HSub V G:=by
   intro b B hb
   rcases hV b B hb with h|⟨j,h1,h2⟩
   ·exact hH b B h
   ·obtain⟨p1,p2,_⟩:=S.pe _ h1
    exact p2 (og j (S.ET j p1) h2)
  obtain⟨u,ch,hr⟩:=Jy hM hVG ho hp (CO hM hs) hlV
  have Dn:dP o.op=false:=by
   cases hd:dP o.op with
   |false=>rfl
   |true=>rw[Qy nR,Cb hp hd] at hk;cases hk
  have zS:=Lw (P:=P) (cs:=cs) hm ht jx hw (.inr Dn) ch
  rw[cr ht jx] at zS
  refine⟨_,w,μ,G,zS,μ.le_refl,hM,hH,?_,fun b _=>⟨rfl,rfl⟩⟩
  refine S.done μ.le_refl jx hL h5 hr ?_
  intro x hx
  exact⟨fun e=>absurd e (h6 x hx),fun _=>⟨rfl,rfl⟩⟩
 |alloc Oo kg f B k h1 h2 h3 hk h4 h5 h6=>
  rw[nR] at h1;cases h1
  have hs:=S.GQ h2 jx
  have hw:=xI Rh hs h3
  obtain⟨_,_,p3,p4,p5⟩:=S.pe _ h6
  obtain⟨hmk,hgk⟩:=p3 hDi
  obtain⟨u,w',l,ch,hle,hM',hr⟩:=Jz hM hp (CO hM hs) h4 hmk (nx':=nx.toNat) (fe _) p5
  have Dn:dP o.op=false:=by
   cases hd:dP o.op with
   |false=>rfl
   |true=>rw[Qy nR,Cb hp hd] at hk;cases hk
  have zS:=Lw (P:=P) (cs:=cs) hm ht jx hw (.inr Dn) ch
  rw[cr ht jx] at zS
  refine⟨_,w',_,_,zS,hle,hM',?_,?_,?_⟩
  ·intro b B' hb
   have:b≠k:=by intro e;subst e;rw[p4] at hb;cases hb
   rw[bR _ _ this];exact hH b B' hb
  ·refine S.done hle jx hL h5 hr ?_
   intro x hx
   constructor
   ·intro e
    have:x=(i,k,B):=by
     have hni:=S.ni
     have:=List.pairwise_iff_getElem.1 hni
     obtain⟨p,Im,hpx⟩:=List.getElem_of_mem hx
     obtain⟨q,hq,hqx⟩:=List.getElem_of_mem h6
     rcases Nat.lt_trichotomy p q with hpq|hpq|hpq
     ·have:=this p q (by simpa using Im) (by simpa using hq) hpq
      simp[hpx,hqx,e] at this
     ·subst hpq;rw[← hpx,← hqx]
     ·have:=this q p (by simpa using hq) (by simpa using Im) hpq
      simp[hpx,hqx,e] at this
    subst this
    exact fk _ _ _
   ·intro e
    have bI:x.2.1≠k:=by
     intro hk'
     have hnk:=S.nk
     have:=List.pairwise_iff_getElem.1 hnk
     obtain⟨p,Im,hpx⟩:=List.getElem_of_mem hx
     obtain⟨q,hq,hqx⟩:=List.getElem_of_mem h6
     rcases Nat.lt_trichotomy p q with hpq|hpq|hpq
     ·have:=this p q (by simpa using Im) (by simpa using hq) hpq
      simp[hpx,hqx,hk'] at this
     ·subst hpq;rw[hpx] at hqx;subst hqx;exact e rfl
     ·have:=this q p (by simpa using hq) (by simpa using Im) hpq
      simp[hpx,hqx,hk'] at this
    exact⟨bR _ _ bI,bR _ _ bI⟩
  ·intro b hb
   have:b≠k:=fun e=>hb _ h6 e.symm
   exact⟨bR _ _ this,bR _ _ this⟩
end
end Go.Sx
/-
 SX: a region that draws its order: the machine evaluates one operation more; the model comes to the next heavy operation. No condition.
-/
namespace Go.Sx
open Go.RowKit
theorem Hi(orc:gD)(op:Fa)(tm:T AV)(H H':T ah)(h:HB op=false):lightOp orc op tm H=lightOp orc op tm H':=by
 cases op<;>first|(cases h;done)|rfl
section
variable{P:Program}{ρ:Nat→Int}{orc:gD}{nt:Nat}{ops:Array Oper}{pl:List J}{bf:List Nat}{w0:W0}{w:World}{μ μ':Mu}{G G':Key→Option ah}{H H':T ah}{nx nx':Key}{g:Gh}{zG aFe:Nat→Prop}{aj pend':List (Nat×Key×ah)}{tm:T AV}{tmps:Array Value}{rest:List Nat}{fr:Frame}{cs:List Frame}{K:List Item}{i:Nat}
theorem fc.aug(S:fc P ρ orc nt ops pl bf μ G H nx g zG aj tm tmps rest)(hi:i<ops.size)(hL:hasB g.L i=false)(hb:∀ j,j<ops.size→hasB (eu bf i) j=true→hasB g.L j=true):UL ops bf g i tm:=by
 intro o ho k a hk ha
 by_cases h:∃ j,hasB g.L j=true∧kM ops j=some k.toNat
 ·obtain⟨j,hj,hd⟩:=h
  left
  refine⟨j,hd,?_,by rw[← S.a1 k j hj hd];exact ha⟩
  have bI:i≠j:=by intro e;subst e;rw[hL] at hj;cases hj
  rcases ((S.Lg.slot ho hd).2 bI).2 hk with h|h
  ·exact h
  ·have:=S.lcl j hj i hi h
   rw[hL] at this;cases this
 ·right
  have h:∀ j,hasB g.L j=true→kM ops j≠some k.toNat:=fun j hj hd=>h ⟨j,hj,hd⟩
  refine⟨fun j hd=>?_,by rw[← S.a2 k h];exact ha⟩
  by_cases bI:i=j
  ·subst bI;exact absurd hk ((S.Lg.slot ho hd).1 rfl)
  ·rcases ((S.Lg.slot ho hd).2 bI).2 hk with fb|fb
   ·exact absurd hd (h j (hb j (Il hd) fb))
   ·exact fb
def vh(f:Nat→Option AV)(i:Nat)(x:Option AV):Nat→Option AV:=fun j=>if j=i then x else f j
theorem aiC{x:Option AV}{L':Nat}{D':Nat→Bool}{p:Nat}{k:Key}{a:AV}(hp:hasB (eu bf p) i=false)(h:Tb ops bf g p k a):Tb ops bf {L:=L',D:=D',a0:=g.a0,val:=vh g.val i x} p k a:=by
 rcases h with⟨j,h1,h2,h3⟩|⟨h1,h2⟩
 ·left
  refine⟨j,h1,h2,?_⟩
  have:j≠i:=by intro e;subst e;rw[hp] at h2;cases h2
  simpa[vh,this] using h3
 ·exact .inr ⟨h1,h2⟩
theorem uV{x:Option AV}{L':Nat}{D':Nat→Bool}{p:Nat}{kg:T AV}(hp:hasB (eu bf p) i=false)(h:UL ops bf g p kg):UL ops bf {L:=L',D:=D',a0:=g.a0,val:=vh g.val i x} p kg:=
 fun o ho k a hk hg=>aiC hp (h o ho k a hk hg)
theorem ur.nN{x:Option AV}{L':Nat}{D':Nat→Bool}{p:Nat}(hp:hasB (eu bf p) i=false)(bI:p≠i)(NO:∀ y∈aj,y∈pend')(Tc:∀ y∈pend',y∈aj∨y.1=i)(h:ur orc ops pl bf H g aj zG p) :
  ur orc ops pl bf H {L:=L',D:=D',a0:=g.a0,val:=vh g.val i x} pend' zG p:=by
 have hv:∀ v,g.val p=some v→vh g.val i x p=some v:=by intro v hv;simpa[vh,bI] using hv
 have hq:(∀ y∈aj,y.1≠p)→∀ y∈pend',y.1≠p:=by
  intro hh y hy
  rcases Tc y hy with h|h
  ·exact hh y h
  ·rw[h];exact fun e=>bI e.symm
 cases h with
 |skip po kg h1 h2 h3 h4 h5=>exact .skip po kg h1 (uV hp h2) h3 (hv _ h4) (hq h5)
 |light po kg v h1 h2 h3 hk h4 h5 h6=>
  refine .light po kg v h1 (uV hp h2) h3 hk (fun hu=>?_) (hv _ h5) (hq h6)
  obtain⟨V,a1,a2⟩:=h4 hu
  refine⟨V,a1,fun b B hb=>?_⟩
  rcases a2 b B hb with h|⟨j,h,h'⟩
  ·exact .inl h
  ·exact .inr ⟨j,NO _ h,h'⟩
 |alloc po kg f B k h1 h2 h3 hk h4 h5 h6=>exact .alloc po kg f B k h1 (uV hp h2) h3 hk h4 (hv _ h5) (NO _ h6)
noncomputable def bp(d:Option Key)(v:AV)(tm:T AV):T AV:=match d with
 |none=>tm
 |some k=>av k (some v) tm
theorem da{R:Type}(d:Option Key)(v:AV)(tm:T AV)(c:T AV→R):tT d (some v) tm c=c (bp d v tm):=by
 cases d with
 |none=>rfl
 |some k=>simp only[tT,bp,sTCe]
theorem fc.add(S:fc P ρ orc nt ops pl bf μ G H nx g zG aj tm tmps rest){po:J}(nR:pl[i]?=some po)(hL:hasB g.L i=false)(hb:∀ j,j<ops.size→hasB (eu bf i) j=true→hasB g.L j=true)
  {v:AV} (NO:∀ y∈aj,y∈pend') (Tc:∀ y∈pend',y∈aj∨y.1=i)
  (mM:ur orc ops pl bf H {L:=Fj g.L i,D:=g.D,a0:=g.a0,val:=vh g.val i (some v)} pend' zG i)
  (Qz:∀ y∈pend',y∉aj→μ y.2.1=none∧G y.2.1=none∧aa y.2.1 H=none∧y.2.1.toNat<nx'.toNat) (hn:nx.toNat≤nx'.toNat)
  (hnk:(pend'.map (·.2.1.toNat)).Nodup) (hni:(pend'.map (·.1)).Nodup) :
  fc P ρ orc nt ops pl bf μ G H nx' {L:=Fj g.L i,D:=g.D,a0:=g.a0,val:=vh g.val i (some v)} zG pend' (bp po.dst v tm) tmps rest:=by
 have hi:=S.Lg.at' nR
 obtain⟨o,Oo,ho,Rg,Dh⟩:=S.Lg.at hi
 rw[nR] at Dh;cases Dh
 obtain⟨jx,Rh,yC⟩:=gp Rg
 have hdi:kM ops i=o.dst:=by simp[kM,ho]
 have hDi:g.D i=false:=by
  cases h:g.D i with
  |false=>rfl
  |true=>have:=S.sub i h;rw[hL] at this;cases this
 have IJ:∀ j,hasB (Fj g.L i) j=true↔(hasB g.L j=true∨j=i):=by
  intro j;rw[Fy,Bool.or_eq_true,decide_eq_true_eq]
  exact⟨fun h=>h.imp id Eq.symm,fun h=>h.imp id Eq.symm⟩
 have hnb:∀ p,hasB g.L p=true→hasB (eu bf p) i=false:=by
  intro p hp
  cases h:hasB (eu bf p) i with
  |false=>rfl
  |true=>have:=S.lcl p hp i hi h;rw[hL] at this;cases this
 refine⟨S.Lg,S.ord,S.cl,?_,?_,?_,?_,?_,S.sz,?_,S.c2,?_,?_,hnk,hni⟩
 ·intro j hj;exact(IJ j).2 (.inl (S.sub j hj))
 ·intro j hj
  rcases (IJ j).1 hj with h|h
  ·exact S.ET j h
  ·subst h;exact hi
 ·intro j hj q hq hbq
  rcases (IJ j).1 hj with h|h
  ·exact(IJ q).2 (.inl (S.lcl j h q hq hbq))
  ·subst h;exact(IJ q).2 (.inl (hb q hq hbq))
 ·intro k j hj hd
  rcases yC with⟨e1,e2⟩|⟨kd,e1,e2,_⟩
  ·rcases (IJ j).1 hj with h|h
   ·have bI:j≠i:=by intro e;subst e;rw[hL] at h;cases h
    rw[e2]
    simp only[bp,vh,bI,if_false]
    exact S.a1 k j h hd
   ·subst h;rw[hdi,e1] at hd;cases hd
  ·rw[e2]
   simp only[bp]
   rcases (IJ j).1 hj with h|h
   ·have bI:j≠i:=by intro e;subst e;rw[hL] at h;cases h
    have hk:k≠kd:=by
     intro e;subst e
     exact bI (S.Lg.K3 hd (hdi.trans e1))
    rw[bZ _ _ _ _ hk]
    simp only[vh,bI,if_false]
    exact S.a1 k j h hd
   ·subst h
    rw[hdi,e1] at hd
    have hk:k=kd:=Key.toNat_inj (by simpa using hd.symm)
    subst hk
    rw[gTSm]
    simp[vh]
 ·intro k sE
  rcases yC with⟨e1,e2⟩|⟨kd,e1,e2,_⟩
  ·rw[e2]
   exact S.a2 k fun j hj=>sE j ((IJ j).2 (.inl hj))
  ·rw[e2]
   simp only[bp]
   have hk:k≠kd:=by
    intro e;subst e
    exact sE i ((IJ i).2 (.inr rfl)) (hdi.trans e1)
   rw[bZ _ _ _ _ hk]
   exact S.a2 k fun j hj=>sE j ((IJ j).2 (.inl hj))
 ·intro k j a hj hd hv
  have bI:j≠i:=by intro e;subst e;rw[hDi] at hj;cases hj
  exact S.c1 k j a hj hd (by simpa[vh,bI] using hv)
 ·intro j hj hjD
  rcases (IJ j).1 hj with h|h
  ·have bI:j≠i:=by intro e;subst e;rw[hL] at h;cases h
   exact(S.pd j h hjD).nN (hnb j h) bI NO Tc
  ·subst h;exact mM
 ·intro y hy
  by_cases sC:y∈aj
  ·obtain⟨p1,p2,p3,p4,p5⟩:=S.pe y sC
   exact⟨(IJ _).2 (.inl p1),p2,p3,p4,LO p5 hn⟩
  ·obtain⟨q1,q2,q3,q4⟩:=Qz y hy sC
   have e:=(Tc y hy).resolve_left sC
   refine⟨(IJ _).2 (.inr e),fun h=>?_,fun _=>⟨q1,q2⟩,q3,q4⟩
   rw[e] at h
   have h:g.D i=true:=h
   rw[hDi] at h;cases h
theorem fc.kN(S:fc P ρ orc nt ops pl bf μ G H nx g (fun i=>fa pl i=true) aj tm tmps rest)(hm:μ.le μ')(hn:nx.toNat≤nx'.toNat)
  (hk:∀ x∈aj,μ' x.2.1=μ x.2.1∧G' x.2.1=G x.2.1∧aa x.2.1 H'=none):fc P ρ orc nt ops pl bf μ' G' H' nx' g (fun i=>fa pl i=true) aj tm tmps rest:=by
 refine⟨S.Lg,S.ord,S.cl,S.sub,S.ET,S.lcl,S.a1,S.a2,S.sz,?_,?_,?_,?_,S.nk,S.ni⟩
 ·intro k j a h1 h2 h3
  obtain⟨v,hv,hr⟩:=S.c1 k j a h1 h2 h3
  exact⟨v,hv,hr.mono hm⟩
 ·intro k a h1 h2
  obtain⟨v,hv,hr⟩:=S.c2 k a h1 h2
  exact⟨v,hv,hr.mono hm⟩
 ·intro i hi hD
  cases S.pd i hi hD with
  |skip po kg h1 h2 h3 h4 h5=>exact .skip po kg h1 h2 h3 h4 h5
  |light po kg v h1 h2 h3 qq h4 h5 h6=>
   refine .light po kg v h1 h2 h3 qq (fun hu=>?_) h5 h6
   obtain⟨V,a1,_⟩:=h4 hu
   refine⟨H',?_,VOk.refl _ _ _ _⟩
   rw[← a1]
   apply Hi
   have:fa pl i=HB po.op:=by simp[fa,h1]
   rw[this] at hu
   simpa using hu
  |alloc po kg f B k h1 h2 h3 qq h4 h5 h6=>exact .alloc po kg f B k h1 h2 h3 qq h4 h5 h6
 ·intro x hx
  obtain⟨p1,p2,p3,p4,p5⟩:=S.pe x hx
  obtain⟨q1,q2,q3⟩:=hk x hx
  refine⟨p1,fun h=>by rw[q2];exact p2 h,fun h=>by rw[q1,q2];exact p3 h,q3,LO p5 hn⟩
end
end Go.Sx
/-
 SX: a region that draws its order: the model comes to the next heavy operation; reads are looked at again. No condition.
-/
namespace Go.Sx
open Go.RowKit
section
variable{P:Program}{ρ:Nat→Int}{orc:gD}{nt:Nat}{ops:Array Oper}{pl:List J}{bf:List Nat}{w0:W0}{w:World}{μ μ':Mu}{G G':Key→Option ah}{H H':T ah}{nx nx':Key}{g:Gh}{zG aFe:Nat→Prop}{aj pend':List (Nat×Key×ah)}{tm:T AV}{tmps:Array Value}{rest:List Nat}{fr:Frame}{cs:List Frame}{K:List Item}{i:Nat}
def aBD(P:Program)(ρ:Nat→Int)(orc:gD)(nt:Nat)(ops:Array Oper)(pl:List J)(bf:List Nat)(w0:W0)(H:T ah)(nx:Key)(g:Gh)(aj:List (Nat×Key×ah))(tm:T AV)(K:List Item)
  (fr:Frame) (cs:List Frame) (w:World) (μ:Mu) (G:Key→Option ah) (AW:List Nat→Prop):Prop:=
 ∃ dp w' μ' G' D' jj,Steps P (lone fr cs w) (lone {fr with tmps:=dp,todo:=.inRegion ops jj ::K} cs w')∧μ.le μ'∧aP P ρ w0 μ' G' nx.toNat w'∧HSub H G'∧
  fc P ρ orc nt ops pl bf μ' G' H nx {g with D:=D'} (fun _=>False) aj tm dp jj∧(∀ b,(∀ x∈aj,x.2.1≠b)→μ' b=μ b∧G' b=G b)∧AW jj
theorem auz(AW:List Nat→Prop)(ho:cY ρ orc)
  (hgo:∀ (D:Nat→Bool) (rest:List Nat),(∀ i,D i=true→hasB g.L i=true)→KJ ops D rest→AW rest∨∃ q r,rest=q ::r∧((∀ j,j<ops.size→hasB (eu bf q) j=true→D j=true)→hasB g.L q=true)) :
  ∀ (rest:List Nat) (D:Nat→Bool) (fr:Frame) (w:World) (μ:Mu) (G:Key→Option ah),aP P ρ w0 μ G nx.toNat w→HSub H G→fc P ρ orc nt ops pl bf μ G H nx {g with D:=D} (fun _=>False) aj tm fr.tmps rest→
   fr.mode=.run→fr.todo=.inRegion ops rest ::K→aBD P ρ orc nt ops pl bf w0 H nx g aj tm K fr cs w μ G AW:=by
 intro rest
 induction rest with
 |nil=>
  intro D fr w μ G hM hH S hm ht
  rcases hgo D [] S.sub S.ord with h|⟨q,r,h,_⟩
  ·refine⟨fr.tmps,w,μ,G,D,[],?_,μ.le_refl,hM,hH,S,fun _ _=>⟨rfl,rfl⟩,h⟩
   rw[← ht];exact Steps.refl _ _
  ·cases h
 |cons q r ih=>
  intro D fr w μ G hM hH S hm ht
  rcases hgo D (q ::r) S.sub S.ord with h|⟨q',r',h,hq⟩
  ·refine⟨fr.tmps,w,μ,G,D,q ::r,?_,μ.le_refl,hM,hH,S,fun _ _=>⟨rfl,rfl⟩,h⟩
   rw[← ht];exact Steps.refl _ _
  ·cases h
   have hL:=hq S.ready.2.2
   obtain⟨dp,w',μ',G',h1,h2,h3,h4,h5,h6⟩:=Sg (cs:=cs) hM hH ho S hL (fun h=>h) hm ht
   obtain⟨tmps2,w2,μ2,G2,D2,rest2,k1,k2,k3,k4,k5,k6,k7⟩:=ih _ {fr with tmps:=dp,todo:=.inRegion ops r ::K} w' μ' G' h3 h4 h5 hm rfl
   exact⟨tmps2,w2,μ2,G2,D2,rest2,.head h1 k1,Mu.le_trans h2 k2,k3,k4,k5,fun b hb=>⟨(k6 b hb).1.trans (h6 b hb).1,(k6 b hb).2.trans (h6 b hb).2⟩,k7⟩
theorem Td(hM:aP P ρ w0 μ G nx.toNat w)(hH:HSub H G)(ho:cY ρ orc)(S:fc P ρ orc nt ops pl bf μ G H nx g (fun _=>False) aj tm fr.tmps rest){h:Nat}(bN:h<ops.size)(hh:hasB g.L h=false)
  (aiA:∀ j,j<ops.size→hasB g.L j=true∨j=h∨∃ q,q<ops.size∧hasB (eu bf j) q=true∧hasB g.L q=false) (hm:fr.mode=.run) (ht:fr.todo=.inRegion ops rest ::K) :
  aBD P ρ orc nt ops pl bf w0 H nx g aj tm K fr cs w μ G (fun r=>∃ r',r=h ::r'):=by
 refine auz _ ho ?_ rest g.D fr w μ G hM hH S hm ht
 intro D rest aw1 aix
 cases rest with
 |nil=>
  have:=aw1 h (aix h bN)
  rw[hh] at this;cases this
 |cons q r=>
  by_cases e:q=h
  ·subst e;exact .inl ⟨r,rfl⟩
  ·refine .inr ⟨q,r,rfl,fun hb=>?_⟩
   rcases aiA q aix.1 with h1|h1|⟨p,hp,hpb,hpL⟩
   ·exact h1
   ·exact absurd h1 e
   ·have:=aw1 p (hb p hp hpb)
    rw[hpL] at this;cases this
theorem al8(hM:aP P ρ w0 μ G nx.toNat w)(hH:HSub H G)(ho:cY ρ orc)(S:fc P ρ orc nt ops pl bf μ G H nx g (fun _=>False) aj tm fr.tmps rest)
  (EV:∀ j,j<ops.size→hasB g.L j=true) (hm:fr.mode=.run) (ht:fr.todo=.inRegion ops rest ::K) :
  aBD P ρ orc nt ops pl bf w0 H nx g aj tm K fr cs w μ G (fun r=>r=[]):=by
 refine auz _ ho ?_ rest g.D fr w μ G hM hH S hm ht
 intro D rest aw1 aix
 cases rest with
 |nil=>exact .inl rfl
 |cons q r=>exact .inr ⟨q,r,rfl,fun _=>EV q aix.1⟩
theorem CM{hO:List (Nat×List Nat)}:∀ {os:List (Nat×J)},recheck orc hO aj tm H os=true→∀ i po,(i,po)∈os→
  ∃ d,po.dst=some d∧((b9 po.guard tm=some false∧aa d tm=some (.tuple []))∨(b9 po.guard tm=some true∧∃ v,aa d tm=some v∧lightOp orc po.op tm (tU (AX i hO) aj H)=some v))
 | [],_,_,_,h=>by simp at h
 |(q,o) ::os,hr,i,po,hm=>by
  simp only[recheck] at hr
  split at hr
  ·rename_i hw
   split at hr
   ·cases hr
   ·rename_i d hd
    split at hr
    ·rename_i hg
     rcases JY.1 hm with h|h
     ·cases h;exact⟨d,hd,.inl ⟨hw,hg⟩⟩
     ·exact CM hr i po h
    ·cases hr
  ·rename_i hw
   split at hr
   ·cases hr
   ·rename_i d hd
    split at hr
    ·rename_i v u hg hl
     cases hb:AV.beq v u with
     |false=>rw[hb] at hr;cases hr
     |true=>
      rw[hb] at hr
      simp only[cond_true] at hr
      have:=AV.eq_of_beq v u hb
      subst this
      rcases JY.1 hm with h|h
      ·cases h;exact⟨d,hd,.inr ⟨hw,v,hg,hl⟩⟩
      ·exact CM hr i po h
    ·cases hr
  ·cases hr
theorem aiN{i:Nat}{o:Oper}(h:Bf ops bf i=true)(ho:ops[i]?=some o){j t:Nat}(hj:kM ops j=some t)(ht:t∈jz ops o):hasB (eu bf i) j=true:=by
 unfold Bf at h
 rw[ho] at h
 simp only[zr] at h
 have h:=h j (by simpa using Il hj)
 rw[hj] at h
 have hc:(jz ops o).contains t=true:=by simpa using ht
 simp only[hc,Bool.not_true,Bool.false_or] at h
 exact h
theorem fc.Qs(S:fc P ρ orc nt ops pl bf μ G H nx g zG aj tm tmps rest){os:List (Nat×J)}{hO:List (Nat×List Nat)}(aiH:wU bf hO=true)(hr:recheck orc hO aj tm H os=true)
  (Tw:∀ i po,(i,po)∈os→pl[i]?=some po∧Bf ops bf i=true∧nZ pl i=0) (Eu:∀ i,hasB g.L i=true→g.D i=false→zG i→∃ po,(i,po)∈os) :
  fc P ρ orc nt ops pl bf μ G H nx g (fun _=>False) aj tm tmps rest:=by
 refine⟨S.Lg,S.ord,S.cl,S.sub,S.ET,S.lcl,S.a1,S.a2,S.sz,S.c1,S.c2,?_,S.pe,S.nk,S.ni⟩
 intro i hi hD
 by_cases hu:zG i
 ·obtain⟨po,hm⟩:=Eu i hi hD hu
  obtain⟨nR,Fv,hk⟩:=Tw i po hm
  obtain⟨d,hd,MP⟩:=CM hr i po hm
  have aLO:=S.ET i hi
  obtain⟨o,Oo,ho,Rg,Dh⟩:=S.Lg.at aLO
  rw[nR] at Dh;cases Dh
  obtain⟨_,_,yC⟩:=gp Rg
  have hdd:kM ops i=some d.toNat:=by
   rcases yC with⟨_,e2⟩|⟨k,e1,e2,_⟩
   ·rw[e2] at hd;cases hd
   ·rw[e2] at hd;cases hd
    simp[kM,ho,e1]
  have Kh:=S.a1 d i hi hdd
  have htm:UL ops bf g i tm:=by
   intro o' Rj k a K9 hg
   rw[ho] at Rj;cases Rj
   by_cases hex:∃ j,kM ops j=some k.toNat
   ·obtain⟨j,hj⟩:=hex
    have hb:=aiN Fv ho hj K9
    exact .inl ⟨j,hj,hb,by rw[← S.a1 k j (S.lcl i hi j (Il hj) hb) hj];exact hg⟩
   ·have sE:∀ j,kM ops j≠some k.toNat:=fun j hj=>hex ⟨j,hj⟩
    exact .inr ⟨fun j hj=>absurd hj (sE j),by rw[← S.a2 k fun j _=>sE j];exact hg⟩
  have NO:∀ x∈aj,x.1≠i:=by
   cases S.pd i hi hD with
   |skip po kg h1 h2 h3 h4 h5=>exact h5
   |light po kg v h1 h2 h3 qq h4 h5 h6=>exact h6
   |alloc po kg f B k h1 h2 h3 qq h4 h5 h6=>rw[hk] at qq;cases qq
  rcases MP with⟨hw,hg⟩|⟨hw,v,hg,hl⟩
  ·exact .skip po tm nR htm hw (by rw[← Kh];exact hg) NO
  ·exact .light po tm v nR htm hw hk (fun _=>⟨_,hl,VOk.view aiH _ _ _⟩) (by rw[← Kh];exact hg) NO
 ·cases S.pd i hi hD with
  |skip po kg h1 h2 h3 h4 h5=>exact .skip po kg h1 h2 h3 h4 h5
  |light po kg v h1 h2 h3 qq h4 h5 h6=>exact .light po kg v h1 h2 h3 qq (fun _=>h4 hu) h5 h6
  |alloc po kg f B k h1 h2 h3 qq h4 h5 h6=>exact .alloc po kg f B k h1 h2 h3 qq h4 h5 h6
end
end Go.Sx
/-
 SX: frames of the abstract machine and of the model. No condition.
-/
namespace Go.Sx
open Go.RowKit
inductive KH(P:Program)(μ:Mu)(nt:Nat):dn→Item→Prop
 |code (pc:aG) (c:Code) (h:fF P nt c=some pc):KH P μ nt (.code pc) (.code c)
 |inBlock (id:Nat):KH P μ nt (.inBlock id) (.inBlock id)
 |inLoop (pc:aG) (c:Code) (h:fF P nt c=some pc):KH P μ nt (.inLoop pc) (.inLoop c)
 |ops (l:List J) (ops:Array Oper) (rest:List Nat) (h:kK P nt ops rest=some l):KH P μ nt (.ops l) (.inRegion ops rest)
 |inRF (k:Key) (l:Loc) (r:Nat) (h:μ k=some l) (hr:r=l.c):KH P μ nt (.inRF k) (.inRangeFunc r)
 |endRF (k:Key) (l:Loc) (r:Nat) (h:μ k=some l) (hr:r=l.c):KH P μ nt (.endRF k) (.endRangeFunc r)
 |beginRound:KH P μ nt .beginRound .beginRound
 |scope (c:Code):KH P μ nt (.code .skip) (.inScope c)
inductive kG(P:Program)(μ:Mu)(nt:Nat):List dn→List Item→Prop
 |nil:kG P μ nt [] []
 |cons (a:dn) (x:Item) (l:List dn) (k:List Item) (h:KH P μ nt a x) (h':kG P μ nt l k):kG P μ nt (a ::l) (x ::k)
theorem KH.mono{P:Program}{μ μ':Mu}(hm:μ.le μ'){nt:Nat}{a:dn}{x:Item}(h:KH P μ nt a x):KH P μ' nt a x:=by
 cases h with
 |code pc c h=>exact .code pc c h
 |inBlock id=>exact .inBlock id
 |inLoop pc c h=>exact .inLoop pc c h
 |ops l ops rest h=>exact .ops l ops rest h
 |inRF k l r h hr=>exact .inRF k l r (hm.l _ _ h) hr
 |endRF k l r h hr=>exact .endRF k l r (hm.l _ _ h) hr
 |beginRound=>exact .beginRound
 |scope c=>exact .scope c
theorem kG.mono{P:Program}{μ μ':Mu}(hm:μ.le μ'){nt:Nat}{a:List dn}{x:List Item}(h:kG P μ nt a x):kG P μ' nt a x:=by
 induction h with
 |nil=>exact .nil
 |cons a x l k h h' ih=>exact .cons _ _ _ _ (h.mono hm) ih
def aw9(ρ:Nat→Int)(μ:Mu):ai8→Deferred→Prop
 |.fn f args,d=>∃ ws,d.target=.fn (.func f) ws∧al ρ μ args (d.args++ws).toList
 |.coll b,d=>∃ l,μ b=some l∧d=⟨.collected l.c,#[]⟩
def MV(ρ:Nat→Int)(μ:Mu):List ai8→List Deferred→Prop
 | [],[]=>True
 |a ::l,d ::ds=>aw9 ρ μ a d∧MV ρ μ l ds
 |_,_=>False
theorem aw9.mono{ρ:Nat→Int}{μ μ':Mu}(hm:μ.le μ'){a:ai8}{d:Deferred}(h:aw9 ρ μ a d):aw9 ρ μ' a d:=by
 cases a with
 |fn f args=>obtain⟨ws,h1,h2⟩:=h;exact⟨ws,h1,h2.mono hm⟩
 |coll b=>obtain⟨l,h1,h2⟩:=h;exact⟨l,hm.l _ _ h1,h2⟩
theorem MV.mono{ρ:Nat→Int}{μ μ':Mu}(hm:μ.le μ'):∀ {a:List ai8} {d:List Deferred},MV ρ μ a d→MV ρ μ' a d
 | [],[],_=>trivial
 |_ ::_,_ ::_,h=>⟨h.1.mono hm,MV.mono hm h.2⟩
 | [],_ ::_,h=>h.elim
 |_ ::_,[],h=>h.elim
def aE5(μ:Mu):Option Key→Option Nat→Prop
 |none,none=>True
 |some k,some r=>∃ l,μ k=some l∧r=l.c
 |_,_=>False
structure wV(P:Program)(ρ:Nat→Int)(μ:Mu)(nt:Nat)(af:kU)(fr:Frame):Prop where
 fn:fr.fn=af.fn
 fnr:ari P af.fn nt af.res
 dfs:MV ρ μ af.dfs fr.defers
 kind:fr.kind=if af.Bs then .deferred else .normal
 sy:aE5 μ af.sy fr.roundOf
 rd:af.sy≠none→af.Bs=false
theorem wV.mono{P:Program}{ρ:Nat→Int}{μ μ':Mu}(hm:μ.le μ'){nt:Nat}{af:kU}{fr:Frame}(h:wV P ρ μ nt af fr):wV P ρ μ' nt af fr:=by
 refine⟨h.fn,h.fnr,h.dfs.mono hm,h.kind,?_,h.rd⟩
 have:=h.sy
 cases h1:af.sy<;>cases h2:fr.roundOf<;>rw[h1,h2] at this
 ·trivial
 ·exact this.elim
 ·exact this.elim
 ·obtain⟨l,e1,e2⟩:=this;exact⟨l,hm.l _ _ e1,e2⟩
def HF(ops:Array Oper)(gL:List Key):Prop:=∀ j t,kM ops j=some t→∃ k∈gL,k.toNat=t
inductive TN(P:Program)(ρ:Nat→Int)(orc:gD)(μ:Mu)(G:Key→Option ah)(H:T ah)(nx:Key)(nt:Nat):List dn→T AV→List Item→Array Value→Prop
 |plain (k:List dn) (K:List Item) (tm:T AV) (tmps:Array Value) (h:kG P μ nt k K) (ht:je ρ μ nt tm tmps):TN P ρ orc μ G H nx nt k tm K tmps
 |ready (ops:Array Oper) (pl:List J) (bf:List Nat) (g:Gh) (sA:List IIt) (items:List aN) (gL:SD) (aj:List (Nat×Key×ah)) (k:List dn) (K:List Item) (tm:T AV) (tmps:Array Value) (rest:List Nat)
   (hf:sA.mapM (Bh pl)=some items) (hc:wa ops pl bf g.L sA=true) (hd:HF ops gL.ds∧wU bf gL.hO=true) (h:kG P μ nt k K) (S:fc P ρ orc nt ops pl bf μ G H nx g (fun _=>False) aj tm tmps rest) :
   TN P ρ orc μ G H nx nt (.staged items gL aj ::k) tm (.inRegion ops rest ::K) tmps
 |back (ops:Array Oper) (pl:List J) (bf:List Nat) (g:Gh) (os:List (Nat×J)) (sA:List IIt) (items:List aN) (gL:SD) (aj:List (Nat×Key×ah)) (k:List dn) (K:List Item) (tm:T AV) (tmps:Array Value) (rest:List Nat)
   (hf:sA.mapM (Bh pl)=some items) (hc:wa ops pl bf g.L sA=true) (hd:HF ops gL.ds∧wU bf gL.hO=true) (h:kG P μ nt k K)
   (Tw:∀ i po,(i,po)∈os→pl[i]?=some po∧Bf ops bf i=true∧nZ pl i=0) (Eu:∀ i,hasB g.L i=true→g.D i=false→fa pl i=true→∃ po,(i,po)∈os)
   (S:fc P ρ orc nt ops pl bf μ G H nx g (fun i=>fa pl i=true) aj tm tmps rest) :
   TN P ρ orc μ G H nx nt (.staged (.R os ::items) gL aj ::k) tm (.inRegion ops rest ::K) tmps
inductive Fu(P:Program)(ρ:Nat→Int)(orc:gD)(μ:Mu)(G:Key→Option ah)(H:T ah)(nx:Key)(nt:Nat):List dn→T AV→List Item→Array Value→Prop
 |ops (o:J) (l:List J) (ops:Array Oper) (i:Nat) (rest:List Nat) (k:List dn) (K:List Item) (tm:T AV) (tmps:Array Value) (hp:kK P nt ops (i ::rest)=some (o ::l)) (h:kG P μ nt k K) (ht:je ρ μ nt tm tmps) :
   Fu P ρ orc μ G H nx nt (.ops (o ::l) ::k) tm (.inRegion ops (i ::rest) ::K) tmps
 |staged (ops:Array Oper) (pl:List J) (bf:List Nat) (g:Gh) (i:Nat) (po:J) (ad:List Nat) (os:List (Nat×J)) (sA:List IIt) (items:List aN) (gL:SD) (aj:List (Nat×Key×ah)) (k:List dn) (K:List Item) (tm:T AV) (tmps:Array Value) (rest:List Nat)
   (nR:pl[i]?=some po) (hf:sA.mapM (Bh pl)=some items) (hc:wa ops pl bf (Fj g.L i) sA=true) (hL:hasB g.L i=false) (PW:∀ j,j<ops.size→hasB (eu bf i) j=true→hasB g.L j=true) (hd:HF ops gL.ds∧wU bf gL.hO=true) (h:kG P μ nt k K)
   (Tw:∀ i po,(i,po)∈os→pl[i]?=some po∧Bf ops bf i=true∧nZ pl i=0) (Eu:∀ j,hasB g.L j=true→fa pl j=true→hasB (eu bf i) j=true∨∃ po,(j,po)∈os)
   (S:fc P ρ orc nt ops pl bf μ G H nx g (fun i=>fa pl i=true) aj tm tmps (i ::rest)) :
   Fu P ρ orc μ G H nx nt (.staged (.H i po ad ::.R os ::items) gL aj ::k) tm (.inRegion ops (i ::rest) ::K) tmps
 |rf (key:Key) (l:Loc) (k:List dn) (K:List Item) (tm:T AV) (tmps:Array Value) (hk:μ key=some l) (h:kG P μ nt k K) (ht:je ρ μ nt tm tmps):Fu P ρ orc μ G H nx nt (.inRF key ::k) tm (.inRangeFunc l.c ::K) tmps
inductive Cur(P:Program)(ρ:Nat→Int)(orc:gD)(μ:Mu)(G:Key→Option ah)(H:T ah)(nx:Key)(af:kU)(fr:Frame):Prop
 |run (nt:Nat) (hb:wV P ρ μ nt af fr) (h1:af.mode=.run) (h2:fr.mode=.run) (h:TN P ρ orc μ G H nx nt af.todo af.tm fr.todo fr.tmps):Cur P ρ orc μ G H nx af fr
 |ret (nt:Nat) (hb:wV P ρ μ nt af fr) (h1:af.mode=.ret) (h2:fr.mode=.returning) (h3:af.todo=[]∨∃ k,af.todo=.code .ret ::k) (h:je ρ μ nt af.tm fr.tmps):Cur P ρ orc μ G H nx af fr
 |pan (nt:Nat) (hb:wV P ρ μ nt af fr) (v:AV) (u:Value) (r:Bool) (h1:af.mode=.pan v r) (h2:fr.mode=.panicking [{v:=u,recovered:=r}]) (hv:aC ρ μ v u) (h3:af.todo=[]) (h:je ρ μ nt af.tm fr.tmps):Cur P ρ orc μ G H nx af fr
inductive Sus(P:Program)(ρ:Nat→Int)(orc:gD)(μ:Mu)(G:Key→Option ah)(H:T ah)(nx:Key)(af:kU)(fr:Frame):Prop
 |wait (nt:Nat) (hb:wV P ρ μ nt af fr) (h1:af.mode=.run) (h2:fr.mode=.run) (h:Fu P ρ orc μ G H nx nt af.todo af.tm fr.todo fr.tmps):Sus P ρ orc μ G H nx af fr
 |unw (h:Cur P ρ orc μ G H nx af fr) (hm:af.mode≠.run):Sus P ρ orc μ G H nx af fr
def cT(P:Program)(ρ:Nat→Int)(orc:gD)(μ:Mu)(G:Key→Option ah)(H:T ah)(nx:Key):List kU→List Frame→Prop
 | [],[]=>True
 |a ::l,f ::fs=>Sus P ρ orc μ G H nx a f∧cT P ρ orc μ G H nx l fs
 |_,_=>False
def pk(af:kU):List Nat:=match af.todo with
 |.staged _ _ p ::_=>p.map (·.2.1.toNat)
 |_=>[]
def bk:List kU→List Nat
 | []=>[]
 |a ::l=>pk a++bk l
structure yz(P:Program)(ρ:Nat→Int)(orc:gD)(w0:W0)(μ0:Mu)(am:AM)(fr:Frame)(cs:List Frame)(w:World):Prop where
 ex:∃ μ G,μ0.le μ∧aP P ρ w0 μ G am.nx.toNat w∧HSub am.h G∧Cur P ρ orc μ G am.h am.nx am.fr fr∧cT P ρ orc μ G am.h am.nx am.cs cs∧(bk (am.fr ::am.cs)).Nodup
section
variable{P:Program}{ρ:Nat→Int}{orc:gD}{μ μ':Mu}{G G':Key→Option ah}{H H':T ah}{nx nx':Key}
theorem Fu.kN(hm:μ.le μ')(hn:nx.toNat≤nx'.toNat){nt:Nat}{k:List dn}{tm:T AV}{K:List Item}{tmps:Array Value}(h:Fu P ρ orc μ G H nx nt k tm K tmps)
  (hk:∀ b:Key,(∀ i d p k',k=.staged i d p ::k'→b.toNat∈p.map (·.2.1.toNat))→(∃ i d p k',k=.staged i d p ::k')→aa b H=none→b.toNat<nx.toNat→μ' b=μ b∧G' b=G b∧aa b H'=none):Fu P ρ orc μ' G' H' nx' nt k tm K tmps:=by
 cases h with
 |ops o l ops i rest k K tm tmps hp h ht=>exact .ops o l ops i rest k K tm tmps hp (h.mono hm) (ht.mono hm)
 |rf key l k K tm tmps aA9 h ht=>exact .rf key l k K tm tmps (hm.l _ _ aA9) (h.mono hm) (ht.mono hm)
 |staged ops pl bf g i po ad os sA items gL aj k K tm tmps rest nR hf hc hL PW hd h Tw Eu S=>
  refine .staged ops pl bf g i po ad os sA items gL aj k K tm tmps rest nR hf hc hL PW hd (h.mono hm) Tw Eu (S.kN hm hn fun x hx=>?_)
  obtain⟨_,_,_,p4,p5⟩:=S.pe x hx
  refine hk x.2.1 ?_ ⟨_,_,_,_,rfl⟩ p4 p5
  intro i d p k' e
  cases e
  exact zqv.2 ⟨x,hx,rfl⟩
theorem Sus.kN(hm:μ.le μ')(hn:nx.toNat≤nx'.toNat){af:kU}{fr:Frame}(h:Sus P ρ orc μ G H nx af fr)
  (hk:∀ b:Key,b.toNat∈pk af→aa b H=none→b.toNat<nx.toNat→μ' b=μ b∧G' b=G b∧aa b H'=none):Sus P ρ orc μ' G' H' nx' af fr:=by
 cases h with
 |wait nt hb h1 h2 h=>
  refine .wait nt (hb.mono hm) h1 h2 (h.kN hm hn fun b h3 ⟨i,d,p,k',e⟩ h4 h5=>hk b ?_ h4 h5)
  unfold pk
  rw[e]
  exact h3 i d p k' e
 |unw h xr=>
  refine .unw ?_ xr
  cases h with
  |run nt hb h1=>exact absurd h1 xr
  |ret nt hb h1 h2 h3 h=>exact .ret nt (hb.mono hm) h1 h2 h3 (h.mono hm)
  |pan nt hb v u r h1 h2 hv h3 h=>exact .pan nt (hb.mono hm) v u r h1 h2 (hv.mono hm) h3 (h.mono hm)
theorem cT.kN(hm:μ.le μ')(hn:nx.toNat≤nx'.toNat):∀ {l:List kU} {fs:List Frame},cT P ρ orc μ G H nx l fs→
  (∀ b:Key,b.toNat∈bk l→aa b H=none→b.toNat<nx.toNat→μ' b=μ b∧G' b=G b∧aa b H'=none)→cT P ρ orc μ' G' H' nx' l fs
 | [],[],_,_=>trivial
 |_ ::_,_ ::_,h,hk=>⟨h.1.kN hm hn fun b hb=>hk b (by simp[bk,hb]),cT.kN hm hn h.2 fun b hb=>hk b (by simp[bk,hb])⟩
 | [],_ ::_,h,_=>h.elim
 |_ ::_,[],h,_=>h.elim
end
end Go.Sx
/-
 SX: simulation: rows of operations in their order. No condition.
-/
namespace Go.Sx
open Go.RowKit
section
variable{P:Program}{ρ:Nat→Int}{orc:gD}{nt:Nat}{w0:W0}{cs:List Frame}{K:List Item}{ops:Array Oper}
theorem je.put{μ:Mu}{tm:T AV}{tmps:Array Value}(h:je ρ μ nt tm tmps){o:Oper}{po:J}(hd:(o.dst=none∧po.dst=none)∨∃ k,o.dst=some k.toNat∧po.dst=some k∧k.toNat<nt){a:AV}{v:Value}(hv:aC ρ μ a v) :
  je ρ μ nt (bp po.dst a tm) (Dg o.dst v tmps):=by
 rcases hd with⟨e1,e2⟩|⟨k,e1,e2,bN⟩
 ·rw[e1,e2];exact h
 ·rw[e1,e2]
  refine⟨by simp[Dg];exact h.1,fun q b hb=>?_⟩
  simp only[bp] at hb
  simp only[Dg]
  by_cases hq:q=k
  ·subst hq
   rw[gTSm] at hb;cases hb
   have:q.toNat<tmps.size:=LO bN h.1
   exact⟨v,by simp[this],hv⟩
  ·rw[bZ _ _ _ _ hq] at hb
   obtain⟨u,hu,hr⟩:=h.2 q b hb
   refine⟨u,?_,hr⟩
   rw[zqn]
   ·exact hu
   ·intro e;exact hq (Key.toNat_inj e.symm)
theorem aqt{o:Oper}{op:Fa}(hp:gi P nt o=some op)(hd:dP o.op=true):∃ v l,op=.dfr v l:=by
 obtain⟨dst,tC,ty,pos,after,guard⟩:=o
 cases tC<;>first|(cases hd;done)|skip
 rename_i c
 simp only[gi] at hp
 split at hp
 ·split at hp
  ·simp only[cS] at hp;exact⟨_,_,hp.symm⟩
  ·cases hp
 ·cases hp
theorem tA{o:Oper}{op:Fa}(hp:gi P nt o=some op){tm:T AV}{H:T ah}{nx:Key}(h1:∀ f l,aOp orc op tm H nx≠.dfr f l)(h2:∀ n,aOp orc op tm H nx≠.bad n):dP o.op=false:=by
 cases hd:dP o.op with
 |false=>rfl
 |true=>
  obtain⟨v,l,rfl⟩:=aqt hp hd
  exfalso
  have key:(∃ f l',aOp orc (.dfr v l) tm H nx=.dfr f l')∨∃ n,aOp orc (.dfr v l) tm H nx=.bad n:=by
   simp only[aOp]
   split
   ·exact .inl ⟨_,_,rfl⟩
   ·exact .inr ⟨_,rfl⟩
  rcases key with⟨f,l',e⟩|⟨n,e⟩
  ·exact h1 _ _ e
  ·exact h2 _ e
def atn(P:Program)(ρ:Nat→Int)(orc:gD)(nt:Nat)(w0:W0)(cs:List Frame)(K:List Item)(ops:Array Oper)(fr:Frame)(w:World)(μ:Mu)(G:Key→Option ah)(H:T ah)(nx:Key):RR→Prop
 |.fin an h' nx'=>∃ dp w' μ' G',Steps P (lone fr cs w) (lone {fr with tmps:=dp,todo:=K} cs w')∧μ.le μ'∧aP P ρ w0 μ' G' nx'.toNat w'∧HSub h' G'∧je ρ μ' nt an dp∧Kept H h' nx nx' μ μ' G G'
 |.ev r l' an h' nx'=>(∃ n,r=.bad n)∨∃ dp w' μ' G' i jj po ll o,Steps P (lone fr cs w) (lone {fr with tmps:=dp,todo:=.inRegion ops (i ::jj) ::K} cs w')∧μ.le μ'∧aP P ρ w0 μ' G' nx'.toNat w'∧HSub h' G'∧
   je ρ μ' nt an dp∧Kept H h' nx nx' μ μ' G G'∧l'=po ::ll∧kK P nt ops (i ::jj)=some l'∧ops[i]?=some o∧IS P nt ops o=some po∧Region.wanted o (yielded ops dp)=true∧aOp orc po.op an h' nx'=r∧¬ yB r
theorem jU(orc:gD)(o:J)(rest:List J)(tm:T AV)(h:T ah)(nx:Key):ic orc (o ::rest) tm h nx=(match b9 o.guard tm with
   |none=>.ev (.bad 30) (o ::rest) tm h nx
   |some false=>tT o.dst (some (.tuple [])) tm fun tm=>ic orc rest tm h nx
   |some true=>match aOp orc o.op tm h nx with
    |.val v h nx=>tT o.dst (some v) tm fun tm=>ic orc rest tm h nx
    |r=>.ev r (o ::rest) tm h nx):=rfl
theorem Fw(ho:cY ρ orc):∀ (l:List J) (rest:List Nat) (fr:Frame) (w:World) (μ:Mu) (G:Key→Option ah) (H:T ah) (nx:Key) (tm:T AV),kK P nt ops rest=some l→aP P ρ w0 μ G nx.toNat w→HSub H G→je ρ μ nt tm fr.tmps→
  fr.mode=.run→fr.todo=.inRegion ops rest ::K→atn P ρ orc nt w0 cs K ops fr w μ G H nx (ic orc l tm H nx)
 | [],rest,fr,w,μ,G,H,nx,tm,hp,hM,hH,hT,hm,ht=>by
  cases rest with
  |cons i r=>simp only[kK] at hp;split at hp;cases hp;split at hp<;>cases hp
  |nil=>exact⟨fr.tmps,w,μ,G,.one (DX hm ht),μ.le_refl,hM,hH,hT,Kept.refl _ _ _ _⟩
 |po ::l,rest,fr,w,μ,G,H,nx,tm,hp,hM,hH,hT,hm,ht=>by
  cases rest with
  |nil=>simp only[kK,cS] at hp;cases hp
  |cons i r=>
  have hp0:=hp
  simp only[kK] at hp
  split at hp
  ·cases hp
  ·rename_i o ID
   split at hp
   ·rename_i Oo l' h1 h2
    simp only[cS,List.cons.injEq] at hp
    obtain⟨rfl,rfl⟩:=hp
    obtain⟨jx,Rh,yC⟩:=gp h1
    have hs:∀ (k:Key) a,k.toNat∈jz ops o→aa k tm=some a→∃ v,fr.tmps[k.toNat]?=some v∧aC ρ μ a v:=fun k a _ hg=>hT.2 k a hg
    have hE:=CO (P:=P) (nt:=nt) (o:=o) hM hs
    rw[jU]
    have go:∀ (tm2:T AV) (tmps2:Array Value) (w2:World) (μ2:Mu) (G2:Key→Option ah) (H2:T ah) (aI:Key),step P (lone fr cs w)=.next (lone {fr with tmps:=tmps2,todo:=.inRegion ops r ::K} cs w2)→μ.le μ2→aP P ρ w0 μ2 G2 aI.toNat w2→HSub H2 G2→je ρ μ2 nt tm2 tmps2→Kept H H2 nx aI μ μ2 G G2→
      atn P ρ orc nt w0 cs K ops fr w μ G H nx (ic orc l' tm2 H2 aI):=by
     intro tm2 tmps2 w2 μ2 G2 H2 aI dQ hle hM2 hH2 hT2 hK2
     have ih:=Fw ho l' r {fr with tmps:=tmps2,todo:=.inRegion ops r ::K} w2 μ2 G2 H2 aI tm2 h2 hM2 hH2 hT2 hm rfl
     cases JX:ic orc l' tm2 H2 aI with
     |fin an h' nx'=>
      rw[JX] at ih
      obtain⟨dp,w',μ',G',s1,s2,s3,s4,s5,s6⟩:=ih
      exact⟨dp,w',μ',G',.head dQ s1,Mu.le_trans hle s2,s3,s4,s5,hK2.trans s6⟩
     |ev rr ll an h' nx'=>
      rw[JX] at ih
      rcases ih with hb|⟨dp,w',μ',G',i',jj,Oo,ll',o',s1,s2,s3,s4,s5,s6,s7,s8,s9,s10,s11,s12,s13⟩
      ·exact .inl hb
      ·exact .inr ⟨dp,w',μ',G',i',jj,Oo,ll',o',.head dQ s1,Mu.le_trans hle s2,s3,s4,s5,hK2.trans s6,s7,s8,s9,s10,s11,s12,s13⟩
    cases hw:b9 Oo.guard tm with
    |none=>exact .inl ⟨_,rfl⟩
    |some b=>
     have lD:=xI Rh hs hw
     cases b with
     |false=>
      simp only[da]
      have dQ:=EW (P:=P) (cs:=cs) (w:=w) hm ht ID lD
      rw[cr ht ID] at dQ
      exact go _ _ w μ G H nx dQ μ.le_refl hM hH (hT.put yC (.tuple _ _ .nil)) (Kept.refl _ _ _ _)
     |true=>
      cases ha:aOp orc Oo.op tm H nx with
      |val a H2 aI=>
       simp only[da]
       obtain⟨n,w2,μ2,G2,r1,r2,r3,r4,r5,r6⟩:=QG hM hH ho jx hE ha
       have Dn:fr.roundOf=none∨dP o.op=false:=.inr (tA jx (by rw[ha];intro f l e;cases e) (by rw[ha];intro n e;cases e))
       cases n with
       |value v=>
        have dQ:=Lw (P:=P) (cs:=cs) hm ht ID lD Dn r1
        rw[cr ht ID] at dQ
        exact go _ _ w2 μ2 G2 H2 aI dQ r3 r4 r5 ((hT.mono r3).put yC r2) r6
       |skip=>
        have r2:a=.tuple []:=r2
        subst r2
        have dQ:=amZ (P:=P) (cs:=cs) hm ht ID lD Dn r1
        rw[cr ht ID] at dQ
        exact go _ _ w2 μ2 G2 H2 aI dQ r3 r4 r5 ((hT.mono r3).put yC (.tuple _ _ .nil)) r6
       |_=>exact r2.elim
      |bad n=>exact .inl ⟨_,rfl⟩
      |call f args=>exact .inr ⟨fr.tmps,w,μ,G,i,r,Oo,l',o,by rw[← ht];exact Steps.refl _ _,μ.le_refl,hM,hH,hT,Kept.refl _ _ _ _,rfl,hp0,ID,h1,lD,ha,by rintro(⟨_,_,_,e⟩|⟨_,e⟩)<;>cases e⟩
      |yld k args=>exact .inr ⟨fr.tmps,w,μ,G,i,r,Oo,l',o,by rw[← ht];exact Steps.refl _ _,μ.le_refl,hM,hH,hT,Kept.refl _ _ _ _,rfl,hp0,ID,h1,lD,ha,by rintro(⟨_,_,_,e⟩|⟨_,e⟩)<;>cases e⟩
      |pan v=>exact .inr ⟨fr.tmps,w,μ,G,i,r,Oo,l',o,by rw[← ht];exact Steps.refl _ _,μ.le_refl,hM,hH,hT,Kept.refl _ _ _ _,rfl,hp0,ID,h1,lD,ha,by rintro(⟨_,_,_,e⟩|⟨_,e⟩)<;>cases e⟩
      |dfr f args=>exact .inr ⟨fr.tmps,w,μ,G,i,r,Oo,l',o,by rw[← ht];exact Steps.refl _ _,μ.le_refl,hM,hH,hT,Kept.refl _ _ _ _,rfl,hp0,ID,h1,lD,ha,by rintro(⟨_,_,_,e⟩|⟨_,e⟩)<;>cases e⟩
      |recover=>exact .inr ⟨fr.tmps,w,μ,G,i,r,Oo,l',o,by rw[← ht];exact Steps.refl _ _,μ.le_refl,hM,hH,hT,Kept.refl _ _ _ _,rfl,hp0,ID,h1,lD,ha,by rintro(⟨_,_,_,e⟩|⟨_,e⟩)<;>cases e⟩
      |alt la=>exact .inr ⟨fr.tmps,w,μ,G,i,r,Oo,l',o,by rw[← ht];exact Steps.refl _ _,μ.le_refl,hM,hH,hT,Kept.refl _ _ _ _,rfl,hp0,ID,h1,lD,ha,by rintro(⟨_,_,_,e⟩|⟨_,e⟩)<;>cases e⟩
   ·cases hp
end
end Go.Sx
/-
 SX: simulation: regions that draw their order. No condition.
-/
namespace Go.Sx
open Go.RowKit
structure zq(E:List Nat)(H H':T ah)(nx nx':Key)(μ μ':Mu)(G G':Key→Option ah):Prop where
 k:∀ b:Key,b.toNat∉E→aa b H=none→b.toNat<nx.toNat→μ' b=μ b∧G' b=G b∧aa b H'=none
 n:nx.toNat≤nx'.toNat
theorem zq.refl(E:List Nat)(H:T ah)(nx:Key)(μ:Mu)(G:Key→Option ah):zq E H H nx nx μ μ G G:=⟨fun _ _ h _=>⟨rfl,rfl,h⟩,fe _⟩
theorem zq.trans{E E2:List Nat}{H1 H2 H3:T ah}{n1 n2 n3:Key}{m1 m2 m3:Mu}{G1 G2 G3:Key→Option ah}(a:zq E H1 H2 n1 n2 m1 m2 G1 G2)(b:zq E2 H2 H3 n2 n3 m2 m3 G2 G3)(hE:∀ x∈E2,x∈E∨n1.toNat≤x):zq E H1 H3 n1 n3 m1 m3 G1 G3:=by
 refine⟨fun k hk hg hl=>?_,Nat.le_trans a.n b.n⟩
 obtain⟨a1,a2,a3⟩:=a.k k hk hg hl
 have Qg:k.toNat∉E2:=by
  intro h
  rcases hE _ h with h|h
  ·exact hk h
  ·omega
 obtain⟨b1,b2,b3⟩:=b.k k Qg a3 (LO hl a.n)
 exact⟨b1.trans a1,b2.trans a2,b3⟩
theorem Kept.toE{H H':T ah}{nx nx':Key}{μ μ':Mu}{G G':Key→Option ah}(h:Kept H H' nx nx' μ μ' G G')(E:List Nat):zq E H H' nx nx' μ μ' G G':=
 ⟨fun b _ hg hl=>⟨h.m b hl,h.g b hg hl,h.h b hg hl⟩,h.n⟩
section
variable{P:Program}{ρ:Nat→Int}{orc:gD}{nt:Nat}{ops:Array Oper}{pl:List J}{bf:List Nat}{w0:W0}{w:World}{μ μ':Mu}{G G':Key→Option ah}{H H':T ah}{nx nx':Key}{g:Gh}{zG aFe:Nat→Prop}{aj pend':List (Nat×Key×ah)}{tm:T AV}{tmps:Array Value}{rest:List Nat}{fr:Frame}{cs:List Frame}{K:List Item}{i:Nat}
theorem fc.ayB(S:fc P ρ orc nt ops pl bf μ G H nx g zG aj tm tmps (i ::rest)){po:J}(nR:pl[i]?=some po)(hL:hasB g.L i=false)(hb:∀ j,j<ops.size→hasB (eu bf i) j=true→hasB g.L j=true)
  {o:Oper} (ho:ops[i]?=some o) {a:AV} {v:Value} (hv:aC ρ μ a v) :
  fc P ρ orc nt ops pl bf μ G H nx {L:=Fj g.L i,D:=fun j=>g.D j||j==i,a0:=g.a0,val:=vh g.val i (some a)} zG aj (bp po.dst a tm) (Dg o.dst v tmps) rest:=by
 obtain⟨hi,hDi,og⟩:=S.ready
 obtain⟨o',Oo,Rj,Rg,Dh⟩:=S.Lg.at hi
 rw[nR] at Dh;cases Dh
 rw[ho] at Rj;cases Rj
 obtain⟨jx,Rh,yC⟩:=gp Rg
 have hdi:kM ops i=o.dst:=by simp[kM,ho]
 have aAE:∀ x,o.dst=some x→x<tmps.size:=by
  intro x hx
  rcases yC with⟨h,_⟩|⟨k,h,_,bN⟩
  ·rw[h] at hx;cases hx
  ·rw[h] at hx;cases hx;exact LO bN S.sz
 have mI:=fun t=>amN (v:=v) t aAE
 have asU:(Dg o.dst v tmps).size=tmps.size:=by
  cases o.dst<;>simp[Dg]
 have UM:∀ j,((g.D j||j==i)=true)↔(g.D j=true∨j=i):=by intro j;simp
 have IJ:∀ j,hasB (Fj g.L i) j=true↔(hasB g.L j=true∨j=i):=by
  intro j;rw[Fy,Bool.or_eq_true,decide_eq_true_eq]
  exact⟨fun h=>h.imp id Eq.symm,fun h=>h.imp id Eq.symm⟩
 have hnb:∀ p,hasB g.L p=true→hasB (eu bf p) i=false:=by
  intro p hp
  cases h:hasB (eu bf p) i with
  |false=>rfl
  |true=>have:=S.lcl p hp i hi h;rw[hL] at this;cases this
 refine⟨S.Lg,S.ord.2.2.2,?_,?_,?_,?_,?_,?_,by rw[asU];exact S.sz,?_,?_,?_,?_,S.nk,S.ni⟩
 ·intro j oj hj hoj e he vj
  rcases (UM j).1 hj with h|h
  ·exact(UM _).2 (.inl (S.cl j oj h hoj e he vj))
  ·subst h
   exact(UM _).2 (.inl (S.ord.2.2.1 oj hoj e he vj))
 ·intro j hj
  rcases (UM j).1 hj with h|h
  ·exact(IJ j).2 (.inl (S.sub j h))
  ·exact(IJ j).2 (.inr h)
 ·intro j hj
  rcases (IJ j).1 hj with h|h
  ·exact S.ET j h
  ·subst h;exact hi
 ·intro j hj q hq hbq
  rcases (IJ j).1 hj with h|h
  ·exact(IJ q).2 (.inl (S.lcl j h q hq hbq))
  ·subst h;exact(IJ q).2 (.inl (hb q hq hbq))
 ·intro k j hj hd
  rcases yC with⟨e1,e2⟩|⟨kd,e1,e2,_⟩
  ·rcases (IJ j).1 hj with h|h
   ·have bI:j≠i:=by intro e;subst e;rw[hL] at h;cases h
    rw[e2]
    simp only[bp,vh,bI,if_false]
    exact S.a1 k j h hd
   ·subst h;rw[hdi,e1] at hd;cases hd
  ·rw[e2]
   simp only[bp]
   rcases (IJ j).1 hj with h|h
   ·have bI:j≠i:=by intro e;subst e;rw[hL] at h;cases h
    have hk:k≠kd:=by
     intro e;subst e
     exact bI (S.Lg.K3 hd (hdi.trans e1))
    rw[bZ _ _ _ _ hk]
    simp only[vh,bI,if_false]
    exact S.a1 k j h hd
   ·subst h
    rw[hdi,e1] at hd
    have hk:k=kd:=Key.toNat_inj (by simpa using hd.symm)
    subst hk
    rw[gTSm]
    simp[vh]
 ·intro k sE
  rcases yC with⟨e1,e2⟩|⟨kd,e1,e2,_⟩
  ·rw[e2]
   exact S.a2 k fun j hj=>sE j ((IJ j).2 (.inl hj))
  ·rw[e2]
   simp only[bp]
   have hk:k≠kd:=by
    intro e;subst e
    exact sE i ((IJ i).2 (.inr rfl)) (hdi.trans e1)
   rw[bZ _ _ _ _ hk]
   exact S.a2 k fun j hj=>sE j ((IJ j).2 (.inl hj))
 ·intro k j b hj hjd hjv
  rw[mI]
  rcases (UM j).1 hj with h|h
  ·have bI:j≠i:=by intro e;subst e;rw[hDi] at h;cases h
   by_cases e:o.dst=some k.toNat
   ·exact absurd (S.Lg.K3 (hdi.trans e) hjd).symm bI
   ·rw[if_neg e]
    exact S.c1 k j b h hjd (by simpa[vh,bI] using hjv)
  ·subst h
   rw[hdi] at hjd
   rw[if_pos hjd]
   have hjv:b=a:=by simpa[vh] using hjv.symm
   subst hjv
   exact⟨v,rfl,hv⟩
 ·intro k b sE ha
  rw[mI]
  have hni:o.dst≠some k.toNat:=by
   intro e
   exact sE i ((UM i).2 (.inr rfl)) (hdi.trans e)
  rw[if_neg hni]
  exact S.c2 k b (fun j hj=>sE j ((UM j).2 (.inl hj))) ha
 ·intro j hj hjD
  have hjD:(g.D j||j==i)=false:=hjD
  rw[Bool.or_eq_false_iff] at hjD
  have bI:j≠i:=by simpa using hjD.2
  have hjL:=((IJ j).1 hj).resolve_right bI
  exact(S.pd j hjL hjD.1).nN (hnb j hjL) bI (fun _ h=>h) (fun _ h=>.inl h)
 ·intro x hx
  obtain⟨p1,p2,p3,p4,p5⟩:=S.pe x hx
  have bI:x.1≠i:=by intro e;rw[e,hL] at p1;cases p1
  refine⟨(IJ _).2 (.inl p1),fun h=>p2 (((UM _).1 h).resolve_right bI),fun h=>p3 ?_,p4,p5⟩
  have h:(g.D x.1||x.1==i)=false:=h
  rw[Bool.or_eq_false_iff] at h
  exact h.1
theorem fc.Lx(S:fc P ρ orc nt ops pl bf μ G H nx g zG aj tm tmps (i ::rest))(hL:hasB g.L i=false)(hb:∀ j,j<ops.size→hasB (eu bf i) j=true→hasB g.L j=true){o:Oper}(ho:ops[i]?=some o) :
  ∀ (k:Key) a,k.toNat∈jz ops o→aa k tm=some a→∃ v,tmps[k.toNat]?=some v∧aC ρ μ a v:=
 S.GQ (S.aug S.ready.1 hL hb) ho
theorem E7:∀ {p:List (Nat×Key×ah)} {h:T ah},HSub h G→(∀ x∈p,G x.2.1=some x.2.2)→HSub (cK p h) G
 | [],h,hs,_=>hs
 |x ::p,h,hs,hp=>by
  refine E7 (p:=p) ?_ (fun y hy=>hp y (by simp[hy]))
  intro b B hb
  by_cases e:b=x.2.1
  ·subst e;rw[gTSm] at hb;cases hb;exact hp x (by simp)
  ·rw[bZ _ _ _ _ e] at hb;exact hs b B hb
theorem v5:∀ {p:List (Nat×Key×ah)} {h:T ah} {b:Key},aa b h=none→(∀ x∈p,x.2.1.toNat≠b.toNat)→aa b (cK p h)=none
 | [],h,b,hb,_=>hb
 |x ::p,h,b,hb,hp=>by
  refine v5 (p:=p) ?_ (fun y hy=>hp y (by simp[hy]))
  rw[bZ _ _ _ _ (fun e=>hp x (by simp) (by rw[e]))]
  exact hb
end
end Go.Sx
