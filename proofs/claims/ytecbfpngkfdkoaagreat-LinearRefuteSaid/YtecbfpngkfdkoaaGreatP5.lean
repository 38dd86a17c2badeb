/- A part of the proof. No condition. -/
import Derived.Test.YtecbfpngkfdkoaaGreatP4
import Derived.Orders
import Derived.Recover
set_option linter.unusedSimpArgs false
set_option linter.unusedVariables false
set_option linter.unusedSectionVars false
namespace Go.Sx
open Go.RowKit
def Lu(ops:Array Oper):(Nat→Bool)→List Nat→Prop
 |D,[]=>∀ i,i<ops.size→D i=true
 |D,i ::r=>i<ops.size∧D i=false∧(∀ o,ops[i]?=some o→∀ e∈o.after.toList,Region.binds .any e=true→D e.on=true)∧Lu ops (fun j=>D j||j==i) r
theorem Lu.congr{ops:Array Oper}:∀ {l:List Nat} {D D':Nat→Bool},(∀ i,i<ops.size→D i=D' i)→(∀ (i:Nat) (o:Oper),ops[i]?=some o→∀ e∈o.after.toList,Region.binds .any e=true→e.on<ops.size)→Lu ops D l→Lu ops D' l
 | [],D,D',h,_,hv=>fun i hi=>by rw[← h i hi];exact hv i hi
 |i ::r,D,D',h,he,hv=>by
  obtain⟨h1,h2,h3,h4⟩:=hv
  refine⟨h1,by rw[← h i h1];exact h2,fun o ho e hm hb=>?_,Lu.congr (fun j hj=>by rw[h j hj]) he h4⟩
  rw[← h e.on (he i o ho e hm hb)];exact h3 o ho e hm hb
def Iw(ops:Array Oper):Prop:=∀ (i:Nat) (o:Oper),ops[i]?=some o→∀ e∈o.after.toList,Region.binds .any e=true→e.on<i
def unl(n:Nat)(listed:Array Bool):Nat:=(List.range n).countP fun i=>!listed.getD i true
theorem aqc{n:Nat}{listed:Array Bool}(hs:listed.size=n){i:Nat}(hi:i<n)(hf:listed.getD i true=false):unl n listed=unl n (listed.setIfInBounds i true)+1:=by
 unfold unl
 have key:∀ (l:List Nat),l.Nodup→(∀ j∈l,j<n)→l.countP (fun j=>!listed.getD j true)=l.countP (fun j=>!(listed.setIfInBounds i true).getD j true)+(if i∈l then 1 else 0):=by
  intro l
  induction l with
  |nil=>intro _ _;simp
  |cons x l ih=>
   intro QQ bO
   have aGb:=List.nodup_cons.1 QQ
   rw[List.countP_cons,List.countP_cons,ih aGb.2 (fun j hj=>bO j (by simp[hj]))]
   by_cases hx:x=i
   ·subst hx
    have h1:(listed.setIfInBounds x true).getD x true=true:=by
     simp[Array.getD,hs,hi]
    simp only[hf,h1,aGb.1,if_false,Ga,true_or,if_true]
    simp
   ·have h1:(listed.setIfInBounds i true).getD x true=listed.getD x true:=by
     simp only[Array.getD_eq_getD_getElem?]
     rw[zqn (fun e=>hx e.symm)]
    have h2:(i∈x ::l)↔i∈l:=by simp[Ne.symm hx]
    simp only[h1,h2]
    omega
 rw[key _ List.nodup_range (fun j hj=>by simpa using hj),if_pos (by simpa using hi)]
theorem ayd{n:Nat}{listed:Array Bool}(h:0<unl n listed):∃ i,i<n∧listed.getD i true=false∧∀ j,j<i→listed.getD j true=true:=by
 unfold unl at h
 rw[List.countP_pos_iff] at h
 obtain⟨a,ha,hb⟩:=h
 have ha:a<n:=by simpa using ha
 have hb:listed.getD a true=false:=by simpa using hb
 induction a using Nat.strongRecOn with
 |_ a ih=>
  by_cases oV:∀ j,j<a→listed.getD j true=true
  ·exact⟨a,ha,hb,oV⟩
  ·simp only[Classical.not_forall] at oV
   obtain⟨j,hj,hjf⟩:=oV
   exact ih j hj (by simpa using Nat.lt_trans hj ha) (by simpa using hjf) (Nat.lt_trans hj ha) (by simpa using hjf)
theorem Ik{ops:Array Oper}(hd:Iw ops):∀ (fuel t:Nat) (listed:Array Bool) (acc:List Nat),listed.size=ops.size→unl ops.size listed=fuel→
  ∃ r,Region.linearise.go .any ops fuel t listed acc=acc.reverse++r∧Lu ops (fun i=>listed.getD i true) r
 |0,t,listed,acc,hs,hu=>by
  refine⟨[],by simp[Region.linearise.go],fun i hi=>?_⟩
  show listed.getD i true=true
  cases h:listed.getD i true with
  |true=>rfl
  |false=>have:=aqc hs hi h;omega
 |fuel+1,t,listed,acc,hs,hu=>by
  obtain⟨i0,hi0,hf0,aMB⟩:=ayd (n:=ops.size) (listed:=listed) (by omega)
  simp only[Region.linearise.go]
  generalize hrs:(List.range ops.size).filter (fun i=>!listed.getD i true&&((ops[i]?).map (·.after.all fun e=>!Region.binds .any e||listed.getD e.on false)).getD false)=rs
  have ej:∀ i,i∈rs↔i<ops.size∧listed.getD i true=false∧∀ o,ops[i]?=some o→∀ e∈o.after.toList,Region.binds .any e=true→listed.getD e.on false=true:=by
   intro i
   rw[← hrs,List.mem_filter]
   constructor
   ·rintro⟨h1,h2⟩
    have hi:i<ops.size:=by simpa using h1
    simp only[jj,Bool.not_eq_true'] at h2
    refine⟨hi,h2.1,fun o ho e he hb=>?_⟩
    have h3:=h2.2
    rw[ho] at h3
    simp only[Option.map_some,Option.getD_some,Array.all_eq_true_iff_forall_mem] at h3
    have:=h3 e (by simpa using he)
    simpa[hb] using this
   ·rintro⟨hi,h1,h2⟩
    refine⟨by simpa using hi,?_⟩
    simp only[jj,Bool.not_eq_true']
    refine⟨h1,?_⟩
    have ho:ops[i]?=some ops[i]:=by simp[hi]
    rw[ho]
    simp only[Option.map_some,Option.getD_some,Array.all_eq_true_iff_forall_mem]
    intro e he
    cases hb:Region.binds .any e with
    |false=>rfl
    |true=>simpa using h2 _ ho e (by simpa using he) hb
  have bU:i0∈rs:=by
   rw[ej]
   refine⟨hi0,hf0,fun o ho e he hb=>?_⟩
   have bO:=hd i0 o ho e he hb
   have h1:=aMB e.on bO
   have:e.on<listed.size:=by omega
   simp only[Array.getD_eq_getD_getElem?,this,getElem?_pos,Option.getD_some] at h1 ⊢
   exact h1
  have hlen:0<rs.length:=List.length_pos_of_mem bU
  have bO:t%rs.length<rs.length:=Nat.mod_lt _ hlen
  have nv:rs[t%rs.length]?=some rs[t%rs.length]:=by simp[bO]
  rw[nv]
  have x4:rs[t%rs.length]∈rs:=Dn bO
  generalize rs[t%rs.length]=i at x4
  obtain⟨hi,hf,aMC⟩:=(ej i).1 x4
  have hun:=aqc hs hi hf
  obtain⟨r,hr,hv⟩:=Ik hd fuel (t / rs.length) (listed.setIfInBounds i true) (i ::acc) (by simp[hs]) (by omega)
  refine⟨i ::r,?_,hi,hf,fun o ho e he hb=>?_,?_⟩
  ·show Region.linearise.go _ _ _ _ _ _=_
   rw[hr];simp
  ·have h1:=aMC o ho e he hb
   have bO:=hd i o ho e he hb
   have:e.on<listed.size:=by omega
   simp only[Array.getD_eq_getD_getElem?,this,getElem?_pos,Option.getD_some] at h1 ⊢
   exact h1
  ·refine Lu.congr ?_ (fun j o ho e he hb=>?_) hv
   ·intro j hj
    by_cases uA:j=i
    ·subst uA
     have:j<listed.size:=by omega
     simp[Array.getD,this]
    ·simp only[Array.getD_eq_getD_getElem?]
     rw[zqn (fun e=>uA e.symm)]
     simp[uA]
   ·have h1:=hd j o ho e he hb
    have:j<ops.size:=by
     rcases Dr j ops.size with h'|h'
     ·exact h'
     ·rw[Uv h'] at ho;cases ho
    omega
theorem Pc{ops:Array Oper}(hd:Iw ops)(t:Nat):Lu ops (fun _=>false) (Region.schedule true ops t):=by
 have hu:unl ops.size (Array.replicate ops.size false)=ops.size:=by
  unfold unl
  rw[List.countP_eq_length.2 (fun a ha=>by
   have:a<ops.size:=by simpa using ha
   simp[Array.getD,this])]
  simp
 obtain⟨r,hr,hv⟩:=Ik hd ops.size t (Array.replicate ops.size false) [] (by simp) hu
 have:Region.schedule true ops t=r:=by simp[Region.schedule,Region.linearise,hr]
 rw[this]
 refine Lu.congr (fun i hi=>by simp[Array.getD,hi]) (fun j o ho e he hb=>?_) hv
 have h1:=hd j o ho e he hb
 have:j<ops.size:=by
  rcases Dr j ops.size with h'|h'
  ·exact h'
  ·rw[Uv h'] at ho;cases ho
 omega
end Go.Sx
/-
 SX: the model's own steps, one by one, for a single goroutine. No condition.
-/
namespace Go.Sx
open Go.RowKit
section
variable{P:Program}{fr:Frame}{cs:List Frame}{w w':World}{k:List Item}
def G1(fr:Frame)(cs:List Frame):Goroutine:={frame:=fr,callers:=cs,status:=.running,dying:=none}
theorem aq2(hm:fr.mode=.run):stepG P true (G1 fr cs) w=stepG.exec P true true fr cs none w:=by
 simp[stepG,G1,hm]
theorem Tx(hm:fr.mode≠.run):stepG P true (G1 fr cs) w=unwind P true fr cs none w:=by
 cases h:fr.mode with
 |run=>exact absurd h hm
 |returning=>simp[stepG,G1,h]
 |panicking c=>simp[stepG,G1,h]
theorem dD{eY:Frame}{zk:List Frame}(hm:fr.mode=.run)(h:(stepG.exec P true true fr cs none w).bare=.go (G1 eY zk) w'):step P (lone fr cs w)=.next (lone eY zk w'):=
 step_lone_go (by have:=aq2 (P:=P) (cs:=cs) (w:=w) hm;simp only[G1] at this h;rw[this];exact h)
theorem Jk{eY:Frame}{zk:List Frame}(hm:fr.mode≠.run)(h:(unwind P true fr cs none w).bare=.go (G1 eY zk) w'):step P (lone fr cs w)=.next (lone eY zk w'):=
 step_lone_go (by have:=Tx (P:=P) (cs:=cs) (w:=w) hm;simp only[G1] at this h;rw[this];exact h)
theorem axv(hm:fr.mode=.run)(ht:fr.todo=.code .skip ::k):step P (lone fr cs w)=.next (lone {fr with todo:=k} cs w):=
 dD hm (by simp[stepG.exec,ht,G1])
theorem aBB{a b:Code}(hm:fr.mode=.run)(ht:fr.todo=.code (.seq a b) ::k):step P (lone fr cs w)=.next (lone {fr with todo:=.code a ::.code b ::k} cs w):=
 dD hm (by simp[stepG.exec,ht,G1])
theorem anV{c:Operand}{a b:Code}{t:Bool}(hm:fr.mode=.run)(ht:fr.todo=.code (.cond c a b) ::k)(hc:fr.eval c=.bool t) :
  step P (lone fr cs w)=.next (lone {fr with todo:=.code (if t then a else b) ::k} cs w):=
 dD hm (by simp[stepG.exec,ht,G1,hc])
theorem atK{id:Nat}{c:Code}(hm:fr.mode=.run)(ht:fr.todo=.code (.block id c) ::k):step P (lone fr cs w)=.next (lone {fr with todo:=.code c ::.inBlock id ::k} cs w):=
 dD hm (by simp[stepG.exec,ht,G1])
theorem akB{id:Nat}(hm:fr.mode=.run)(ht:fr.todo=.inBlock id ::k):step P (lone fr cs w)=.next (lone {fr with todo:=k} cs w):=
 dD hm (by simp[stepG.exec,ht,G1])
theorem atL{c:Code}(hm:fr.mode=.run)(ht:fr.todo=.code (.scope c) ::k):step P (lone fr cs w)=.next (lone {fr with todo:=.code c ::.inScope c ::k} cs w):=
 dD hm (by simp[stepG.exec,ht,G1])
theorem atM{i:Nat}(hm:fr.mode=.run)(ht:fr.todo=.code (.label i) ::k):step P (lone fr cs w)=.next (lone {fr with todo:=k} cs w):=
 dD hm (by simp[stepG.exec,ht,G1])
theorem akC{c:Code}(hm:fr.mode=.run)(ht:fr.todo=.inScope c ::k):step P (lone fr cs w)=.next (lone {fr with todo:=k} cs w):=
 dD hm (by simp[stepG.exec,ht,G1])
theorem Ty{c:Code}(hm:fr.mode=.run)(ht:fr.todo=.code (.loop c) ::k):step P (lone fr cs w)=.next (lone {fr with todo:=.code c ::.inLoop c ::k} cs w):=
 dD hm (by simp[stepG.exec,ht,G1])
theorem aqL{c:Code}(hm:fr.mode=.run)(ht:fr.todo=.inLoop c ::k):step P (lone fr cs w)=.next (lone {fr with todo:=.code c ::.inLoop c ::k} cs w):=
 dD hm (by simp[stepG.exec,ht,G1])
theorem axw{id:Nat}{k':List Item}(hm:fr.mode=.run)(ht:fr.todo=.code (.exit id) ::k)(he:exitTo id k=some k'):step P (lone fr cs w)=.next (lone {fr with todo:=k'} cs w):=
 dD hm (by simp[stepG.exec,ht,G1,he])
theorem aq3{id:Nat}{ops:Array Oper}(hm:fr.mode=.run)(ht:fr.todo=.code (.region id ops false) ::k) :
  step P (lone fr cs w)=.next (lone {fr with todo:=.inRegion ops (List.range ops.size) ::k} cs w):=
 dD hm (by simp[stepG.exec,ht,G1])
theorem axx{id:Nat}{ops:Array Oper}(hm:fr.mode=.run)(ht:fr.todo=.code (.region id ops true) ::k) :
  ∃ t,step P (lone fr cs w)=.next (lone {fr with todo:=.inRegion ops (Region.schedule (P.follows .mixedOrders) ops t) ::k} cs {w with drawn:=w.drawn+1}):=
 ⟨w.tape w.drawn (.order fr.fn id),dD hm (by simp[stepG.exec,ht,G1,choose,Sem.run,Question.forced,Question.cut])⟩
theorem Ep{ops:Array Oper}(hm:fr.mode=.run)(ht:fr.todo=.inRegion ops [] ::k):step P (lone fr cs w)=.next (lone {fr with todo:=k} cs w):=
 dD hm (by simp[stepG.exec,ht,G1])
theorem aBC(hm:fr.mode=.run)(ht:fr.todo=[])(hr:fr.roundOf=none):step P (lone fr cs w)=.next (lone {fr with mode:=.returning} cs w):=
 dD hm (by simp[stepG.exec,ht,G1,hr])
theorem aBD(hm:fr.mode=.run)(ht:fr.todo=.code .ret ::k)(hr:fr.roundOf=none):step P (lone fr cs w)=.next (lone {fr with mode:=.returning} cs w):=
 dD hm (by simp[stepG.exec,ht,G1,hr])
variable{ops:Array Oper}{i:Nat}{rest:List Nat}{o:Oper}
theorem FG(hm:fr.mode=.run)(ht:fr.todo=.inRegion ops (i ::rest) ::k)(ho:ops[i]?=some o)(hw:Region.wanted o (yielded ops fr.tmps)=false) :
  step P (lone fr cs w)=.next (lone (fr.finish undef) cs w):=
 dD hm (by simp[stepG.exec,ht,G1,ho,hw])
def ek:Op→Bool
 |.defer _=>true
 |_=>false
theorem wy(ht:fr.todo=.inRegion ops (i ::rest) ::k)(ho:ops[i]?=some o)(hw:Region.wanted o (yielded ops fr.tmps)=true)(hd:fr.roundOf=none∨ek o.op=false) :
  stepG.exec P true true fr cs none w=stepG.apply P true fr cs none (Go.execOp fr.eval o) w:=by
 simp only[stepG.exec,ht,ho,Option.map_some,Option.getD_some,hw,if_true,stepG.oper,Frame.oper?]
 cases hr:fr.roundOf with
 |none=>rfl
 |some l=>
  rw[hr] at hd
  have hd:ek o.op=false:=hd.resolve_left (by simp)
  cases kb:o.op<;>first|rfl|(rw[kb] at hd;cases hd)
theorem Me{v:Value}(hm:fr.mode=.run)(ht:fr.todo=.inRegion ops (i ::rest) ::k)(ho:ops[i]?=some o)(hw:Region.wanted o (yielded ops fr.tmps)=true)(hd:fr.roundOf=none∨ek o.op=false)
  (h:(Go.execOp fr.eval o).run P w=.ok (.value v) w'):step P (lone fr cs w)=.next (lone (fr.finish v) cs w'):=
 dD hm (by rw[wy ht ho hw hd];simp[stepG.apply,h,G1])
theorem anW(hm:fr.mode=.run)(ht:fr.todo=.inRegion ops (i ::rest) ::k)(ho:ops[i]?=some o)(hw:Region.wanted o (yielded ops fr.tmps)=true)(hd:fr.roundOf=none∨ek o.op=false)
  (h:(Go.execOp fr.eval o).run P w=.ok .skip w'):step P (lone fr cs w)=.next (lone (fr.finish undef) cs w'):=
 dD hm (by rw[wy ht ho hw hd];simp[stepG.apply,h,G1])
theorem ar5{f:FuncId}{args:Array Value}(hm:fr.mode=.run)(ht:fr.todo=.inRegion ops (i ::rest) ::k)(ho:ops[i]?=some o)(hw:Region.wanted o (yielded ops fr.tmps)=true)(hd:fr.roundOf=none∨ek o.op=false)
  (h:(Go.execOp fr.eval o).run P w=.ok (.enter f args) w'):step P (lone fr cs w)=.next (lone (Frame.enter P f args .normal) (fr ::cs) w'):=
 dD hm (by rw[wy ht ho hw hd];simp[stepG.apply,h,G1,ht])
theorem ar7{l:Nat}{f:FuncId}{tmps:Array Value}{as bd:Code}(hm:fr.mode=.run)(ht:fr.todo=.inRegion ops (i ::rest) ::k)(ho:ops[i]?=some o)(hw:Region.wanted o (yielded ops fr.tmps)=true)(hd:fr.roundOf=none∨ek o.op=false)
  (h:(Go.execOp fr.eval o).run P w=.ok (.round l f tmps as bd) w'):step P (lone fr cs w)=.next (lone (Frame.round l f tmps as bd .normal) (fr ::cs) w'):=
 dD hm (by rw[wy ht ho hw hd];simp[stepG.apply,h,G1])
theorem ar9{v:Value}(hm:fr.mode=.run)(ht:fr.todo=.inRegion ops (i ::rest) ::k)(ho:ops[i]?=some o)(hw:Region.wanted o (yielded ops fr.tmps)=true)(hd:fr.roundOf=none∨ek o.op=false)
  (h:(Go.execOp fr.eval o).run P w=.halt (.panic v) w'):step P (lone fr cs w)=.next (lone {fr with mode:=.panicking [{v,recovered:=false}]} cs w'):=
 dD hm (by rw[wy ht ho hw hd];simp[stepG.apply,h,G1,Frame.raise,hm])
theorem asa{d:Deferred}(hm:fr.mode=.run)(ht:fr.todo=.inRegion ops (i ::rest) ::k)(ho:ops[i]?=some o)(hw:Region.wanted o (yielded ops fr.tmps)=true)(hd:fr.roundOf=none∨ek o.op=false)
  (h:(Go.execOp fr.eval o).run P w=.ok (.defer d) w'):step P (lone fr cs w)=.next (lone ({fr with defers:=d ::fr.defers}.finish undef) cs w'):=
 dD hm (by rw[wy ht ho hw hd];simp[stepG.apply,h,G1])
theorem KL{v:Value}{zk:List Frame}(hm:fr.mode=.run)(ht:fr.todo=.inRegion ops (i ::rest) ::k)(ho:ops[i]?=some o)(hw:Region.wanted o (yielded ops fr.tmps)=true)(hr:fr.roundOf=none)
  (h:(Go.execOp fr.eval o).run P w=.ok .recover w') (aj2:tryRecover fr cs=some (v,zk)):step P (lone fr cs w)=.next (lone (fr.finish v) zk w'):=
 dD hm (by rw[wy ht ho hw (.inl hr)];simp[stepG.apply,h,G1,hr,aj2])
theorem KM(hm:fr.mode=.run)(ht:fr.todo=.inRegion ops (i ::rest) ::k)(ho:ops[i]?=some o)(hw:Region.wanted o (yielded ops fr.tmps)=true)(hr:fr.roundOf=none)
  (h:(Go.execOp fr.eval o).run P w=.ok .recover w') (aj2:tryRecover fr cs=none):step P (lone fr cs w)=.next (lone (fr.finish .nilIface) cs w'):=
 dD hm (by rw[wy ht ho hw (.inl hr)];simp[stepG.apply,h,G1,hr,aj2])
end
end Go.Sx
/-
 SX: the model's own steps: returns, panics, deferred calls, range over functions. No condition.
-/
namespace Go.Sx
open Go.RowKit
section
variable{P:Program}{fr c:Frame}{cs:List Frame}{w w':World}{k:List Item}{fn:Func}
theorem aqM{v:Value}(hm:fr.mode=.returning)(hd:fr.defers=[])(hk:fr.kind=.normal)(hf:P.funcs[fr.fn]?=some fn)(hr:(results fn fr.tmps).run P w=.ok v w) :
  step P (lone fr (c ::cs) w)=.next (lone (c.finish v) cs w):=
 Jk (by simp[hm]) (by simp[unwind,hd,hm,hf,hr,doReturn,hk,G1])
theorem FA{v:Value}(hm:fr.mode=.returning)(hd:fr.defers=[])(hk:fr.kind=.deferred)(hf:P.funcs[fr.fn]?=some fn)(hr:(results fn fr.tmps).run P w=.ok v w) :
  step P (lone fr (c ::cs) w)=.next (lone {c with mode:=settle c.mode} cs w):=
 step_going_returned (fr:=fr) hk ⟨hm,hd,fn,hf,hr⟩
theorem Vt{chain:List PanicEntry}(hm:fr.mode=.panicking chain)(hd:fr.defers=[])(hf:P.funcs[fr.fn]?=some fn) :
  step P (lone fr (c ::cs) w)=.next (lone (c.raise chain) cs w):=
 Jk (by simp[hm]) (by simp[unwind,hd,hm,Frame.catches,hf,G1])
theorem Vs{d:Deferred}{ds:List Deferred}{fv:Fn}{cap args:Array Value}{f:FuncId}(hm:fr.mode≠.run)(hd:fr.defers=d ::ds)(ht:d.target=.fn fv cap)
  (hi:(invoke d.target d.args).run P w=.ok (.enter f args) w):step P (lone fr cs w)=.next (lone (Frame.enter P f args .deferred) ({fr with defers:=ds} ::cs) w):=
 step_defer hm hd ht hi
theorem Tf{b:Nat}{ds Io:List Deferred}(hm:fr.mode≠.run)(hd:fr.defers=⟨.collected b,#[]⟩ ::ds)(h:(Instr.takeDeferred b).run P w=.ok Io w') :
  step P (lone fr cs w)=.next (lone {fr with defers:=Io++ds} cs w'):=
 Jk hm (by simp[unwind,hd,h,G1])
theorem N9{l:Nat}{v:Value}(hm:fr.mode=.run)(ht:fr.todo=[])(hr:fr.roundOf=some l)(hk:fr.kind=.normal)(h:(Instr.endRound l none).run P w=.ok v w') :
  step P (lone fr (c ::cs) w)=.next (lone (c.finish v) cs w'):=
 dD hm (by simp[stepG.exec,ht,hr,h,doReturn,hk,G1])
theorem TH{l:Nat}{v:Value}(hm:fr.mode=.run)(ht:fr.todo=.code .ret ::k)(hr:fr.roundOf=some l)(hk:fr.kind=.normal)(h:(Instr.endRound l (some .ret)).run P w=.ok v w') :
  step P (lone fr (c ::cs) w)=.next (lone (c.finish v) cs w'):=
 dD hm (by simp[stepG.exec,ht,hr,h,doReturn,hk,G1])
theorem Qb{l id:Nat}{v:Value}(hm:fr.mode=.run)(ht:fr.todo=.code (.exit id) ::k)(he:exitTo id k=none)(hr:fr.roundOf=some l)(hk:fr.kind=.normal)(h:(Instr.endRound l (some (.exit id))).run P w=.ok v w') :
  step P (lone fr (c ::cs) w)=.next (lone (c.finish v) cs w'):=
 dD hm (by simp[stepG.exec,ht,he,hr,h,doReturn,hk,G1])
theorem PV{l:Nat}(hm:fr.mode=.run)(ht:fr.todo=.beginRound ::k)(hr:fr.roundOf=some l)(h:(Instr.beginRound l).run P w=.ok () w') :
  step P (lone fr cs w)=.next (lone {fr with todo:=k} cs w'):=
 dD hm (by simp[stepG.exec,ht,hr,stepG.apply,h,G1,Frame.finish])
theorem ate{l:Nat}{j:Option Code}(hm:fr.mode=.run)(ht:fr.todo=.endRangeFunc l ::k)(h:(Instr.endLoop l).run P w=.ok j w') :
  step P (lone fr cs w)=.next (lone {fr with todo:=(j.map Item.code).toList++k} cs w'):=
 dD hm (by simp[stepG.exec,ht,h,G1])
theorem axK (ev : Operand → Value) {f : Operand} {g : FuncId} {first cap : Array Value} (hev : ev f = .func (.func g) first cap) {y : Value} (hy : ev (.const y) = y) {fn' : Func} (hf : P.funcs[g]? = some fn') (hb : fn'.body.isSome = true) (hn : fn'.name ≠ "runtime.NumGoroutine") :
  (do let d ← resolve ev {callee:=.value f,args:=#[.const y],argTypes:=#[]} 0;invoke d.target d.args:Sem Next).run P w=.ok (.enter g (first ++ #[y]++cap)) w:=by
 simp[resolve,hev,Deferred.ofValue,invoke,hy,tS hf hb hn]
theorem TJ{f:Operand}{params:Array Tmp}{as bd:Code}{l:Nat}{mk:List Deferred}{w1:World}{g:FuncId}{first cap:Array Value}{fn':Func}(hm:fr.mode=.run)(ht:fr.todo=.code (.rangeFunc f params as bd) ::k)(hr:fr.roundOf=none)
  (h:(Instr.enterLoop fr.fn fr.tmps params as bd none).run P w=.ok (l,mk) w1) (hev:fr.eval f=.func (.func g) first cap)
  (hf : P.funcs[g]? = some fn') (hb : fn'.body.isSome = true) (hn : fn'.name ≠ "runtime.NumGoroutine") :
  step P (lone fr cs w)=.next (lone (Frame.enter P g (first ++ #[.func (.yield l) #[] #[]]++cap) .normal) ({fr with todo:=.inRangeFunc l ::k,defers:=mk++fr.defers} ::cs) w1):=by
 obtain⟨fn0,azf,aPo,apS,aPp,azg,aLx⟩:=fr
 simp only at hm ht hr h hev
 subst hm ht hr
 refine dD rfl ?_
 have aLy:({fn:=fn0,tmps:=azf,todo:=Item.inRangeFunc l ::k,defers:=mk++apS,mode:=.run,kind:=azg}:Frame).eval f=.func (.func g) first cap:=by
  rw[← hev];cases f<;>rfl
 have KH:=axK (w:=w1) ({fn:=fn0,tmps:=azf,todo:=Item.inRangeFunc l ::k,defers:=mk++apS,mode:=.run,kind:=azg}:Frame).eval aLy (y:=.func (.yield l) #[] #[]) rfl hf hb hn
 simp only[stepG.exec,Sem.runT_eq,h,GStep.bare_after]
 simp only[stepG.apply,Sem.runT_eq,KH,GStep.bare_after]
 simp[G1]
end
end Go.Sx
/-
 SX: a region that draws its order: what is known while it is under way. No condition.
-/
namespace Go.Sx
open Go.RowKit
structure QV(P:Program)(nt:Nat)(ops:Array Oper)(pl:List J)(bf:List Nat):Prop where
 rK:lP P nt ops (List.range ops.size)=some pl
 ays:LH ops bf=true
 aDM:RX ops bf=true
section
variable{P:Program}{ρ:Nat→Int}{nt:Nat}{ops:Array Oper}{pl:List J}{bf:List Nat}
theorem Fg:∀ {l:List Nat} {pl:List J},lP P nt ops l=some pl→pl.length=l.length∧∀ (q i:Nat),l[q]?=some i→∃ o po,ops[i]?=some o∧JC P nt ops o=some po∧pl[q]?=some po
 | [],pl,h=>by simp only[lP,cT] at h;subst h;exact⟨rfl,fun q i hq=>by simp at hq⟩
 |j ::l,pl,h=>by
  simp only[lP] at h
  split at h
  ·cases h
  ·rename_i o ho
   split at h
   ·rename_i a r h1 h2
    cases h
    obtain⟨e1,e2⟩:=Fg h2
    refine⟨by simp[e1],fun q i hq=>?_⟩
    cases q with
    |zero=>simp at hq;subst hq;exact⟨o,a,ho,h1,by simp⟩
    |succ q=>simpa using e2 q i (by simpa using hq)
   ·cases h
theorem QV.at(R:QV P nt ops pl bf){i:Nat}(hi:i<ops.size):∃ o po,ops[i]?=some o∧JC P nt ops o=some po∧pl[i]?=some po:=by
 obtain⟨_,h⟩:=Fg R.rK
 exact h i i (by simp[hi])
theorem QV.JF(R:QV P nt ops pl bf){i:Nat}{po:J}(h:pl[i]?=some po):i<ops.size:=by
 obtain⟨h1,_⟩:=Fg R.rK
 rcases Dr i ops.size with h'|h'
 ·exact h'
 ·rw[zqo (by rw[h1];simpa using h')] at h;cases h
theorem QV.aDN(R:QV P nt ops pl bf){i:Nat}{o:Oper}(ho:ops[i]?=some o){e:Edge}(he:e∈o.after.toList)(hb:Region.binds .any e=true):e.on<i∧hasB (fc bf i) e.on=true:=by
 have hi:i<ops.size:=by
  rcases Dr i ops.size with h'|h'
  ·exact h'
  ·rw[Uv h'] at ho;cases ho
 have h:=R.ays
 unfold LH at h
 rw[vV] at h
 have h:=h i (by simpa using hi)
 rw[ho] at h
 simp only[jj,vV] at h
 have h:=h.1 e he
 simp only[hb,Bool.not_true,Bool.false_or,jj,bltN_eq,decide_eq_true_eq] at h
 exact h
theorem QV.down(R:QV P nt ops pl bf):Iw ops:=fun _ _ ho _ he hb=>(R.aDN ho he hb).1
theorem QV.pred(R:QV P nt ops pl bf){i:Nat}{o:Oper}(ho:ops[i]?=some o){j:Nat}(hj:j<ops.size)(hb:hasB (fc bf i) j=true) :
  ∃ e∈o.after.toList,Region.binds .any e=true∧(e.on=j∨hasB (fc bf e.on) j=true):=by
 have hi:i<ops.size:=by
  rcases Dr i ops.size with h'|h'
  ·exact h'
  ·rw[Uv h'] at ho;cases ho
 have h:=R.ays
 unfold LH at h
 rw[vV] at h
 have h:=h i (by simpa using hi)
 rw[ho] at h
 simp only[jj,vV] at h
 have h:=h.2 j (by simpa using hj)
 simp only[hb,Bool.not_true,Bool.false_or,List.any_eq_true,jj,Bool.or_eq_true,beqN_eq,decide_eq_true_eq] at h
 exact h
def Ix(ops:Array Oper)(D:Nat→Bool):Prop:=∀ (i:Nat) (o:Oper),D i=true→ops[i]?=some o→∀ e∈o.after.toList,Region.binds .any e=true→D e.on=true
theorem QV.closed(R:QV P nt ops pl bf){D:Nat→Bool}(hD:Ix ops D):∀ (i:Nat) (o:Oper),ops[i]?=some o→(∀ e∈o.after.toList,Region.binds .any e=true→D e.on=true)→∀ j,j<ops.size→hasB (fc bf i) j=true→D j=true:=by
 intro i
 induction i using Nat.strongRecOn with
 |_ i ih=>
  intro o ho hp j hj hb
  obtain⟨e,he,heb,hor⟩:=R.pred ho hj hb
  have bO:=(R.aDN ho he heb).1
  have hi:i<ops.size:=by
   rcases Dr i ops.size with h'|h'
   ·exact h'
   ·rw[Uv h'] at ho;cases ho
  rcases hor with h|h
  ·rw[← h];exact hp e he heb
  ·have KN:ops[e.on]?=some ops[e.on]:=by
    have:e.on<ops.size:=by omega
    simp[this]
   exact ih e.on bO _ KN (fun e' he' fL=>hD e.on _ (hp e he heb) KN e' he' fL) j hj h
theorem QV.slot(R:QV P nt ops pl bf){i j t:Nat}{o:Oper}(ho:ops[i]?=some o)(hj:lQ ops j=some t) :
  (i=j→t∉ke ops o)∧(i≠j→o.dst≠some t∧(t∈ke ops o→hasB (fc bf i) j=true∨hasB (fc bf j) i=true)):=by
 have hi:i<ops.size:=by
  rcases Dr i ops.size with h'|h'
  ·exact h'
  ·rw[Uv h'] at ho;cases ho
 have bz:j<ops.size:=by
  rcases Dr j ops.size with h'|h'
  ·exact h'
  ·simp[lQ,Uv h'] at hj
 have h:=R.aDM
 unfold RX at h
 rw[vV] at h
 have h:=h i (by simpa using hi)
 rw[ho] at h
 simp only[vV] at h
 have h:=h j (by simpa using bz)
 rw[hj] at h
 simp only[beqN_eq] at h
 constructor
 ·rintro rfl
  simpa using h
 ·intro bU
  simp only[bU,decide_false,cond_false,jj,Bool.not_eq_true',Bool.or_eq_true] at h
  refine⟨by simpa using h.1,fun hm=>?_⟩
  have h2:=h.2
  have hc:(ke ops o).contains t=true:=by simpa using hm
  rw[hc] at h2
  simpa using h2
theorem aj4{j t:Nat}(hj:lQ ops j=some t):∃ o,ops[j]?=some o∧o.dst=some t:=by
 unfold lQ at hj
 cases h:ops[j]? with
 |none=>rw[h] at hj;cases hj
 |some o=>rw[h] at hj;exact⟨o,rfl,by simpa using hj⟩
theorem QV.LK(R:QV P nt ops pl bf){i j t:Nat}(hi:lQ ops i=some t)(hj:lQ ops j=some t):i=j:=by
 rcases Nat.decEq i j with bU|h
 ·obtain⟨o,ho,hd⟩:=aj4 hi
  exact absurd hd ((R.slot ho hj).2 bU).1
 ·exact h
end
theorem Gx(m i j:Nat):hasB (Gl m i) j=(hasB m j||decide (i=j)):=by
 unfold hasB Gl
 rw[Nat.testBit_or,Nat.testBit_two_pow]
theorem Dt(j:Nat):hasB 0 j=false:=by simp[hasB]
theorem Du{n a b:Nat}:ajT n a b=true↔∀ j,j<n→hasB a j=true→hasB b j=true:=by
 unfold ajT
 rw[vV]
 constructor
 ·intro h j hj ha
  have:=h j (by simpa using hj)
  simpa[ha] using this
 ·intro h j hj
  have hj:j<n:=by simpa using hj
  cases ha:hasB a j with
  |false=>rfl
  |true=>simpa using h j hj ha
end Go.Sx
/-
 SX: a region that draws its order: an operation that the machine has evaluated is carried out by the model. No condition.
-/
namespace Go.Sx
open Go.RowKit
theorem mO{nt i:Nat}{k:Key}(h:D0 nt i=some k):k.toNat=i∧i<nt:=by
 unfold D0 at h
 replace h:=aG h
 obtain⟨hc,h⟩:=h
 simp only[cT] at h
 subst h
 simp only[jj,bltN_eq,decide_eq_true_eq] at hc
 exact⟨mU hc.2,hc.1⟩
theorem gU{P:Program}{nt:Nat}{ops:Array Oper}{o:Oper}{po:J}(h:JC P nt ops o=some po) :
  gP P nt o=some po.op∧L8 nt ops o.guard=some po.guard∧((o.dst=none∧po.dst=none)∨∃ k,o.dst=some k.toNat∧po.dst=some k∧k.toNat<nt):=by
 unfold JC at h
 split at h
 ·rename_i op g h1 h2
  split at h
  ·rename_i hd
   cases h
   exact⟨h1,h2,.inl ⟨hd,rfl⟩⟩
  ·rename_i d hd
   split at h
   ·rename_i k hk
    cases h
    obtain⟨e,bO⟩:=mO hk
    exact⟨h1,h2,.inr ⟨k,by rw[e];exact hd,rfl,by omega⟩⟩
   ·cases h
 ·cases h
noncomputable def cM(p:List (Nat×Key×ag))(h:T ag):T ag:=p.foldl (fun h x=>au x.2.1 (some x.2.2) h) h
theorem Dd{R:Type}:∀ (p:List (Nat×Key×ag)) (h:T ag) (c:T ag→R),Ce p h c=c (cM p h)
 | [],h,c=>rfl
 |x ::p,h,c=>by
  show sY x.2.1 (some x.2.2) h (fun h=>Ce p h c)=_
  rw[sTCe,Dd p]
  rfl
theorem uX{R:Type}(l:List Nat):∀ (p:List (Nat×Key×ag)) (h:T ag) (c:List (Nat×Key×ag)→T ag→R),BK l p h c=c (p.filter fun x=>!(memN x.1 l)) (cM (p.filter fun x=>memN x.1 l) h)
 | [],h,c=>rfl
 |x ::p,h,c=>by
  show(bif memN x.1 l then sY x.2.1 (some x.2.2) h (fun h=>BK l p h c) else BK l p h fun p h=>c (x ::p) h)=_
  cases hm:memN x.1 l with
  |true=>
   simp only[cond_true,sTCe,uX l p,List.filter_cons,hm,Bool.not_true,Ps,if_false,if_true]
   rfl
  |false=>
   simp only[cond_false,uX l p,List.filter_cons,hm,Bool.not_false,Ps,if_false,if_true]
theorem H7{i:Nat}:∀ {l:List Nat},memN i l=true→i∈l
 | [],h=>by cases h
 |j ::l,h=>by
  simp only[memN] at h
  cases hb:Nat.beq i j with
  |true=>have:=mU hb;simp[this]
  |false=>rw[hb] at h;exact List.mem_cons_of_mem _ (H7 h)
theorem OM:∀ {p:List (Nat×Key×ag)} {h:T ag} {b:Key} {B:ag},aa b (cM p h)=some B→aa b h=some B∨∃ x∈p,x.2.1=b∧x.2.2=B
 | [],_,_,_,e=>.inl e
 |x ::p,h,b,B,e=>by
  rcases OM (p:=p) e with h1|⟨y,h1,h2⟩
  ·by_cases hb:b=x.2.1
   ·subst hb;rw[gTSm] at h1;cases h1;exact .inr ⟨x,by simp,rfl,rfl⟩
   ·rw[bG _ _ _ _ hb] at h1;exact .inl h1
  ·exact .inr ⟨y,List.mem_cons_of_mem _ h1,h2⟩
theorem ary{l:List Nat}{ak:List (Nat×Key×ag)}{h:T ag}{b:Key}{B:ag}(e:aa b (uC l ak h)=some B):aa b h=some B∨∃ j,(j,b,B)∈ak∧j∈l:=by
 unfold uC at e
 split at e
 ·exact .inl e
 ·rw[uX] at e
  rcases OM e with h1|⟨⟨j,k,B'⟩,h1,h2,h3⟩
  ·exact .inl h1
  ·obtain⟨h4,h5⟩:=List.mem_filter.1 h1
   simp only at h2 h3
   subst h2 h3
   exact .inr ⟨j,h4,H7 h5⟩
theorem ajv{bf:List Nat}:∀ {iK:List (Nat×List Nat)},xD bf iK=true→∀ i j,j∈BC i iK→hasB (fc bf i) j=true
 | [],_,i,j,h=>by cases h
 |(q,l) ::r,ha,i,j,h=>by
  simp only[xD,jj,vV] at ha
  simp only[BC] at h
  cases hb:Nat.beq i q with
  |true=>rw[hb] at h;have:=mU hb;subst this;exact ha.1 j h
  |false=>rw[hb] at h;exact ajv ha.2 i j h
def VOk(bf:List Nat)(H:T ag)(ak:List (Nat×Key×ag))(i:Nat)(V:T ag):Prop:=∀ b B,aa b V=some B→aa b H=some B∨∃ j,(j,b,B)∈ak∧hasB (fc bf i) j=true
theorem VOk.refl(bf:List Nat)(H:T ag)(ak:List (Nat×Key×ag))(i:Nat):VOk bf H ak i H:=fun _ _ h=>.inl h
theorem VOk.view{bf:List Nat}{iK:List (Nat×List Nat)}(ha:xD bf iK=true)(H:T ag)(ak:List (Nat×Key×ag))(i:Nat):VOk bf H ak i (uC (BC i iK) ak H):=by
 intro b B e
 rcases ary e with h|⟨j,h1,h2⟩
 ·exact .inl h
 ·exact .inr ⟨j,h1,ajv ha i j h2⟩
structure Gh where
 L:Nat
 D:Nat→Bool
 a0:Key→Option AV
 val:Nat→Option AV
section
variable(P:Program)(ρ:Nat→Int)(orc:hU)(nt:Nat)(ops:Array Oper)(pl:List J)(bf:List Nat)
def Uc(g:Gh)(i:Nat)(k:Key)(a:AV):Prop:=
 (∃ j,lQ ops j=some k.toNat∧hasB (fc bf i) j=true∧g.val j=some a)∨((∀ j,lQ ops j=some k.toNat→hasB (fc bf j) i=true)∧g.a0 k=some a)
def VB(g:Gh)(i:Nat)(lf:T AV):Prop:=∀ o,ops[i]?=some o→∀ (k:Key) a,k.toNat∈ke ops o→aa k lf=some a→Uc ops bf g i k a
inductive uU(H:T ag)(g:Gh)(ak:List (Nat×Key×ag))(Aq:Nat→Prop)(i:Nat):Prop
 |skip (po:J) (lf:T AV) (h1:pl[i]?=some po) (h2:VB ops bf g i lf) (h3:cx po.guard lf=some false) (h4:g.val i=some (.tuple [])) (h5:∀ x∈ak,x.1≠i):uU H g ak Aq i
 |light (po:J) (lf:T AV) (v:AV) (h1:pl[i]?=some po) (h2:VB ops bf g i lf) (h3:cx po.guard lf=some true) (hk:pB pl i=0) (h4:¬ Aq i→∃ V,lightOp orc po.op lf V=some v∧VOk bf H ak i V) (h5:g.val i=some v)
   (h6:∀ x∈ak,x.1≠i):uU H g ak Aq i
 |alloc (po:J) (lf:T AV) (f:Key→AV) (B:ag) (k:Key) (h1:pl[i]?=some po) (h2:VB ops bf g i lf) (h3:cx po.guard lf=some true) (hk:pB pl i=1) (h4:allocOp po.op lf=some (f,B))
   (h5:g.val i=some (f k)) (h6:(i,k,B)∈ak):uU H g ak Aq i
structure fO(μ:Mu)(G:Key→Option ag)(H:T ag)(nx:Key)(g:Gh)(Aq:Nat→Prop)(ak:List (Nat×Key×ag))(tm:T AV)(tmps:Array Value)(rest:List Nat):Prop where
 LZ:QV P nt ops pl bf
 ord:Lu ops g.D rest
 cl:Ix ops g.D
 sub:∀ i,g.D i=true→hasB g.L i=true
 FB:∀ i,hasB g.L i=true→i<ops.size
 lcl:∀ i,hasB g.L i=true→∀ j,j<ops.size→hasB (fc bf i) j=true→hasB g.L j=true
 a1:∀ (k:Key) j,hasB g.L j=true→lQ ops j=some k.toNat→aa k tm=g.val j
 a2:∀ (k:Key),(∀ j,hasB g.L j=true→lQ ops j≠some k.toNat)→aa k tm=g.a0 k
 sz:nt≤tmps.size
 c1:∀ (k:Key) j a,g.D j=true→lQ ops j=some k.toNat→g.val j=some a→∃ v,tmps[k.toNat]?=some v∧aD ρ μ a v
 c2:∀ (k:Key) a,(∀ j,g.D j=true→lQ ops j≠some k.toNat)→g.a0 k=some a→∃ v,tmps[k.toNat]?=some v∧aD ρ μ a v
 pd:∀ i,hasB g.L i=true→g.D i=false→uU orc ops pl bf H g ak Aq i
 pe:∀ x∈ak,hasB g.L x.1=true∧(g.D x.1=true→G x.2.1=some x.2.2)∧(g.D x.1=false→μ x.2.1=none∧G x.2.1=none)∧aa x.2.1 H=none∧x.2.1.toNat<nx.toNat
 nk:(ak.map (·.2.1.toNat)).Nodup
 ni:(ak.map (·.1)).Nodup
end
section
variable{P:Program}{ρ:Nat→Int}{orc:hU}{nt:Nat}{ops:Array Oper}{pl:List J}{bf:List Nat}{w0:W0}{w:World}{μ:Mu}{G:Key→Option ag}{H:T ag}{nx:Key}{g:Gh}{Aq:Nat→Prop}{ak:List (Nat×Key×ag)}{tm:T AV}{rest:List Nat}{fr:Frame}{cs:List Frame}{K:List Item}
theorem ap9(hM:aP P ρ w0 μ G nx.toNat w){x:Operand}{px:PX}{a:AV}{lf:T AV}(hp:pX P nt x=some px)(ha:px.at lf=some a)
  (ht:∀ t k,x=.tmp t→k.toNat=t→aa k lf=some a→∃ v,fr.tmps[t]?=some v∧aD ρ μ a v):aD ρ μ a (fr.eval x):=by
 cases x with
 |tmp t=>
  simp only[pX] at hp
  split at hp
  ·rename_i k hk
   cases hp
   obtain⟨v,hv,hr⟩:=ht t k rfl (mO hk).1 ha
   have:fr.eval (.tmp t)=v:=by simp[Frame.eval,Array.getD_eq_getD_getElem?,hv]
   rw[this];exact hr
  ·cases hp
 |const v=>
  simp only[pX] at hp
  split at hp
  ·rename_i b hb
   cases hp
   simp only[PX.at,cT] at ha;subst ha
   exact gw _ _ _ hb
  ·cases hp
 |global gl=>
  simp only[pX] at hp
  split at hp
  ·rename_i k hk
   cases hp
   simp only[PX.at,cT] at ha;subst ha
   obtain⟨e,bO⟩:=mO hk
   obtain⟨ext,he⟩:=hM.Nr k (by omega)
   exact .ptr _ _ _ _ he (by simp[e])
  ·cases hp
 |func f=>
  simp only[pX,cT] at hp;subst hp
  simp only[PX.at,cT] at ha;subst ha
  exact .fn _ _ _ _ _ .nil .nil
theorem Dp(hM:aP P ρ w0 μ G nx.toNat w){o:Oper}{lf:T AV}(ht:∀ (k:Key) a,k.toNat∈ke ops o→aa k lf=some a→∃ v,fr.tmps[k.toNat]?=some v∧aD ρ μ a v) :
  tM P ρ μ nt o.op.operands.toList lf fr.eval:=by
 intro x hx px a hp ha
 refine ap9 hM hp ha fun t k hxt hkt hg=>?_
 subst hxt
 rw[← hkt]
 refine ht k a ?_ hg
 unfold ke
 rw[List.mem_append,List.mem_filterMap]
 exact .inl ⟨_,hx,by rw[hkt]⟩
theorem ym{o:Oper}{gd:Option (Key×Bool)}(hg:L8 nt ops o.guard=some gd){lf:T AV}{tmps:Array Value}(ht:∀ (k:Key) a,k.toNat∈ke ops o→aa k lf=some a→∃ v,tmps[k.toNat]?=some v∧aD ρ μ a v)
  {b:Bool} (hw:cx gd lf=some b):Region.wanted o (yielded ops tmps)=b:=by
 cases Sa:o.guard with
 |none=>
  rw[Sa] at hg
  simp only[L8,cT] at hg;subst hg
  simp only[cx,cT] at hw
  simp[Region.wanted,Sa,hw]
 |some p=>
  obtain⟨j,want⟩:=p
  rw[Sa] at hg
  simp only[L8] at hg
  split at hg
  ·rename_i oj hoj
   split at hg
   ·rename_i d hd
    split at hg
    ·rename_i k hk
     cases hg
     obtain⟨e,_⟩:=mO hk
     have ej:k.toNat∈ke ops o:=by
      unfold ke
      rw[List.mem_append,Sa,e]
      right
      simp[hoj,hd]
     simp only[cx] at hw
     split at hw
     ·rename_i b' fL
      cases hw
      obtain⟨v,hv,hr⟩:=ht k _ ej fL
      cases hr
      rw[e] at hv
      simp only[Region.wanted,Sa,yielded,hoj,Option.bind_some,hd,hv]
      cases b'<;>cases want<;>rfl
     ·rename_i fL
      cases hw
      obtain⟨v,hv,hr⟩:=ht k _ ej fL
      cases hr with|tuple _ vs hvs=>
      rw[e] at hv
      simp only[Region.wanted,Sa,yielded,hoj,Option.bind_some,hd,hv]
      cases want<;>rfl
     ·cases hw
    ·cases hg
   ·cases hg
  ·cases hg
end
end Go.Sx
/-
 SX: a region that draws its order: an operation that the machine has evaluated is carried out by the model. No condition.
-/
namespace Go.Sx
open Go.RowKit
section
variable{P:Program}{ρ:Nat→Int}{orc:hU}{nt:Nat}{ops:Array Oper}{pl:List J}{bf:List Nat}{w0:W0}{w:World}{μ μ':Mu}{G G':Key→Option ag}{H:T ag}{nx:Key}{g:Gh}{Aq:Nat→Prop}{ak:List (Nat×Key×ag)}{tm:T AV}{tmps:Array Value}{rest:List Nat}{fr:Frame}{cs:List Frame}{K:List Item}{i:Nat}
theorem fO.ready(S:fO P ρ orc nt ops pl bf μ G H nx g Aq ak tm tmps (i ::rest)) :
  i<ops.size∧g.D i=false∧(∀ j,j<ops.size→hasB (fc bf i) j=true→g.D j=true):=by
 obtain⟨h1,h2,h3,_⟩:=S.ord
 exact⟨h1,h2,fun j hj hb=>S.LZ.closed S.cl i ops[i] (by simp[h1]) (fun e he mB=>h3 _ (by simp[h1]) e he mB) j hj hb⟩
theorem I9{j t:Nat}(h:lQ ops j=some t):j<ops.size:=by
 obtain⟨o,ho,_⟩:=aj4 h
 rcases Dr j ops.size with h'|h'
 ·exact h'
 ·rw[Uv h'] at ho;cases ho
theorem fO.HK(S:fO P ρ orc nt ops pl bf μ G H nx g Aq ak tm tmps (i ::rest)){lf:T AV}(ht:VB ops bf g i lf){o:Oper}(ho:ops[i]?=some o) :
  ∀ (k:Key) a,k.toNat∈ke ops o→aa k lf=some a→∃ v,tmps[k.toNat]?=some v∧aD ρ μ a v:=by
 intro k a hk hg
 obtain⟨h1,h2,h3⟩:=S.ready
 rcases ht o ho k a hk hg with⟨j,hj,hb,hv⟩|⟨oV,ha⟩
 ·exact S.c1 k j a (h3 j (I9 hj) hb) hj hv
 ·refine S.c2 k a (fun j hD hj=>?_) ha
  have hb:=oV j hj
  obtain⟨oj,hoj,_⟩:=aj4 hj
  have:=S.LZ.closed S.cl j oj hoj (fun e he mB=>S.cl j oj hD hoj e he mB) i h1 hb
  rw[h2] at this;cases this
def DS(d:Option Nat)(v:Value)(tmps:Array Value):Array Value:=match d with
 |some d=>tmps.setIfInBounds d v
 |none=>tmps
theorem cB{o:Oper}(ht:fr.todo=.inRegion ops (i ::rest) ::K)(ho:ops[i]?=some o)(v:Value) :
  fr.finish v={fr with tmps:=DS o.dst v fr.tmps,todo:=.inRegion ops rest ::K}:=by
 simp only[Frame.finish,ht,ho,Option.bind_some,DS]
 cases o.dst<;>rfl
theorem CI{o:Oper}{op:F9}(hp:gP P nt o=some op)(hd:ek o.op=true):Gi op=true:=by
 obtain⟨dst,tZ,ty,pos,after,guard⟩:=o
 cases tZ<;>first|(cases hd;done)|skip
 rename_i c
 simp only[gP] at hp
 split at hp
 ·split at hp
  ·cases hp;rfl
  ·cases hp
 ·cases hp
theorem Rp{po:J}(h:pl[i]?=some po):pB pl i=(bif Gi po.op then 2 else bif LF po.op then 1 else 0):=by
 simp[pB,h]
theorem anK{tmps:Array Value}{d:Option Nat}{v:Value}(t:Nat)(h:∀ x,d=some x→x<tmps.size) :
  (DS d v tmps)[t]?=if d=some t then some v else tmps[t]?:=by
 cases d with
 |none=>simp[DS]
 |some x=>
  have:=h x rfl
  simp only[DS]
  by_cases e:x=t
  ·subst e;simp[this]
  ·rw[if_neg (by simpa using e),zqn e]
theorem fO.done(S:fO P ρ orc nt ops pl bf μ G H nx g Aq ak tm tmps (i ::rest))(hm:μ.le μ'){o:Oper}(ho:ops[i]?=some o){a:AV}{v:Value}(hL:hasB g.L i=true)(Ja:g.val i=some a)(hv:aD ρ μ' a v)
  (Uz:∀ x∈ak,(x.1=i→G' x.2.1=some x.2.2)∧(x.1≠i→μ' x.2.1=μ x.2.1∧G' x.2.1=G x.2.1)) :
  fO P ρ orc nt ops pl bf μ' G' H nx {g with D:=fun j=>g.D j||j==i} Aq ak tm (DS o.dst v tmps) rest:=by
 obtain⟨hi,hDi,uq⟩:=S.ready
 obtain⟨o',po,KN,R9,rK⟩:=S.LZ.at hi
 rw[ho] at KN;cases KN
 obtain⟨kb,Sa,zt⟩:=gU R9
 have aBt:∀ x,o.dst=some x→x<tmps.size:=by
  intro x hx
  rcases zt with⟨h,_⟩|⟨k,h,_,bO⟩
  ·rw[h] at hx;cases hx
  ·rw[h] at hx;cases hx;exact JJ bO S.sz
 have hdi:lQ ops i=o.dst:=by simp[lQ,ho]
 have nv:=fun t=>anK (v:=v) t aBt
 have atA:(DS o.dst v tmps).size=tmps.size:=by
  cases o.dst<;>simp[DS]
 have VC:∀ j,((g.D j||j==i)=true)↔(g.D j=true∨j=i):=by intro j;simp
 refine⟨S.LZ,S.ord.2.2.2,?_,?_,S.FB,S.lcl,S.a1,S.a2,by rw[atA];exact S.sz,?_,?_,?_,?_,S.nk,S.ni⟩
 ·intro j oj hj hoj e he hb
  rcases (VC j).1 hj with h|h
  ·exact(VC _).2 (.inl (S.cl j oj h hoj e he hb))
  ·subst h
   exact(VC _).2 (.inl (S.ord.2.2.1 oj hoj e he hb))
 ·intro j hj
  rcases (VC j).1 hj with h|h
  ·exact S.sub j h
  ·subst h;exact hL
 ·intro k j b hj hjd hjv
  rw[nv]
  rcases (VC j).1 hj with h|h
  ·by_cases e:o.dst=some k.toNat
   ·have:i=j:=S.LZ.LK (hdi.trans e) hjd
    subst this;rw[hDi] at h;cases h
   ·rw[if_neg e]
    obtain⟨u,hu,hr⟩:=S.c1 k j b h hjd hjv
    exact⟨u,hu,hr.mono hm⟩
  ·subst h
   rw[hdi] at hjd
   rw[if_pos hjd]
   have hjv:g.val j=some b:=hjv
   rw[Ja] at hjv;cases hjv
   exact⟨v,rfl,hv⟩
 ·intro k b iI ha
  rw[nv]
  have hni:o.dst≠some k.toNat:=by
   intro e
   exact iI i ((VC i).2 (.inr rfl)) (hdi.trans e)
  rw[if_neg hni]
  obtain⟨u,hu,hr⟩:=S.c2 k b (fun j hj=>iI j ((VC j).2 (.inl hj))) ha
  exact⟨u,hu,hr.mono hm⟩
 ·intro j hj hjD
  have hjD:(g.D j||j==i)=false:=hjD
  rw[Bool.or_eq_false_iff] at hjD
  cases S.pd j hj hjD.1 with
  |skip po lf h1 h2 h3 h4 h5=>exact .skip po lf h1 h2 h3 h4 h5
  |light po lf v h1 h2 h3 hk h4 h5 h6=>exact .light po lf v h1 h2 h3 hk h4 h5 h6
  |alloc po lf f B k h1 h2 h3 hk h4 h5 h6=>exact .alloc po lf f B k h1 h2 h3 hk h4 h5 h6
 ·intro x hx
  obtain⟨p1,p2,p3,p4,p5⟩:=S.pe x hx
  obtain⟨q1,q2⟩:=Uz x hx
  refine⟨p1,fun h=>?_,fun h=>?_,p4,p5⟩
  ·by_cases e:x.1=i
   ·exact q1 e
   ·rw[(q2 e).2]
    exact p2 (((VC _).1 h).resolve_right e)
  ·have h:(g.D x.1||x.1==i)=false:=h
   rw[Bool.or_eq_false_iff] at h
   have e:x.1≠i:=by simpa using h.2
   rw[(q2 e).1,(q2 e).2]
   exact p3 h.1
theorem Tm(hM:aP P ρ w0 μ G nx.toNat w)(hH:HSub H G)(ho:dq ρ orc)(S:fO P ρ orc nt ops pl bf μ G H nx g Aq ak tm fr.tmps (i ::rest))(hL:hasB g.L i=true)(hu:¬ Aq i)
  (hm:fr.mode=.run) (ht:fr.todo=.inRegion ops (i ::rest) ::K) :
  ∃ dE w' μ' G',step P (lone fr cs w)=.next (lone {fr with tmps:=dE,todo:=.inRegion ops rest ::K} cs w')∧μ.le μ'∧aP P ρ w0 μ' G' nx.toNat w'∧HSub H G'∧
   fO P ρ orc nt ops pl bf μ' G' H nx {g with D:=fun j=>g.D j||j==i} Aq ak tm dE rest∧(∀ b,(∀ x∈ak,x.2.1≠b)→μ' b=μ b∧G' b=G b):=by
 obtain⟨hi,hDi,uq⟩:=S.ready
 obtain⟨o,po,kb,R9,rK⟩:=S.LZ.at hi
 obtain⟨hp,Sa,zt⟩:=gU R9
 cases S.pd i hL hDi with
 |skip Pm lf h1 h2 h3 h4 h5=>
  rw[rK] at h1;cases h1
  have hs:=S.HK h2 kb
  have hw:=ym Sa hs h3
  have AE:=FG (P:=P) (cs:=cs) (w:=w) hm ht kb hw
  rw[cB ht kb] at AE
  refine⟨_,w,μ,G,AE,μ.le_refl,hM,hH,?_,fun b _=>⟨rfl,rfl⟩⟩
  refine S.done μ.le_refl kb hL h4 (v:=undef) (.tuple _ _ .nil) ?_
  intro x hx
  exact⟨fun e=>absurd e (h5 x hx),fun _=>⟨rfl,rfl⟩⟩
 |light Pm lf v h1 h2 h3 hk h4 h5 h6=>
  rw[rK] at h1;cases h1
  have hs:=S.HK h2 kb
  have hw:=ym Sa hs h3
  obtain⟨V,hlV,hV⟩:=h4 hu
  have hVG:HSub V G:=by
   intro b B hb
   rcases hV b B hb with h|⟨j,h1,h2⟩
   ·exact hH b B h
   ·obtain⟨p1,p2,_⟩:=S.pe _ h1
    exact p2 (uq j (S.FB j p1) h2)
  obtain⟨u,dP,hr⟩:=Kf hM hVG ho hp (Dp hM hs) hlV
  have QQ:ek o.op=false:=by
   cases hd:ek o.op with
   |false=>rfl
   |true=>rw[Rp rK,CI hp hd] at hk;cases hk
  have AE:=Me (P:=P) (cs:=cs) hm ht kb hw (.inr QQ) dP
  rw[cB ht kb] at AE
  refine⟨_,w,μ,G,AE,μ.le_refl,hM,hH,?_,fun b _=>⟨rfl,rfl⟩⟩
  refine S.done μ.le_refl kb hL h5 hr ?_
  intro x hx
  exact⟨fun e=>absurd e (h6 x hx),fun _=>⟨rfl,rfl⟩⟩
 |alloc Pm lf f B k h1 h2 h3 hk h4 h5 h6=>
  rw[rK] at h1;cases h1
  have hs:=S.HK h2 kb
  have hw:=ym Sa hs h3
  obtain⟨_,_,p3,p4,p5⟩:=S.pe _ h6
  obtain⟨hmk,hgk⟩:=p3 hDi
  obtain⟨u,w',l,dP,hle,hM',hr⟩:=Kg hM hp (Dp hM hs) h4 hmk (nx':=nx.toNat) (fh _) p5
  have QQ:ek o.op=false:=by
   cases hd:ek o.op with
   |false=>rfl
   |true=>rw[Rp rK,CI hp hd] at hk;cases hk
  have AE:=Me (P:=P) (cs:=cs) hm ht kb hw (.inr QQ) dP
  rw[cB ht kb] at AE
  refine⟨_,w',_,_,AE,hle,hM',?_,?_,?_⟩
  ·intro b B' hb
   have:b≠k:=by intro e;subst e;rw[p4] at hb;cases hb
   rw[cj _ _ this];exact hH b B' hb
  ·refine S.done hle kb hL h5 hr ?_
   intro x hx
   constructor
   ·intro e
    have:x=(i,k,B):=by
     have hni:=S.ni
     have:=List.pairwise_iff_getElem.1 hni
     obtain⟨p,HL,hpx⟩:=List.getElem_of_mem hx
     obtain⟨q,hq,hqx⟩:=List.getElem_of_mem h6
     rcases Nat.lt_trichotomy p q with hpq|hpq|hpq
     ·have:=this p q (by simpa using HL) (by simpa using hq) hpq
      simp[hpx,hqx,e] at this
     ·subst hpq;rw[← hpx,← hqx]
     ·have:=this q p (by simpa using hq) (by simpa using HL) hpq
      simp[hpx,hqx,e] at this
    subst this
    exact fR _ _ _
   ·intro e
    have bU:x.2.1≠k:=by
     intro hk'
     have hnk:=S.nk
     have:=List.pairwise_iff_getElem.1 hnk
     obtain⟨p,HL,hpx⟩:=List.getElem_of_mem hx
     obtain⟨q,hq,hqx⟩:=List.getElem_of_mem h6
     rcases Nat.lt_trichotomy p q with hpq|hpq|hpq
     ·have:=this p q (by simpa using HL) (by simpa using hq) hpq
      simp[hpx,hqx,hk'] at this
     ·subst hpq;rw[hpx] at hqx;subst hqx;exact e rfl
     ·have:=this q p (by simpa using hq) (by simpa using HL) hpq
      simp[hpx,hqx,hk'] at this
    exact⟨cj _ _ bU,cj _ _ bU⟩
  ·intro b hb
   have:b≠k:=fun e=>hb _ h6 e.symm
   exact⟨cj _ _ this,cj _ _ this⟩
end
end Go.Sx
/-
 SX: a region that draws its order: the machine evaluates one operation more; the model comes to the next heavy operation. No condition.
-/
namespace Go.Sx
open Go.RowKit
theorem H4(orc:hU)(op:F9)(tm:T AV)(H H':T ag)(h:Ip op=false):lightOp orc op tm H=lightOp orc op tm H':=by
 cases op<;>first|(cases h;done)|rfl
section
variable{P:Program}{ρ:Nat→Int}{orc:hU}{nt:Nat}{ops:Array Oper}{pl:List J}{bf:List Nat}{w0:W0}{w:World}{μ μ':Mu}{G G':Key→Option ag}{H H':T ag}{nx nx':Key}{g:Gh}{Aq aFS:Nat→Prop}{ak pend':List (Nat×Key×ag)}{tm:T AV}{tmps:Array Value}{rest:List Nat}{fr:Frame}{cs:List Frame}{K:List Item}{i:Nat}
theorem fO.au4(S:fO P ρ orc nt ops pl bf μ G H nx g Aq ak tm tmps rest)(hi:i<ops.size)(hL:hasB g.L i=false)(hb:∀ j,j<ops.size→hasB (fc bf i) j=true→hasB g.L j=true):VB ops bf g i tm:=by
 intro o ho k a hk ha
 by_cases h:∃ j,hasB g.L j=true∧lQ ops j=some k.toNat
 ·obtain⟨j,hj,hd⟩:=h
  left
  refine⟨j,hd,?_,by rw[← S.a1 k j hj hd];exact ha⟩
  have bU:i≠j:=by intro e;subst e;rw[hL] at hj;cases hj
  rcases ((S.LZ.slot ho hd).2 bU).2 hk with h|h
  ·exact h
  ·have:=S.lcl j hj i hi h
   rw[hL] at this;cases this
 ·right
  have h:∀ j,hasB g.L j=true→lQ ops j≠some k.toNat:=fun j hj hd=>h ⟨j,hj,hd⟩
  refine⟨fun j hd=>?_,by rw[← S.a2 k h];exact ha⟩
  by_cases bU:i=j
  ·subst bU;exact absurd hk ((S.LZ.slot ho hd).1 rfl)
  ·rcases ((S.LZ.slot ho hd).2 bU).2 hk with fL|fL
   ·exact absurd hd (h j (hb j (I9 hd) fL))
   ·exact fL
def vU(f:Nat→Option AV)(i:Nat)(x:Option AV):Nat→Option AV:=fun j=>if j=i then x else f j
theorem ajr{x:Option AV}{L':Nat}{D':Nat→Bool}{p:Nat}{k:Key}{a:AV}(hp:hasB (fc bf p) i=false)(h:Uc ops bf g p k a):Uc ops bf {L:=L',D:=D',a0:=g.a0,val:=vU g.val i x} p k a:=by
 rcases h with⟨j,h1,h2,h3⟩|⟨h1,h2⟩
 ·left
  refine⟨j,h1,h2,?_⟩
  have:j≠i:=by intro e;subst e;rw[hp] at h2;cases h2
  simpa[vU,this] using h3
 ·exact .inr ⟨h1,h2⟩
theorem vG{x:Option AV}{L':Nat}{D':Nat→Bool}{p:Nat}{lf:T AV}(hp:hasB (fc bf p) i=false)(h:VB ops bf g p lf):VB ops bf {L:=L',D:=D',a0:=g.a0,val:=vU g.val i x} p lf:=
 fun o ho k a hk hg=>ajr hp (h o ho k a hk hg)
theorem uU.mz{x:Option AV}{L':Nat}{D':Nat→Bool}{p:Nat}(hp:hasB (fc bf p) i=false)(bU:p≠i)(OE:∀ y∈ak,y∈pend')(Ud:∀ y∈pend',y∈ak∨y.1=i)(h:uU orc ops pl bf H g ak Aq p) :
  uU orc ops pl bf H {L:=L',D:=D',a0:=g.a0,val:=vU g.val i x} pend' Aq p:=by
 have hv:∀ v,g.val p=some v→vU g.val i x p=some v:=by intro v hv;simpa[vU,bU] using hv
 have hq:(∀ y∈ak,y.1≠p)→∀ y∈pend',y.1≠p:=by
  intro hh y hy
  rcases Ud y hy with h|h
  ·exact hh y h
  ·rw[h];exact fun e=>bU e.symm
 cases h with
 |skip po lf h1 h2 h3 h4 h5=>exact .skip po lf h1 (vG hp h2) h3 (hv _ h4) (hq h5)
 |light po lf v h1 h2 h3 hk h4 h5 h6=>
  refine .light po lf v h1 (vG hp h2) h3 hk (fun hu=>?_) (hv _ h5) (hq h6)
  obtain⟨V,a1,a2⟩:=h4 hu
  refine⟨V,a1,fun b B hb=>?_⟩
  rcases a2 b B hb with h|⟨j,h,h'⟩
  ·exact .inl h
  ·exact .inr ⟨j,OE _ h,h'⟩
 |alloc po lf f B k h1 h2 h3 hk h4 h5 h6=>exact .alloc po lf f B k h1 (vG hp h2) h3 hk h4 (hv _ h5) (OE _ h6)
noncomputable def bu(d:Option Key)(v:AV)(tm:T AV):T AV:=match d with
 |none=>tm
 |some k=>au k (some v) tm
theorem dw{R:Type}(d:Option Key)(v:AV)(tm:T AV)(c:T AV→R):uB d (some v) tm c=c (bu d v tm):=by
 cases d with
 |none=>rfl
 |some k=>simp only[uB,bu,sTCe]
theorem fO.add(S:fO P ρ orc nt ops pl bf μ G H nx g Aq ak tm tmps rest){po:J}(rK:pl[i]?=some po)(hL:hasB g.L i=false)(hb:∀ j,j<ops.size→hasB (fc bf i) j=true→hasB g.L j=true)
  {v:AV} (OE:∀ y∈ak,y∈pend') (Ud:∀ y∈pend',y∈ak∨y.1=i)
  (mD:uU orc ops pl bf H {L:=Gl g.L i,D:=g.D,a0:=g.a0,val:=vU g.val i (some v)} pend' Aq i)
  (Uz:∀ y∈pend',y∉ak→μ y.2.1=none∧G y.2.1=none∧aa y.2.1 H=none∧y.2.1.toNat<nx'.toNat) (hn:nx.toNat≤nx'.toNat)
  (hnk:(pend'.map (·.2.1.toNat)).Nodup) (hni:(pend'.map (·.1)).Nodup) :
  fO P ρ orc nt ops pl bf μ G H nx' {L:=Gl g.L i,D:=g.D,a0:=g.a0,val:=vU g.val i (some v)} Aq pend' (bu po.dst v tm) tmps rest:=by
 have hi:=S.LZ.JF rK
 obtain⟨o,Pm,ho,R9,DU⟩:=S.LZ.at hi
 rw[rK] at DU;cases DU
 obtain⟨kb,Sa,zt⟩:=gU R9
 have hdi:lQ ops i=o.dst:=by simp[lQ,ho]
 have hDi:g.D i=false:=by
  cases h:g.D i with
  |false=>rfl
  |true=>have:=S.sub i h;rw[hL] at this;cases this
 have Jw:∀ j,hasB (Gl g.L i) j=true↔(hasB g.L j=true∨j=i):=by
  intro j;rw[Gx,Bool.or_eq_true,decide_eq_true_eq]
  exact⟨fun h=>h.imp id Eq.symm,fun h=>h.imp id Eq.symm⟩
 have hnb:∀ p,hasB g.L p=true→hasB (fc bf p) i=false:=by
  intro p hp
  cases h:hasB (fc bf p) i with
  |false=>rfl
  |true=>have:=S.lcl p hp i hi h;rw[hL] at this;cases this
 refine⟨S.LZ,S.ord,S.cl,?_,?_,?_,?_,?_,S.sz,?_,S.c2,?_,?_,hnk,hni⟩
 ·intro j hj;exact(Jw j).2 (.inl (S.sub j hj))
 ·intro j hj
  rcases (Jw j).1 hj with h|h
  ·exact S.FB j h
  ·subst h;exact hi
 ·intro j hj q hq hbq
  rcases (Jw j).1 hj with h|h
  ·exact(Jw q).2 (.inl (S.lcl j h q hq hbq))
  ·subst h;exact(Jw q).2 (.inl (hb q hq hbq))
 ·intro k j hj hd
  rcases zt with⟨e1,e2⟩|⟨kd,e1,e2,_⟩
  ·rcases (Jw j).1 hj with h|h
   ·have bU:j≠i:=by intro e;subst e;rw[hL] at h;cases h
    rw[e2]
    simp only[bu,vU,bU,if_false]
    exact S.a1 k j h hd
   ·subst h;rw[hdi,e1] at hd;cases hd
  ·rw[e2]
   simp only[bu]
   rcases (Jw j).1 hj with h|h
   ·have bU:j≠i:=by intro e;subst e;rw[hL] at h;cases h
    have hk:k≠kd:=by
     intro e;subst e
     exact bU (S.LZ.LK hd (hdi.trans e1))
    rw[bG _ _ _ _ hk]
    simp only[vU,bU,if_false]
    exact S.a1 k j h hd
   ·subst h
    rw[hdi,e1] at hd
    have hk:k=kd:=Key.toNat_inj (by simpa using hd.symm)
    subst hk
    rw[gTSm]
    simp[vU]
 ·intro k iI
  rcases zt with⟨e1,e2⟩|⟨kd,e1,e2,_⟩
  ·rw[e2]
   exact S.a2 k fun j hj=>iI j ((Jw j).2 (.inl hj))
  ·rw[e2]
   simp only[bu]
   have hk:k≠kd:=by
    intro e;subst e
    exact iI i ((Jw i).2 (.inr rfl)) (hdi.trans e1)
   rw[bG _ _ _ _ hk]
   exact S.a2 k fun j hj=>iI j ((Jw j).2 (.inl hj))
 ·intro k j a hj hd hv
  have bU:j≠i:=by intro e;subst e;rw[hDi] at hj;cases hj
  exact S.c1 k j a hj hd (by simpa[vU,bU] using hv)
 ·intro j hj hjD
  rcases (Jw j).1 hj with h|h
  ·have bU:j≠i:=by intro e;subst e;rw[hL] at h;cases h
   exact(S.pd j h hjD).mz (hnb j h) bU OE Ud
  ·subst h;exact mD
 ·intro y hy
  by_cases x4:y∈ak
  ·obtain⟨p1,p2,p3,p4,p5⟩:=S.pe y x4
   exact⟨(Jw _).2 (.inl p1),p2,p3,p4,JJ p5 hn⟩
  ·obtain⟨q1,q2,q3,q4⟩:=Uz y hy x4
   have e:=(Ud y hy).resolve_left x4
   refine⟨(Jw _).2 (.inr e),fun h=>?_,fun _=>⟨q1,q2⟩,q3,q4⟩
   rw[e] at h
   have h:g.D i=true:=h
   rw[hDi] at h;cases h
theorem fO.ew(S:fO P ρ orc nt ops pl bf μ G H nx g (fun i=>fN pl i=true) ak tm tmps rest)(hm:μ.le μ')(hn:nx.toNat≤nx'.toNat)
  (hk:∀ x∈ak,μ' x.2.1=μ x.2.1∧G' x.2.1=G x.2.1∧aa x.2.1 H'=none):fO P ρ orc nt ops pl bf μ' G' H' nx' g (fun i=>fN pl i=true) ak tm tmps rest:=by
 refine⟨S.LZ,S.ord,S.cl,S.sub,S.FB,S.lcl,S.a1,S.a2,S.sz,?_,?_,?_,?_,S.nk,S.ni⟩
 ·intro k j a h1 h2 h3
  obtain⟨v,hv,hr⟩:=S.c1 k j a h1 h2 h3
  exact⟨v,hv,hr.mono hm⟩
 ·intro k a h1 h2
  obtain⟨v,hv,hr⟩:=S.c2 k a h1 h2
  exact⟨v,hv,hr.mono hm⟩
 ·intro i hi hD
  cases S.pd i hi hD with
  |skip po lf h1 h2 h3 h4 h5=>exact .skip po lf h1 h2 h3 h4 h5
  |light po lf v h1 h2 h3 rq h4 h5 h6=>
   refine .light po lf v h1 h2 h3 rq (fun hu=>?_) h5 h6
   obtain⟨V,a1,_⟩:=h4 hu
   refine⟨H',?_,VOk.refl _ _ _ _⟩
   rw[← a1]
   apply H4
   have:fN pl i=Ip po.op:=by simp[fN,h1]
   rw[this] at hu
   simpa using hu
  |alloc po lf f B k h1 h2 h3 rq h4 h5 h6=>exact .alloc po lf f B k h1 h2 h3 rq h4 h5 h6
 ·intro x hx
  obtain⟨p1,p2,p3,p4,p5⟩:=S.pe x hx
  obtain⟨q1,q2,q3⟩:=hk x hx
  refine⟨p1,fun h=>by rw[q2];exact p2 h,fun h=>by rw[q1,q2];exact p3 h,q3,JJ p5 hn⟩
end
end Go.Sx
/-
 SX: a region that draws its order: the model comes to the next heavy operation; reads are looked at again. No condition.
-/
namespace Go.Sx
open Go.RowKit
section
variable{P:Program}{ρ:Nat→Int}{orc:hU}{nt:Nat}{ops:Array Oper}{pl:List J}{bf:List Nat}{w0:W0}{w:World}{μ μ':Mu}{G G':Key→Option ag}{H H':T ag}{nx nx':Key}{g:Gh}{Aq aFS:Nat→Prop}{ak pend':List (Nat×Key×ag)}{tm:T AV}{tmps:Array Value}{rest:List Nat}{fr:Frame}{cs:List Frame}{K:List Item}{i:Nat}
def aCy(P:Program)(ρ:Nat→Int)(orc:hU)(nt:Nat)(ops:Array Oper)(pl:List J)(bf:List Nat)(w0:W0)(H:T ag)(nx:Key)(g:Gh)(ak:List (Nat×Key×ag))(tm:T AV)(K:List Item)
  (fr:Frame) (cs:List Frame) (w:World) (μ:Mu) (G:Key→Option ag) (DH:List Nat→Prop):Prop:=
 ∃ dE w' μ' G' D' jY,Steps P (lone fr cs w) (lone {fr with tmps:=dE,todo:=.inRegion ops jY ::K} cs w')∧μ.le μ'∧aP P ρ w0 μ' G' nx.toNat w'∧HSub H G'∧
  fO P ρ orc nt ops pl bf μ' G' H nx {g with D:=D'} (fun _=>False) ak tm dE jY∧(∀ b,(∀ x∈ak,x.2.1≠b)→μ' b=μ b∧G' b=G b)∧DH jY
theorem avj(DH:List Nat→Prop)(ho:dq ρ orc)
  (hgo:∀ (D:Nat→Bool) (rest:List Nat),(∀ i,D i=true→hasB g.L i=true)→Lu ops D rest→DH rest∨∃ q r,rest=q ::r∧((∀ j,j<ops.size→hasB (fc bf q) j=true→D j=true)→hasB g.L q=true)) :
  ∀ (rest:List Nat) (D:Nat→Bool) (fr:Frame) (w:World) (μ:Mu) (G:Key→Option ag),aP P ρ w0 μ G nx.toNat w→HSub H G→fO P ρ orc nt ops pl bf μ G H nx {g with D:=D} (fun _=>False) ak tm fr.tmps rest→
   fr.mode=.run→fr.todo=.inRegion ops rest ::K→aCy P ρ orc nt ops pl bf w0 H nx g ak tm K fr cs w μ G DH:=by
 intro rest
 induction rest with
 |nil=>
  intro D fr w μ G hM hH S hm ht
  rcases hgo D [] S.sub S.ord with h|⟨q,r,h,_⟩
  ·refine⟨fr.tmps,w,μ,G,D,[],?_,μ.le_refl,hM,hH,S,fun _ _=>⟨rfl,rfl⟩,h⟩
   rw[← ht];exact Steps.refl _ _
  ·cases h
 |cons q r ih=>
  intro D fr w μ G hM hH S hm ht
  rcases hgo D (q ::r) S.sub S.ord with h|⟨q',r',h,hq⟩
  ·refine⟨fr.tmps,w,μ,G,D,q ::r,?_,μ.le_refl,hM,hH,S,fun _ _=>⟨rfl,rfl⟩,h⟩
   rw[← ht];exact Steps.refl _ _
  ·cases h
   have hL:=hq S.ready.2.2
   obtain⟨dE,w',μ',G',h1,h2,h3,h4,h5,h6⟩:=Tm (cs:=cs) hM hH ho S hL (fun h=>h) hm ht
   obtain⟨tmps2,w2,μ2,G2,D2,rest2,k1,k2,k3,k4,k5,k6,k7⟩:=ih _ {fr with tmps:=dE,todo:=.inRegion ops r ::K} w' μ' G' h3 h4 h5 hm rfl
   exact⟨tmps2,w2,μ2,G2,D2,rest2,.head h1 k1,Mu.le_trans h2 k2,k3,k4,k5,fun b hb=>⟨(k6 b hb).1.trans (h6 b hb).1,(k6 b hb).2.trans (h6 b hb).2⟩,k7⟩
theorem Ue(hM:aP P ρ w0 μ G nx.toNat w)(hH:HSub H G)(ho:dq ρ orc)(S:fO P ρ orc nt ops pl bf μ G H nx g (fun _=>False) ak tm fr.tmps rest){h:Nat}(bO:h<ops.size)(hh:hasB g.L h=false)
  (ajq:∀ j,j<ops.size→hasB g.L j=true∨j=h∨∃ q,q<ops.size∧hasB (fc bf j) q=true∧hasB g.L q=false) (hm:fr.mode=.run) (ht:fr.todo=.inRegion ops rest ::K) :
  aCy P ρ orc nt ops pl bf w0 H nx g ak tm K fr cs w μ G (fun r=>∃ r',r=h ::r'):=by
 refine avj _ ho ?_ rest g.D fr w μ G hM hH S hm ht
 intro D rest axU ayg
 cases rest with
 |nil=>
  have:=axU h (ayg h bO)
  rw[hh] at this;cases this
 |cons q r=>
  by_cases e:q=h
  ·subst e;exact .inl ⟨r,rfl⟩
  ·refine .inr ⟨q,r,rfl,fun hb=>?_⟩
   rcases ajq q ayg.1 with h1|h1|⟨p,hp,hpb,hpL⟩
   ·exact h1
   ·exact absurd h1 e
   ·have:=axU p (hb p hp hpb)
    rw[hpL] at this;cases this
theorem amT(hM:aP P ρ w0 μ G nx.toNat w)(hH:HSub H G)(ho:dq ρ orc)(S:fO P ρ orc nt ops pl bf μ G H nx g (fun _=>False) ak tm fr.tmps rest)
  (oV:∀ j,j<ops.size→hasB g.L j=true) (hm:fr.mode=.run) (ht:fr.todo=.inRegion ops rest ::K) :
  aCy P ρ orc nt ops pl bf w0 H nx g ak tm K fr cs w μ G (fun r=>r=[]):=by
 refine avj _ ho ?_ rest g.D fr w μ G hM hH S hm ht
 intro D rest axU ayg
 cases rest with
 |nil=>exact .inl rfl
 |cons q r=>exact .inr ⟨q,r,rfl,fun _=>oV q ayg.1⟩
theorem Dl{iK:List (Nat×List Nat)}:∀ {os:List (Nat×J)},recheck orc iK ak tm H os=true→∀ i po,(i,po)∈os→
  ∃ d,po.dst=some d∧((cx po.guard tm=some false∧aa d tm=some (.tuple []))∨(cx po.guard tm=some true∧∃ v,aa d tm=some v∧lightOp orc po.op tm (uC (BC i iK) ak H)=some v))
 | [],_,_,_,h=>by simp at h
 |(q,o) ::os,hr,i,po,hm=>by
  simp only[recheck] at hr
  split at hr
  ·rename_i hw
   split at hr
   ·cases hr
   ·rename_i d hd
    split at hr
    ·rename_i hg
     rcases Ga.1 hm with h|h
     ·cases h;exact⟨d,hd,.inl ⟨hw,hg⟩⟩
     ·exact Dl hr i po h
    ·cases hr
  ·rename_i hw
   split at hr
   ·cases hr
   ·rename_i d hd
    split at hr
    ·rename_i v u hg hl
     cases hb:AV.beq v u with
     |false=>rw[hb] at hr;cases hr
     |true=>
      rw[hb] at hr
      simp only[cond_true] at hr
      have:=AV.eq_of_beq v u hb
      subst this
      rcases Ga.1 hm with h|h
      ·cases h;exact⟨d,hd,.inr ⟨hw,v,hg,hl⟩⟩
      ·exact Dl hr i po h
    ·cases hr
  ·cases hr
theorem ajB{i:Nat}{o:Oper}(h:BJ ops bf i=true)(ho:ops[i]?=some o){j t:Nat}(hj:lQ ops j=some t)(ht:t∈ke ops o):hasB (fc bf i) j=true:=by
 unfold BJ at h
 rw[ho] at h
 simp only[vV] at h
 have h:=h j (by simpa using I9 hj)
 rw[hj] at h
 have hc:(ke ops o).contains t=true:=by simpa using ht
 simp only[hc,Bool.not_true,Bool.false_or] at h
 exact h
theorem fO.Rj(S:fO P ρ orc nt ops pl bf μ G H nx g Aq ak tm tmps rest){os:List (Nat×J)}{iK:List (Nat×List Nat)}(ajw:xD bf iK=true)(hr:recheck orc iK ak tm H os=true)
  (Uu:∀ i po,(i,po)∈os→pl[i]?=some po∧BJ ops bf i=true∧pB pl i=0) (Fb:∀ i,hasB g.L i=true→g.D i=false→Aq i→∃ po,(i,po)∈os) :
  fO P ρ orc nt ops pl bf μ G H nx g (fun _=>False) ak tm tmps rest:=by
 refine⟨S.LZ,S.ord,S.cl,S.sub,S.FB,S.lcl,S.a1,S.a2,S.sz,S.c1,S.c2,?_,S.pe,S.nk,S.ni⟩
 intro i hi hD
 by_cases hu:Aq i
 ·obtain⟨po,hm⟩:=Fb i hi hD hu
  obtain⟨rK,Gu,hk⟩:=Uu i po hm
  obtain⟨d,hd,aui⟩:=Dl hr i po hm
  have aME:=S.FB i hi
  obtain⟨o,Pm,ho,R9,DU⟩:=S.LZ.at aME
  rw[rK] at DU;cases DU
  obtain⟨_,_,zt⟩:=gU R9
  have hdd:lQ ops i=some d.toNat:=by
   rcases zt with⟨_,e2⟩|⟨k,e1,e2,_⟩
   ·rw[e2] at hd;cases hd
   ·rw[e2] at hd;cases hd
    simp[lQ,ho,e1]
  have Ja:=S.a1 d i hi hdd
  have htm:VB ops bf g i tm:=by
   intro o' KN k a wQ hg
   rw[ho] at KN;cases KN
   by_cases hex:∃ j,lQ ops j=some k.toNat
   ·obtain⟨j,hj⟩:=hex
    have hb:=ajB Gu ho hj wQ
    exact .inl ⟨j,hj,hb,by rw[← S.a1 k j (S.lcl i hi j (I9 hj) hb) hj];exact hg⟩
   ·have iI:∀ j,lQ ops j≠some k.toNat:=fun j hj=>hex ⟨j,hj⟩
    exact .inr ⟨fun j hj=>absurd hj (iI j),by rw[← S.a2 k fun j _=>iI j];exact hg⟩
  have OE:∀ x∈ak,x.1≠i:=by
   cases S.pd i hi hD with
   |skip po lf h1 h2 h3 h4 h5=>exact h5
   |light po lf v h1 h2 h3 rq h4 h5 h6=>exact h6
   |alloc po lf f B k h1 h2 h3 rq h4 h5 h6=>rw[hk] at rq;cases rq
  rcases aui with⟨hw,hg⟩|⟨hw,v,hg,hl⟩
  ·exact .skip po tm rK htm hw (by rw[← Ja];exact hg) OE
  ·exact .light po tm v rK htm hw hk (fun _=>⟨_,hl,VOk.view ajw _ _ _⟩) (by rw[← Ja];exact hg) OE
 ·cases S.pd i hi hD with
  |skip po lf h1 h2 h3 h4 h5=>exact .skip po lf h1 h2 h3 h4 h5
  |light po lf v h1 h2 h3 rq h4 h5 h6=>exact .light po lf v h1 h2 h3 rq (fun _=>h4 hu) h5 h6
  |alloc po lf f B k h1 h2 h3 rq h4 h5 h6=>exact .alloc po lf f B k h1 h2 h3 rq h4 h5 h6
end
end Go.Sx
/-
 SX: frames of the abstract machine and of the model. No condition.
-/
namespace Go.Sx
open Go.RowKit
inductive Ls(P:Program)(μ:Mu)(nt:Nat):cJ→Item→Prop
 |code (pc:aA) (c:Code) (h:fZ P nt c=some pc):Ls P μ nt (.code pc) (.code c)
 |inBlock (id:Nat):Ls P μ nt (.inBlock id) (.inBlock id)
 |inLoop (pc:aA) (c:Code) (h:fZ P nt c=some pc):Ls P μ nt (.inLoop pc) (.inLoop c)
 |ops (l:List J) (ops:Array Oper) (rest:List Nat) (h:lP P nt ops rest=some l):Ls P μ nt (.ops l) (.inRegion ops rest)
 |inRF (k:Key) (l:Loc) (r:Nat) (h:μ k=some l) (hr:r=l.c):Ls P μ nt (.inRF k) (.inRangeFunc r)
 |endRF (k:Key) (l:Loc) (r:Nat) (h:μ k=some l) (hr:r=l.c):Ls P μ nt (.endRF k) (.endRangeFunc r)
 |beginRound:Ls P μ nt .beginRound .beginRound
 |scope (c:Code):Ls P μ nt (.code .skip) (.inScope c)
inductive lJ(P:Program)(μ:Mu)(nt:Nat):List cJ→List Item→Prop
 |nil:lJ P μ nt [] []
 |cons (a:cJ) (x:Item) (l:List cJ) (k:List Item) (h:Ls P μ nt a x) (h':lJ P μ nt l k):lJ P μ nt (a ::l) (x ::k)
theorem Ls.mono{P:Program}{μ μ':Mu}(hm:μ.le μ'){nt:Nat}{a:cJ}{x:Item}(h:Ls P μ nt a x):Ls P μ' nt a x:=by
 cases h with
 |code pc c h=>exact .code pc c h
 |inBlock id=>exact .inBlock id
 |inLoop pc c h=>exact .inLoop pc c h
 |ops l ops rest h=>exact .ops l ops rest h
 |inRF k l r h hr=>exact .inRF k l r (hm.l _ _ h) hr
 |endRF k l r h hr=>exact .endRF k l r (hm.l _ _ h) hr
 |beginRound=>exact .beginRound
 |scope c=>exact .scope c
theorem lJ.mono{P:Program}{μ μ':Mu}(hm:μ.le μ'){nt:Nat}{a:List cJ}{x:List Item}(h:lJ P μ nt a x):lJ P μ' nt a x:=by
 induction h with
 |nil=>exact .nil
 |cons a x l k h h' ih=>exact .cons _ _ _ _ (h.mono hm) ih
def axY(ρ:Nat→Int)(μ:Mu):Sb→Deferred→Prop
 |.fn f args,d=>∃ ws,d.target=.fn (.func f) ws∧an ρ μ args (d.args++ws).toList
 |.coll b,d=>∃ l,μ b=some l∧d=⟨.collected l.c,#[]⟩
def NH(ρ:Nat→Int)(μ:Mu):List Sb→List Deferred→Prop
 | [],[]=>True
 |a ::l,d ::ds=>axY ρ μ a d∧NH ρ μ l ds
 |_,_=>False
theorem axY.mono{ρ:Nat→Int}{μ μ':Mu}(hm:μ.le μ'){a:Sb}{d:Deferred}(h:axY ρ μ a d):axY ρ μ' a d:=by
 cases a with
 |fn f args=>obtain⟨ws,h1,h2⟩:=h;exact⟨ws,h1,h2.mono hm⟩
 |coll b=>obtain⟨l,h1,h2⟩:=h;exact⟨l,hm.l _ _ h1,h2⟩
theorem NH.mono{ρ:Nat→Int}{μ μ':Mu}(hm:μ.le μ'):∀ {a:List Sb} {d:List Deferred},NH ρ μ a d→NH ρ μ' a d
 | [],[],_=>trivial
 |_ ::_,_ ::_,h=>⟨h.1.mono hm,NH.mono hm h.2⟩
 | [],_ ::_,h=>h.elim
 |_ ::_,[],h=>h.elim
def aFK(μ:Mu):Option Key→Option Nat→Prop
 |none,none=>True
 |some k,some r=>∃ l,μ k=some l∧r=l.c
 |_,_=>False
structure xE(P:Program)(ρ:Nat→Int)(μ:Mu)(nt:Nat)(af:jP)(fr:Frame):Prop where
 fn:fr.fn=af.fn
 fnr:ar3 P af.fn nt af.res
 dfs:NH ρ μ af.dfs fr.defers
 kind:fr.kind=if af.BX then .deferred else .normal
 qZ:aFK μ af.qZ fr.roundOf
 rd:af.qZ≠none→af.BX=false
theorem xE.mono{P:Program}{ρ:Nat→Int}{μ μ':Mu}(hm:μ.le μ'){nt:Nat}{af:jP}{fr:Frame}(h:xE P ρ μ nt af fr):xE P ρ μ' nt af fr:=by
 refine⟨h.fn,h.fnr,h.dfs.mono hm,h.kind,?_,h.rd⟩
 have:=h.qZ
 cases h1:af.qZ<;>cases h2:fr.roundOf<;>rw[h1,h2] at this
 ·trivial
 ·exact this.elim
 ·exact this.elim
 ·obtain⟨l,e1,e2⟩:=this;exact⟨l,hm.l _ _ e1,e2⟩
def Iu(ops:Array Oper)(ic:List Key):Prop:=∀ j t,lQ ops j=some t→∃ k∈ic,k.toNat=t
inductive UJ(P:Program)(ρ:Nat→Int)(orc:hU)(μ:Mu)(G:Key→Option ag)(H:T ag)(nx:Key)(nt:Nat):List cJ→T AV→List Item→Array Value→Prop
 |plain (k:List cJ) (K:List Item) (tm:T AV) (tmps:Array Value) (h:lJ P μ nt k K) (ht:jQ ρ μ nt tm tmps):UJ P ρ orc μ G H nx nt k tm K tmps
 |ready (ops:Array Oper) (pl:List J) (bf:List Nat) (g:Gh) (sZ:List IIt) (items:List aM) (ic:SD) (ak:List (Nat×Key×ag)) (k:List cJ) (K:List Item) (tm:T AV) (tmps:Array Value) (rest:List Nat)
   (hf:sZ.mapM (BL pl)=some items) (hc:wP ops pl bf g.L sZ=true) (hd:Iu ops ic.ds∧xD bf ic.iK=true) (h:lJ P μ nt k K) (S:fO P ρ orc nt ops pl bf μ G H nx g (fun _=>False) ak tm tmps rest) :
   UJ P ρ orc μ G H nx nt (.staged items ic ak ::k) tm (.inRegion ops rest ::K) tmps
 |back (ops:Array Oper) (pl:List J) (bf:List Nat) (g:Gh) (os:List (Nat×J)) (sZ:List IIt) (items:List aM) (ic:SD) (ak:List (Nat×Key×ag)) (k:List cJ) (K:List Item) (tm:T AV) (tmps:Array Value) (rest:List Nat)
   (hf:sZ.mapM (BL pl)=some items) (hc:wP ops pl bf g.L sZ=true) (hd:Iu ops ic.ds∧xD bf ic.iK=true) (h:lJ P μ nt k K)
   (Uu:∀ i po,(i,po)∈os→pl[i]?=some po∧BJ ops bf i=true∧pB pl i=0) (Fb:∀ i,hasB g.L i=true→g.D i=false→fN pl i=true→∃ po,(i,po)∈os)
   (S:fO P ρ orc nt ops pl bf μ G H nx g (fun i=>fN pl i=true) ak tm tmps rest) :
   UJ P ρ orc μ G H nx nt (.staged (.R os ::items) ic ak ::k) tm (.inRegion ops rest ::K) tmps
inductive Gt(P:Program)(ρ:Nat→Int)(orc:hU)(μ:Mu)(G:Key→Option ag)(H:T ag)(nx:Key)(nt:Nat):List cJ→T AV→List Item→Array Value→Prop
 |ops (o:J) (l:List J) (ops:Array Oper) (i:Nat) (rest:List Nat) (k:List cJ) (K:List Item) (tm:T AV) (tmps:Array Value) (hp:lP P nt ops (i ::rest)=some (o ::l)) (h:lJ P μ nt k K) (ht:jQ ρ μ nt tm tmps) :
   Gt P ρ orc μ G H nx nt (.ops (o ::l) ::k) tm (.inRegion ops (i ::rest) ::K) tmps
 |staged (ops:Array Oper) (pl:List J) (bf:List Nat) (g:Gh) (i:Nat) (po:J) (ad:List Nat) (os:List (Nat×J)) (sZ:List IIt) (items:List aM) (ic:SD) (ak:List (Nat×Key×ag)) (k:List cJ) (K:List Item) (tm:T AV) (tmps:Array Value) (rest:List Nat)
   (rK:pl[i]?=some po) (hf:sZ.mapM (BL pl)=some items) (hc:wP ops pl bf (Gl g.L i) sZ=true) (hL:hasB g.L i=false) (QO:∀ j,j<ops.size→hasB (fc bf i) j=true→hasB g.L j=true) (hd:Iu ops ic.ds∧xD bf ic.iK=true) (h:lJ P μ nt k K)
   (Uu:∀ i po,(i,po)∈os→pl[i]?=some po∧BJ ops bf i=true∧pB pl i=0) (Fb:∀ j,hasB g.L j=true→fN pl j=true→hasB (fc bf i) j=true∨∃ po,(j,po)∈os)
   (S:fO P ρ orc nt ops pl bf μ G H nx g (fun i=>fN pl i=true) ak tm tmps (i ::rest)) :
   Gt P ρ orc μ G H nx nt (.staged (.H i po ad ::.R os ::items) ic ak ::k) tm (.inRegion ops (i ::rest) ::K) tmps
 |rf (key:Key) (l:Loc) (k:List cJ) (K:List Item) (tm:T AV) (tmps:Array Value) (hk:μ key=some l) (h:lJ P μ nt k K) (ht:jQ ρ μ nt tm tmps):Gt P ρ orc μ G H nx nt (.inRF key ::k) tm (.inRangeFunc l.c ::K) tmps
inductive Cur(P:Program)(ρ:Nat→Int)(orc:hU)(μ:Mu)(G:Key→Option ag)(H:T ag)(nx:Key)(af:jP)(fr:Frame):Prop
 |run (nt:Nat) (hb:xE P ρ μ nt af fr) (h1:af.mode=.run) (h2:fr.mode=.run) (h:UJ P ρ orc μ G H nx nt af.todo af.tm fr.todo fr.tmps):Cur P ρ orc μ G H nx af fr
 |ret (nt:Nat) (hb:xE P ρ μ nt af fr) (h1:af.mode=.ret) (h2:fr.mode=.returning) (h3:af.todo=[]∨∃ k,af.todo=.code .ret ::k) (h:jQ ρ μ nt af.tm fr.tmps):Cur P ρ orc μ G H nx af fr
 |pan (nt:Nat) (hb:xE P ρ μ nt af fr) (v:AV) (u:Value) (r:Bool) (h1:af.mode=.pan v r) (h2:fr.mode=.panicking [{v:=u,recovered:=r}]) (hv:aD ρ μ v u) (h3:af.todo=[]) (h:jQ ρ μ nt af.tm fr.tmps):Cur P ρ orc μ G H nx af fr
inductive Sus(P:Program)(ρ:Nat→Int)(orc:hU)(μ:Mu)(G:Key→Option ag)(H:T ag)(nx:Key)(af:jP)(fr:Frame):Prop
 |wait (nt:Nat) (hb:xE P ρ μ nt af fr) (h1:af.mode=.run) (h2:fr.mode=.run) (h:Gt P ρ orc μ G H nx nt af.todo af.tm fr.todo fr.tmps):Sus P ρ orc μ G H nx af fr
 |unw (h:Cur P ρ orc μ G H nx af fr) (hm:af.mode≠.run):Sus P ρ orc μ G H nx af fr
def cX(P:Program)(ρ:Nat→Int)(orc:hU)(μ:Mu)(G:Key→Option ag)(H:T ag)(nx:Key):List jP→List Frame→Prop
 | [],[]=>True
 |a ::l,f ::fs=>Sus P ρ orc μ G H nx a f∧cX P ρ orc μ G H nx l fs
 |_,_=>False
def pk(af:jP):List Nat:=match af.todo with
 |.staged _ _ p ::_=>p.map (·.2.1.toNat)
 |_=>[]
def br:List jP→List Nat
 | []=>[]
 |a ::l=>pk a++br l
structure zo(P:Program)(ρ:Nat→Int)(orc:hU)(w0:W0)(μ0:Mu)(am:AM)(fr:Frame)(cs:List Frame)(w:World):Prop where
 ex:∃ μ G,μ0.le μ∧aP P ρ w0 μ G am.nx.toNat w∧HSub am.h G∧Cur P ρ orc μ G am.h am.nx am.fr fr∧cX P ρ orc μ G am.h am.nx am.cs cs∧(br (am.fr ::am.cs)).Nodup
section
variable{P:Program}{ρ:Nat→Int}{orc:hU}{μ μ':Mu}{G G':Key→Option ag}{H H':T ag}{nx nx':Key}
theorem Gt.ew(hm:μ.le μ')(hn:nx.toNat≤nx'.toNat){nt:Nat}{k:List cJ}{tm:T AV}{K:List Item}{tmps:Array Value}(h:Gt P ρ orc μ G H nx nt k tm K tmps)
  (hk:∀ b:Key,(∀ i d p k',k=.staged i d p ::k'→b.toNat∈p.map (·.2.1.toNat))→(∃ i d p k',k=.staged i d p ::k')→aa b H=none→b.toNat<nx.toNat→μ' b=μ b∧G' b=G b∧aa b H'=none):Gt P ρ orc μ' G' H' nx' nt k tm K tmps:=by
 cases h with
 |ops o l ops i rest k K tm tmps hp h ht=>exact .ops o l ops i rest k K tm tmps hp (h.mono hm) (ht.mono hm)
 |rf key l k K tm tmps aB2 h ht=>exact .rf key l k K tm tmps (hm.l _ _ aB2) (h.mono hm) (ht.mono hm)
 |staged ops pl bf g i po ad os sZ items ic ak k K tm tmps rest rK hf hc hL QO hd h Uu Fb S=>
  refine .staged ops pl bf g i po ad os sZ items ic ak k K tm tmps rest rK hf hc hL QO hd (h.mono hm) Uu Fb (S.ew hm hn fun x hx=>?_)
  obtain⟨_,_,_,p4,p5⟩:=S.pe x hx
  refine hk x.2.1 ?_ ⟨_,_,_,_,rfl⟩ p4 p5
  intro i d p k' e
  cases e
  exact Fa.2 ⟨x,hx,rfl⟩
theorem Sus.ew(hm:μ.le μ')(hn:nx.toNat≤nx'.toNat){af:jP}{fr:Frame}(h:Sus P ρ orc μ G H nx af fr)
  (hk:∀ b:Key,b.toNat∈pk af→aa b H=none→b.toNat<nx.toNat→μ' b=μ b∧G' b=G b∧aa b H'=none):Sus P ρ orc μ' G' H' nx' af fr:=by
 cases h with
 |wait nt hb h1 h2 h=>
  refine .wait nt (hb.mono hm) h1 h2 (h.ew hm hn fun b h3 ⟨i,d,p,k',e⟩ h4 h5=>hk b ?_ h4 h5)
  unfold pk
  rw[e]
  exact h3 i d p k' e
 |unw h x8=>
  refine .unw ?_ x8
  cases h with
  |run nt hb h1=>exact absurd h1 x8
  |ret nt hb h1 h2 h3 h=>exact .ret nt (hb.mono hm) h1 h2 h3 (h.mono hm)
  |pan nt hb v u r h1 h2 hv h3 h=>exact .pan nt (hb.mono hm) v u r h1 h2 (hv.mono hm) h3 (h.mono hm)
theorem cX.ew(hm:μ.le μ')(hn:nx.toNat≤nx'.toNat):∀ {l:List jP} {fs:List Frame},cX P ρ orc μ G H nx l fs→
  (∀ b:Key,b.toNat∈br l→aa b H=none→b.toNat<nx.toNat→μ' b=μ b∧G' b=G b∧aa b H'=none)→cX P ρ orc μ' G' H' nx' l fs
 | [],[],_,_=>trivial
 |_ ::_,_ ::_,h,hk=>⟨h.1.ew hm hn fun b hb=>hk b (by simp[br,hb]),cX.ew hm hn h.2 fun b hb=>hk b (by simp[br,hb])⟩
 | [],_ ::_,h,_=>h.elim
 |_ ::_,[],h,_=>h.elim
end
end Go.Sx
/-
 SX: simulation: rows of operations in their order. No condition.
-/
namespace Go.Sx
open Go.RowKit
section
variable{P:Program}{ρ:Nat→Int}{orc:hU}{nt:Nat}{w0:W0}{cs:List Frame}{K:List Item}{ops:Array Oper}
theorem jQ.put{μ:Mu}{tm:T AV}{tmps:Array Value}(h:jQ ρ μ nt tm tmps){o:Oper}{po:J}(hd:(o.dst=none∧po.dst=none)∨∃ k,o.dst=some k.toNat∧po.dst=some k∧k.toNat<nt){a:AV}{v:Value}(hv:aD ρ μ a v) :
  jQ ρ μ nt (bu po.dst a tm) (DS o.dst v tmps):=by
 rcases hd with⟨e1,e2⟩|⟨k,e1,e2,bO⟩
 ·rw[e1,e2];exact h
 ·rw[e1,e2]
  refine⟨by simp[DS];exact h.1,fun q b hb=>?_⟩
  simp only[bu] at hb
  simp only[DS]
  by_cases hq:q=k
  ·subst hq
   rw[gTSm] at hb;cases hb
   have:q.toNat<tmps.size:=JJ bO h.1
   exact⟨v,by simp[this],hv⟩
  ·rw[bG _ _ _ _ hq] at hb
   obtain⟨u,hu,hr⟩:=h.2 q b hb
   refine⟨u,?_,hr⟩
   rw[zqn]
   ·exact hu
   ·intro e;exact hq (Key.toNat_inj e.symm)
theorem arf{o:Oper}{op:F9}(hp:gP P nt o=some op)(hd:ek o.op=true):∃ v l,op=.dfr v l:=by
 obtain⟨dst,tZ,ty,pos,after,guard⟩:=o
 cases tZ<;>first|(cases hd;done)|skip
 rename_i c
 simp only[gP] at hp
 split at hp
 ·split at hp
  ·simp only[cT] at hp;exact⟨_,_,hp.symm⟩
  ·cases hp
 ·cases hp
theorem tX{o:Oper}{op:F9}(hp:gP P nt o=some op){tm:T AV}{H:T ag}{nx:Key}(h1:∀ f l,aOp orc op tm H nx≠.dfr f l)(h2:∀ n,aOp orc op tm H nx≠.bad n):ek o.op=false:=by
 cases hd:ek o.op with
 |false=>rfl
 |true=>
  obtain⟨v,l,rfl⟩:=arf hp hd
  exfalso
  have key:(∃ f l',aOp orc (.dfr v l) tm H nx=.dfr f l')∨∃ n,aOp orc (.dfr v l) tm H nx=.bad n:=by
   simp only[aOp]
   split
   ·exact .inl ⟨_,_,rfl⟩
   ·exact .inr ⟨_,rfl⟩
  rcases key with⟨f,l',e⟩|⟨n,e⟩
  ·exact h1 _ _ e
  ·exact h2 _ e
def at7(P:Program)(ρ:Nat→Int)(orc:hU)(nt:Nat)(w0:W0)(cs:List Frame)(K:List Item)(ops:Array Oper)(fr:Frame)(w:World)(μ:Mu)(G:Key→Option ag)(H:T ag)(nx:Key):RR→Prop
 |.fin tm' h' nx'=>∃ dE w' μ' G',Steps P (lone fr cs w) (lone {fr with tmps:=dE,todo:=K} cs w')∧μ.le μ'∧aP P ρ w0 μ' G' nx'.toNat w'∧HSub h' G'∧jQ ρ μ' nt tm' dE∧Kept H h' nx nx' μ μ' G G'
 |.ev r l' tm' h' nx'=>(∃ n,r=.bad n)∨∃ dE w' μ' G' i jY po ll o,Steps P (lone fr cs w) (lone {fr with tmps:=dE,todo:=.inRegion ops (i ::jY) ::K} cs w')∧μ.le μ'∧aP P ρ w0 μ' G' nx'.toNat w'∧HSub h' G'∧
   jQ ρ μ' nt tm' dE∧Kept H h' nx nx' μ μ' G G'∧l'=po ::ll∧lP P nt ops (i ::jY)=some l'∧ops[i]?=some o∧JC P nt ops o=some po∧Region.wanted o (yielded ops dE)=true∧aOp orc po.op tm' h' nx'=r∧¬ zr r
theorem kK(orc:hU)(o:J)(rest:List J)(tm:T AV)(h:T ag)(nx:Key):iO orc (o ::rest) tm h nx=(match cx o.guard tm with
   |none=>.ev (.bad 30) (o ::rest) tm h nx
   |some false=>uB o.dst (some (.tuple [])) tm fun tm=>iO orc rest tm h nx
   |some true=>match aOp orc o.op tm h nx with
    |.val v h nx=>uB o.dst (some v) tm fun tm=>iO orc rest tm h nx
    |r=>.ev r (o ::rest) tm h nx):=rfl
theorem Gv(ho:dq ρ orc):∀ (l:List J) (rest:List Nat) (fr:Frame) (w:World) (μ:Mu) (G:Key→Option ag) (H:T ag) (nx:Key) (tm:T AV),lP P nt ops rest=some l→aP P ρ w0 μ G nx.toNat w→HSub H G→jQ ρ μ nt tm fr.tmps→
  fr.mode=.run→fr.todo=.inRegion ops rest ::K→at7 P ρ orc nt w0 cs K ops fr w μ G H nx (iO orc l tm H nx)
 | [],rest,fr,w,μ,G,H,nx,tm,hp,hM,hH,hT,hm,ht=>by
  cases rest with
  |cons i r=>simp only[lP] at hp;split at hp;cases hp;split at hp<;>cases hp
  |nil=>exact⟨fr.tmps,w,μ,G,.one (Ep hm ht),μ.le_refl,hM,hH,hT,Kept.refl _ _ _ _⟩
 |po ::l,rest,fr,w,μ,G,H,nx,tm,hp,hM,hH,hT,hm,ht=>by
  cases rest with
  |nil=>simp only[lP,cT] at hp;cases hp
  |cons i r=>
  have S7:=hp
  simp only[lP] at hp
  split at hp
  ·cases hp
  ·rename_i o Jq
   split at hp
   ·rename_i Pm l' h1 h2
    simp only[cT,List.cons.injEq] at hp
    obtain⟨rfl,rfl⟩:=hp
    obtain⟨kb,Sa,zt⟩:=gU h1
    have hs:∀ (k:Key) a,k.toNat∈ke ops o→aa k tm=some a→∃ v,fr.tmps[k.toNat]?=some v∧aD ρ μ a v:=fun k a _ hg=>hT.2 k a hg
    have hE:=Dp (P:=P) (nt:=nt) (o:=o) hM hs
    rw[kK]
    have go:∀ (ay:T AV) (tmps2:Array Value) (w2:World) (μ2:Mu) (G2:Key→Option ag) (H2:T ag) (aH:Key),step P (lone fr cs w)=.next (lone {fr with tmps:=tmps2,todo:=.inRegion ops r ::K} cs w2)→μ.le μ2→aP P ρ w0 μ2 G2 aH.toNat w2→HSub H2 G2→jQ ρ μ2 nt ay tmps2→Kept H H2 nx aH μ μ2 G G2→
      at7 P ρ orc nt w0 cs K ops fr w μ G H nx (iO orc l' ay H2 aH):=by
     intro ay tmps2 w2 μ2 G2 H2 aH dL hle hM2 hH2 hT2 hK2
     have ih:=Gv ho l' r {fr with tmps:=tmps2,todo:=.inRegion ops r ::K} w2 μ2 G2 H2 aH ay h2 hM2 hH2 hT2 hm rfl
     cases KH:iO orc l' ay H2 aH with
     |fin tm' h' nx'=>
      rw[KH] at ih
      obtain⟨dE,w',μ',G',s1,s2,s3,s4,s5,s6⟩:=ih
      exact⟨dE,w',μ',G',.head dL s1,Mu.le_trans hle s2,s3,s4,s5,hK2.trans s6⟩
     |ev rr ll tm' h' nx'=>
      rw[KH] at ih
      rcases ih with hb|⟨dE,w',μ',G',i',jY,Pm,ll',o',s1,s2,s3,s4,s5,s6,s7,s8,s9,s10,s11,s12,s13⟩
      ·exact .inl hb
      ·exact .inr ⟨dE,w',μ',G',i',jY,Pm,ll',o',.head dL s1,Mu.le_trans hle s2,s3,s4,s5,hK2.trans s6,s7,s8,s9,s10,s11,s12,s13⟩
    cases hw:cx Pm.guard tm with
    |none=>exact .inl ⟨_,rfl⟩
    |some b=>
     have mw:=ym Sa hs hw
     cases b with
     |false=>
      simp only[dw]
      have dL:=FG (P:=P) (cs:=cs) (w:=w) hm ht Jq mw
      rw[cB ht Jq] at dL
      exact go _ _ w μ G H nx dL μ.le_refl hM hH (hT.put zt (.tuple _ _ .nil)) (Kept.refl _ _ _ _)
     |true=>
      cases ha:aOp orc Pm.op tm H nx with
      |val a H2 aH=>
       simp only[dw]
       obtain⟨n,w2,μ2,G2,r1,r2,r3,r4,r5,r6⟩:=Rv hM hH ho kb hE ha
       have QQ:fr.roundOf=none∨ek o.op=false:=.inr (tX kb (by rw[ha];intro f l e;cases e) (by rw[ha];intro n e;cases e))
       cases n with
       |value v=>
        have dL:=Me (P:=P) (cs:=cs) hm ht Jq mw QQ r1
        rw[cB ht Jq] at dL
        exact go _ _ w2 μ2 G2 H2 aH dL r3 r4 r5 ((hT.mono r3).put zt r2) r6
       |skip=>
        have r2:a=.tuple []:=r2
        subst r2
        have dL:=anW (P:=P) (cs:=cs) hm ht Jq mw QQ r1
        rw[cB ht Jq] at dL
        exact go _ _ w2 μ2 G2 H2 aH dL r3 r4 r5 ((hT.mono r3).put zt (.tuple _ _ .nil)) r6
       |_=>exact r2.elim
      |bad n=>exact .inl ⟨_,rfl⟩
      |call f args=>exact .inr ⟨fr.tmps,w,μ,G,i,r,Pm,l',o,by rw[← ht];exact Steps.refl _ _,μ.le_refl,hM,hH,hT,Kept.refl _ _ _ _,rfl,S7,Jq,h1,mw,ha,by rintro(⟨_,_,_,e⟩|⟨_,e⟩)<;>cases e⟩
      |yld k args=>exact .inr ⟨fr.tmps,w,μ,G,i,r,Pm,l',o,by rw[← ht];exact Steps.refl _ _,μ.le_refl,hM,hH,hT,Kept.refl _ _ _ _,rfl,S7,Jq,h1,mw,ha,by rintro(⟨_,_,_,e⟩|⟨_,e⟩)<;>cases e⟩
      |pan v=>exact .inr ⟨fr.tmps,w,μ,G,i,r,Pm,l',o,by rw[← ht];exact Steps.refl _ _,μ.le_refl,hM,hH,hT,Kept.refl _ _ _ _,rfl,S7,Jq,h1,mw,ha,by rintro(⟨_,_,_,e⟩|⟨_,e⟩)<;>cases e⟩
      |dfr f args=>exact .inr ⟨fr.tmps,w,μ,G,i,r,Pm,l',o,by rw[← ht];exact Steps.refl _ _,μ.le_refl,hM,hH,hT,Kept.refl _ _ _ _,rfl,S7,Jq,h1,mw,ha,by rintro(⟨_,_,_,e⟩|⟨_,e⟩)<;>cases e⟩
      |recover=>exact .inr ⟨fr.tmps,w,μ,G,i,r,Pm,l',o,by rw[← ht];exact Steps.refl _ _,μ.le_refl,hM,hH,hT,Kept.refl _ _ _ _,rfl,S7,Jq,h1,mw,ha,by rintro(⟨_,_,_,e⟩|⟨_,e⟩)<;>cases e⟩
      |alt la=>exact .inr ⟨fr.tmps,w,μ,G,i,r,Pm,l',o,by rw[← ht];exact Steps.refl _ _,μ.le_refl,hM,hH,hT,Kept.refl _ _ _ _,rfl,S7,Jq,h1,mw,ha,by rintro(⟨_,_,_,e⟩|⟨_,e⟩)<;>cases e⟩
   ·cases hp
end
end Go.Sx
/-
 SX: simulation: regions that draw their order. No condition.
-/
namespace Go.Sx
open Go.RowKit
structure Ag(E:List Nat)(H H':T ag)(nx nx':Key)(μ μ':Mu)(G G':Key→Option ag):Prop where
 k:∀ b:Key,b.toNat∉E→aa b H=none→b.toNat<nx.toNat→μ' b=μ b∧G' b=G b∧aa b H'=none
 n:nx.toNat≤nx'.toNat
theorem Ag.refl(E:List Nat)(H:T ag)(nx:Key)(μ:Mu)(G:Key→Option ag):Ag E H H nx nx μ μ G G:=⟨fun _ _ h _=>⟨rfl,rfl,h⟩,fh _⟩
theorem Ag.trans{E E2:List Nat}{H1 H2 H3:T ag}{n1 n2 n3:Key}{m1 m2 m3:Mu}{G1 G2 G3:Key→Option ag}(a:Ag E H1 H2 n1 n2 m1 m2 G1 G2)(b:Ag E2 H2 H3 n2 n3 m2 m3 G2 G3)(hE:∀ x∈E2,x∈E∨n1.toNat≤x):Ag E H1 H3 n1 n3 m1 m3 G1 G3:=by
 refine⟨fun k hk hg hl=>?_,Nat.le_trans a.n b.n⟩
 obtain⟨a1,a2,a3⟩:=a.k k hk hg hl
 have Nv:k.toNat∉E2:=by
  intro h
  rcases hE _ h with h|h
  ·exact hk h
  ·omega
 obtain⟨b1,b2,b3⟩:=b.k k Nv a3 (JJ hl a.n)
 exact⟨b1.trans a1,b2.trans a2,b3⟩
theorem Kept.toE{H H':T ag}{nx nx':Key}{μ μ':Mu}{G G':Key→Option ag}(h:Kept H H' nx nx' μ μ' G G')(E:List Nat):Ag E H H' nx nx' μ μ' G G':=
 ⟨fun b _ hg hl=>⟨h.m b hl,h.g b hg hl,h.h b hg hl⟩,h.n⟩
section
variable{P:Program}{ρ:Nat→Int}{orc:hU}{nt:Nat}{ops:Array Oper}{pl:List J}{bf:List Nat}{w0:W0}{w:World}{μ μ':Mu}{G G':Key→Option ag}{H H':T ag}{nx nx':Key}{g:Gh}{Aq aFS:Nat→Prop}{ak pend':List (Nat×Key×ag)}{tm:T AV}{tmps:Array Value}{rest:List Nat}{fr:Frame}{cs:List Frame}{K:List Item}{i:Nat}
theorem fO.azj(S:fO P ρ orc nt ops pl bf μ G H nx g Aq ak tm tmps (i ::rest)){po:J}(rK:pl[i]?=some po)(hL:hasB g.L i=false)(hb:∀ j,j<ops.size→hasB (fc bf i) j=true→hasB g.L j=true)
  {o:Oper} (ho:ops[i]?=some o) {a:AV} {v:Value} (hv:aD ρ μ a v) :
  fO P ρ orc nt ops pl bf μ G H nx {L:=Gl g.L i,D:=fun j=>g.D j||j==i,a0:=g.a0,val:=vU g.val i (some a)} Aq ak (bu po.dst a tm) (DS o.dst v tmps) rest:=by
 obtain⟨hi,hDi,uq⟩:=S.ready
 obtain⟨o',Pm,KN,R9,DU⟩:=S.LZ.at hi
 rw[rK] at DU;cases DU
 rw[ho] at KN;cases KN
 obtain⟨kb,Sa,zt⟩:=gU R9
 have hdi:lQ ops i=o.dst:=by simp[lQ,ho]
 have aBt:∀ x,o.dst=some x→x<tmps.size:=by
  intro x hx
  rcases zt with⟨h,_⟩|⟨k,h,_,bO⟩
  ·rw[h] at hx;cases hx
  ·rw[h] at hx;cases hx;exact JJ bO S.sz
 have nv:=fun t=>anK (v:=v) t aBt
 have atA:(DS o.dst v tmps).size=tmps.size:=by
  cases o.dst<;>simp[DS]
 have VC:∀ j,((g.D j||j==i)=true)↔(g.D j=true∨j=i):=by intro j;simp
 have Jw:∀ j,hasB (Gl g.L i) j=true↔(hasB g.L j=true∨j=i):=by
  intro j;rw[Gx,Bool.or_eq_true,decide_eq_true_eq]
  exact⟨fun h=>h.imp id Eq.symm,fun h=>h.imp id Eq.symm⟩
 have hnb:∀ p,hasB g.L p=true→hasB (fc bf p) i=false:=by
  intro p hp
  cases h:hasB (fc bf p) i with
  |false=>rfl
  |true=>have:=S.lcl p hp i hi h;rw[hL] at this;cases this
 refine⟨S.LZ,S.ord.2.2.2,?_,?_,?_,?_,?_,?_,by rw[atA];exact S.sz,?_,?_,?_,?_,S.nk,S.ni⟩
 ·intro j oj hj hoj e he mB
  rcases (VC j).1 hj with h|h
  ·exact(VC _).2 (.inl (S.cl j oj h hoj e he mB))
  ·subst h
   exact(VC _).2 (.inl (S.ord.2.2.1 oj hoj e he mB))
 ·intro j hj
  rcases (VC j).1 hj with h|h
  ·exact(Jw j).2 (.inl (S.sub j h))
  ·exact(Jw j).2 (.inr h)
 ·intro j hj
  rcases (Jw j).1 hj with h|h
  ·exact S.FB j h
  ·subst h;exact hi
 ·intro j hj q hq hbq
  rcases (Jw j).1 hj with h|h
  ·exact(Jw q).2 (.inl (S.lcl j h q hq hbq))
  ·subst h;exact(Jw q).2 (.inl (hb q hq hbq))
 ·intro k j hj hd
  rcases zt with⟨e1,e2⟩|⟨kd,e1,e2,_⟩
  ·rcases (Jw j).1 hj with h|h
   ·have bU:j≠i:=by intro e;subst e;rw[hL] at h;cases h
    rw[e2]
    simp only[bu,vU,bU,if_false]
    exact S.a1 k j h hd
   ·subst h;rw[hdi,e1] at hd;cases hd
  ·rw[e2]
   simp only[bu]
   rcases (Jw j).1 hj with h|h
   ·have bU:j≠i:=by intro e;subst e;rw[hL] at h;cases h
    have hk:k≠kd:=by
     intro e;subst e
     exact bU (S.LZ.LK hd (hdi.trans e1))
    rw[bG _ _ _ _ hk]
    simp only[vU,bU,if_false]
    exact S.a1 k j h hd
   ·subst h
    rw[hdi,e1] at hd
    have hk:k=kd:=Key.toNat_inj (by simpa using hd.symm)
    subst hk
    rw[gTSm]
    simp[vU]
 ·intro k iI
  rcases zt with⟨e1,e2⟩|⟨kd,e1,e2,_⟩
  ·rw[e2]
   exact S.a2 k fun j hj=>iI j ((Jw j).2 (.inl hj))
  ·rw[e2]
   simp only[bu]
   have hk:k≠kd:=by
    intro e;subst e
    exact iI i ((Jw i).2 (.inr rfl)) (hdi.trans e1)
   rw[bG _ _ _ _ hk]
   exact S.a2 k fun j hj=>iI j ((Jw j).2 (.inl hj))
 ·intro k j b hj hjd hjv
  rw[nv]
  rcases (VC j).1 hj with h|h
  ·have bU:j≠i:=by intro e;subst e;rw[hDi] at h;cases h
   by_cases e:o.dst=some k.toNat
   ·exact absurd (S.LZ.LK (hdi.trans e) hjd).symm bU
   ·rw[if_neg e]
    exact S.c1 k j b h hjd (by simpa[vU,bU] using hjv)
  ·subst h
   rw[hdi] at hjd
   rw[if_pos hjd]
   have hjv:b=a:=by simpa[vU] using hjv.symm
   subst hjv
   exact⟨v,rfl,hv⟩
 ·intro k b iI ha
  rw[nv]
  have hni:o.dst≠some k.toNat:=by
   intro e
   exact iI i ((VC i).2 (.inr rfl)) (hdi.trans e)
  rw[if_neg hni]
  exact S.c2 k b (fun j hj=>iI j ((VC j).2 (.inl hj))) ha
 ·intro j hj hjD
  have hjD:(g.D j||j==i)=false:=hjD
  rw[Bool.or_eq_false_iff] at hjD
  have bU:j≠i:=by simpa using hjD.2
  have hjL:=((Jw j).1 hj).resolve_right bU
  exact(S.pd j hjL hjD.1).mz (hnb j hjL) bU (fun _ h=>h) (fun _ h=>.inl h)
 ·intro x hx
  obtain⟨p1,p2,p3,p4,p5⟩:=S.pe x hx
  have bU:x.1≠i:=by intro e;rw[e,hL] at p1;cases p1
  refine⟨(Jw _).2 (.inl p1),fun h=>p2 (((VC _).1 h).resolve_right bU),fun h=>p3 ?_,p4,p5⟩
  have h:(g.D x.1||x.1==i)=false:=h
  rw[Bool.or_eq_false_iff] at h
  exact h.1
theorem fO.Mf(S:fO P ρ orc nt ops pl bf μ G H nx g Aq ak tm tmps (i ::rest))(hL:hasB g.L i=false)(hb:∀ j,j<ops.size→hasB (fc bf i) j=true→hasB g.L j=true){o:Oper}(ho:ops[i]?=some o) :
  ∀ (k:Key) a,k.toNat∈ke ops o→aa k tm=some a→∃ v,tmps[k.toNat]?=some v∧aD ρ μ a v:=
 S.HK (S.au4 S.ready.1 hL hb) ho
theorem FV:∀ {p:List (Nat×Key×ag)} {h:T ag},HSub h G→(∀ x∈p,G x.2.1=some x.2.2)→HSub (cM p h) G
 | [],h,hs,_=>hs
 |x ::p,h,hs,hp=>by
  refine FV (p:=p) ?_ (fun y hy=>hp y (by simp[hy]))
  intro b B hb
  by_cases e:b=x.2.1
  ·subst e;rw[gTSm] at hb;cases hb;exact hp x (by simp)
  ·rw[bG _ _ _ _ e] at hb;exact hs b B hb
theorem wG:∀ {p:List (Nat×Key×ag)} {h:T ag} {b:Key},aa b h=none→(∀ x∈p,x.2.1.toNat≠b.toNat)→aa b (cM p h)=none
 | [],h,b,hb,_=>hb
 |x ::p,h,b,hb,hp=>by
  refine wG (p:=p) ?_ (fun y hy=>hp y (by simp[hy]))
  rw[bG _ _ _ _ (fun e=>hp x (by simp) (by rw[e]))]
  exact hb
end
end Go.Sx
