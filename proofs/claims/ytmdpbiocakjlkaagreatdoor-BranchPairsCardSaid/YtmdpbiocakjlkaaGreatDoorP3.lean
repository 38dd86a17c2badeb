/- A part of the proof. No condition. -/
import Derived.Test.YtmdpbiocakjlkaaGreatDoorP2
import Derived.Recover
import Derived.Laws.IdiomRangeMap
set_option linter.unusedSimpArgs false
set_option linter.unusedVariables false
set_option linter.unusedSectionVars false
namespace Go.Sx
open Go.RowKit
section
variable{P:Program}{fr:Frame}{cs:List Frame}{w w':World}{k:List Item}
def G1(fr:Frame)(cs:List Frame):Goroutine:={frame:=fr,callers:=cs,status:=.running,dying:=none}
theorem aiJ(hm:fr.mode=.run):stepG P true (G1 fr cs) w=stepG.exec P true true fr cs none w:=by
 simp[stepG,G1,hm]
theorem acK(hm:fr.mode≠.run):stepG P true (G1 fr cs) w=unwind P true fr cs none w:=by
 cases h:fr.mode with
 |run=>exact absurd h hm
 |returning=>simp[stepG,G1,h]
 |panicking c=>simp[stepG,G1,h]
theorem fH{ur:Frame}{IN:List Frame}(hm:fr.mode=.run)(h:(stepG.exec P true true fr cs none w).bare=.go (G1 ur IN) w'):step P (lone fr cs w)=.next (lone ur IN w'):=
 step_lone_go (by have:=aiJ (P:=P) (cs:=cs) (w:=w) hm;simp only[G1] at this h;rw[this];exact h)
theorem Wc{ur:Frame}{IN:List Frame}(hm:fr.mode≠.run)(h:(unwind P true fr cs none w).bare=.go (G1 ur IN) w'):step P (lone fr cs w)=.next (lone ur IN w'):=
 step_lone_go (by have:=acK (P:=P) (cs:=cs) (w:=w) hm;simp only[G1] at this h;rw[this];exact h)
theorem anB(hm:fr.mode=.run)(ht:fr.todo=.code .skip ::k):step P (lone fr cs w)=.next (lone {fr with todo:=k} cs w):=
 fH hm (by simp[stepG.exec,ht,G1])
theorem asx{a b:Code}(hm:fr.mode=.run)(ht:fr.todo=.code (.seq a b) ::k):step P (lone fr cs w)=.next (lone {fr with todo:=.code a ::.code b ::k} cs w):=
 fH hm (by simp[stepG.exec,ht,G1])
theorem ahp{c:Operand}{a b:Code}{t:Bool}(hm:fr.mode=.run)(ht:fr.todo=.code (.cond c a b) ::k)(hc:fr.eval c=.bool t) :
  step P (lone fr cs w)=.next (lone {fr with todo:=.code (if t then a else b) ::k} cs w):=
 fH hm (by simp[stepG.exec,ht,G1,hc])
theorem ak9{id:Nat}{c:Code}(hm:fr.mode=.run)(ht:fr.todo=.code (.block id c) ::k):step P (lone fr cs w)=.next (lone {fr with todo:=.code c ::.inBlock id ::k} cs w):=
 fH hm (by simp[stepG.exec,ht,G1])
theorem afU{id:Nat}(hm:fr.mode=.run)(ht:fr.todo=.inBlock id ::k):step P (lone fr cs w)=.next (lone {fr with todo:=k} cs w):=
 fH hm (by simp[stepG.exec,ht,G1])
theorem anC{c:Code}(hm:fr.mode=.run)(ht:fr.todo=.code (.loop c) ::k):step P (lone fr cs w)=.next (lone {fr with todo:=.code c ::.inLoop c ::k} cs w):=
 fH hm (by simp[stepG.exec,ht,G1])
theorem aiD{c:Code}(hm:fr.mode=.run)(ht:fr.todo=.inLoop c ::k):step P (lone fr cs w)=.next (lone {fr with todo:=.code c ::.inLoop c ::k} cs w):=
 fH hm (by simp[stepG.exec,ht,G1])
theorem anD{id:Nat}{k':List Item}(hm:fr.mode=.run)(ht:fr.todo=.code (.exit id) ::k)(he:exitTo id k=some k'):step P (lone fr cs w)=.next (lone {fr with todo:=k'} cs w):=
 fH hm (by simp[stepG.exec,ht,G1,he])
theorem aiK{id:Nat}{ops:Array Oper}(hm:fr.mode=.run)(ht:fr.todo=.code (.region id ops false) ::k) :
  step P (lone fr cs w)=.next (lone {fr with todo:=.inRegion ops (List.range ops.size) ::k} cs w):=
 fH hm (by simp[stepG.exec,ht,G1])
theorem anE{id:Nat}{ops:Array Oper}(hm:fr.mode=.run)(ht:fr.todo=.code (.region id ops true) ::k) :
  ∃ t,step P (lone fr cs w)=.next (lone {fr with todo:=.inRegion ops (Region.schedule (P.follows .mixedOrders) ops t) ::k} cs {w with drawn:=w.drawn+1}):=
 ⟨w.tape w.drawn (.order fr.fn id),fH hm (by simp[stepG.exec,ht,G1,choose,Sem.run,Question.forced,Question.cut])⟩
theorem SV{ops:Array Oper}(hm:fr.mode=.run)(ht:fr.todo=.inRegion ops [] ::k):step P (lone fr cs w)=.next (lone {fr with todo:=k} cs w):=
 fH hm (by simp[stepG.exec,ht,G1])
theorem asy(hm:fr.mode=.run)(ht:fr.todo=[])(hr:fr.roundOf=none):step P (lone fr cs w)=.next (lone {fr with mode:=.returning} cs w):=
 fH hm (by simp[stepG.exec,ht,G1,hr])
theorem asz(hm:fr.mode=.run)(ht:fr.todo=.code .ret ::k)(hr:fr.roundOf=none):step P (lone fr cs w)=.next (lone {fr with mode:=.returning} cs w):=
 fH hm (by simp[stepG.exec,ht,G1,hr])
variable{ops:Array Oper}{i:Nat}{rest:List Nat}{o:Oper}
theorem TX(hm:fr.mode=.run)(ht:fr.todo=.inRegion ops (i ::rest) ::k)(ho:ops[i]?=some o)(hw:Region.wanted o (yielded ops fr.tmps)=false) :
  step P (lone fr cs w)=.next (lone (fr.finish undef) cs w):=
 fH hm (by simp[stepG.exec,ht,G1,ho,hw])
def fI:Op→Bool
 |.defer _=>true
 |_=>false
theorem HQ(ht:fr.todo=.inRegion ops (i ::rest) ::k)(ho:ops[i]?=some o)(hw:Region.wanted o (yielded ops fr.tmps)=true)(hd:fr.roundOf=none∨fI o.op=false) :
  stepG.exec P true true fr cs none w=stepG.apply P true fr cs none (Go.execOp fr.eval o) w:=by
 simp only[stepG.exec,ht,ho,Option.map_some,Option.getD_some,hw,if_true,stepG.oper,Frame.oper?]
 cases hr:fr.roundOf with
 |none=>rfl
 |some l=>
  rw[hr] at hd
  have hd:fI o.op=false:=hd.resolve_left (by simp)
  cases GG:o.op<;>first|rfl|(rw[GG] at hd;cases hd)
theorem Yt{v:Value}(hm:fr.mode=.run)(ht:fr.todo=.inRegion ops (i ::rest) ::k)(ho:ops[i]?=some o)(hw:Region.wanted o (yielded ops fr.tmps)=true)(hd:fr.roundOf=none∨fI o.op=false)
  (h:(Go.execOp fr.eval o).run P w=.ok (.value v) w'):step P (lone fr cs w)=.next (lone (fr.finish v) cs w'):=
 fH hm (by rw[HQ ht ho hw hd];simp[stepG.apply,h,G1])
theorem ahq(hm:fr.mode=.run)(ht:fr.todo=.inRegion ops (i ::rest) ::k)(ho:ops[i]?=some o)(hw:Region.wanted o (yielded ops fr.tmps)=true)(hd:fr.roundOf=none∨fI o.op=false)
  (h:(Go.execOp fr.eval o).run P w=.ok .skip w'):step P (lone fr cs w)=.next (lone (fr.finish undef) cs w'):=
 fH hm (by rw[HQ ht ho hw hd];simp[stepG.apply,h,G1])
theorem ajj{f:FuncId}{args:Array Value}(hm:fr.mode=.run)(ht:fr.todo=.inRegion ops (i ::rest) ::k)(ho:ops[i]?=some o)(hw:Region.wanted o (yielded ops fr.tmps)=true)(hd:fr.roundOf=none∨fI o.op=false)
  (h:(Go.execOp fr.eval o).run P w=.ok (.enter f args) w'):step P (lone fr cs w)=.next (lone (Frame.enter P f args .normal) (fr ::cs) w'):=
 fH hm (by rw[HQ ht ho hw hd];simp[stepG.apply,h,G1,ht])
theorem ajk{l:Nat}{f:FuncId}{tmps:Array Value}{as bd:Code}(hm:fr.mode=.run)(ht:fr.todo=.inRegion ops (i ::rest) ::k)(ho:ops[i]?=some o)(hw:Region.wanted o (yielded ops fr.tmps)=true)(hd:fr.roundOf=none∨fI o.op=false)
  (h:(Go.execOp fr.eval o).run P w=.ok (.round l f tmps as bd) w'):step P (lone fr cs w)=.next (lone (Frame.round l f tmps as bd .normal) (fr ::cs) w'):=
 fH hm (by rw[HQ ht ho hw hd];simp[stepG.apply,h,G1])
theorem ajl{v:Value}(hm:fr.mode=.run)(ht:fr.todo=.inRegion ops (i ::rest) ::k)(ho:ops[i]?=some o)(hw:Region.wanted o (yielded ops fr.tmps)=true)(hd:fr.roundOf=none∨fI o.op=false)
  (h:(Go.execOp fr.eval o).run P w=.halt (.panic v) w'):step P (lone fr cs w)=.next (lone {fr with mode:=.panicking [{v,recovered:=false}]} cs w'):=
 fH hm (by rw[HQ ht ho hw hd];simp[stepG.apply,h,G1,Frame.raise,hm])
theorem ajm{d:Deferred}(hm:fr.mode=.run)(ht:fr.todo=.inRegion ops (i ::rest) ::k)(ho:ops[i]?=some o)(hw:Region.wanted o (yielded ops fr.tmps)=true)(hd:fr.roundOf=none∨fI o.op=false)
  (h:(Go.execOp fr.eval o).run P w=.ok (.defer d) w'):step P (lone fr cs w)=.next (lone ({fr with defers:=d ::fr.defers}.finish undef) cs w'):=
 fH hm (by rw[HQ ht ho hw hd];simp[stepG.apply,h,G1])
theorem Xa{v:Value}{IN:List Frame}(hm:fr.mode=.run)(ht:fr.todo=.inRegion ops (i ::rest) ::k)(ho:ops[i]?=some o)(hw:Region.wanted o (yielded ops fr.tmps)=true)(hr:fr.roundOf=none)
  (h:(Go.execOp fr.eval o).run P w=.ok .recover w') (ua:tryRecover fr cs=some (v,IN)):step P (lone fr cs w)=.next (lone (fr.finish v) IN w'):=
 fH hm (by rw[HQ ht ho hw (.inl hr)];simp[stepG.apply,h,G1,hr,ua])
theorem Xb(hm:fr.mode=.run)(ht:fr.todo=.inRegion ops (i ::rest) ::k)(ho:ops[i]?=some o)(hw:Region.wanted o (yielded ops fr.tmps)=true)(hr:fr.roundOf=none)
  (h:(Go.execOp fr.eval o).run P w=.ok .recover w') (ua:tryRecover fr cs=none):step P (lone fr cs w)=.next (lone (fr.finish .nilIface) cs w'):=
 fH hm (by rw[HQ ht ho hw (.inl hr)];simp[stepG.apply,h,G1,hr,ua])
end
end Go.Sx
/-
 SX: the model's own steps: returns, panics, deferred calls, range over functions. No condition.
-/
namespace Go.Sx
open Go.RowKit
section
variable{P:Program}{fr c:Frame}{cs:List Frame}{w w':World}{k:List Item}{fn:Func}
theorem aiE{v:Value}(hm:fr.mode=.returning)(hd:fr.defers=[])(hk:fr.kind=.normal)(hf:P.funcs[fr.fn]?=some fn)(hr:(results fn fr.tmps).run P w=.ok v w) :
  step P (lone fr (c ::cs) w)=.next (lone (c.finish v) cs w):=
 Wc (by simp[hm]) (by simp[unwind,hd,hm,hf,hr,doReturn,hk,G1])
theorem TS{v:Value}(hm:fr.mode=.returning)(hd:fr.defers=[])(hk:fr.kind=.deferred)(hf:P.funcs[fr.fn]?=some fn)(hr:(results fn fr.tmps).run P w=.ok v w) :
  step P (lone fr (c ::cs) w)=.next (lone {c with mode:=settle c.mode} cs w):=
 step_going_returned (fr:=fr) hk ⟨hm,hd,fn,hf,hr⟩
theorem ad7{chain:List PanicEntry}(hm:fr.mode=.panicking chain)(hd:fr.defers=[])(hf:P.funcs[fr.fn]?=some fn) :
  step P (lone fr (c ::cs) w)=.next (lone (c.raise chain) cs w):=
 Wc (by simp[hm]) (by simp[unwind,hd,hm,Frame.catches,hf,G1])
theorem ad6{d:Deferred}{ds:List Deferred}{fv:Fn}{cap args:Array Value}{f:FuncId}(hm:fr.mode≠.run)(hd:fr.defers=d ::ds)(ht:d.target=.fn fv cap)
  (hi:(invoke d.target d.args).run P w=.ok (.enter f args) w):step P (lone fr cs w)=.next (lone (Frame.enter P f args .deferred) ({fr with defers:=ds} ::cs) w):=
 step_defer hm hd ht hi
theorem acB{b:Nat}{ds ds':List Deferred}(hm:fr.mode≠.run)(hd:fr.defers=⟨.collected b,#[]⟩ ::ds)(h:(Instr.takeDeferred b).run P w=.ok ds' w') :
  step P (lone fr cs w)=.next (lone {fr with defers:=ds'++ds} cs w'):=
 Wc hm (by simp[unwind,hd,h,G1])
theorem ZC{l:Nat}{v:Value}(hm:fr.mode=.run)(ht:fr.todo=[])(hr:fr.roundOf=some l)(hk:fr.kind=.normal)(h:(Instr.endRound l none).run P w=.ok v w') :
  step P (lone fr (c ::cs) w)=.next (lone (c.finish v) cs w'):=
 fH hm (by simp[stepG.exec,ht,hr,h,doReturn,hk,G1])
theorem acL{l:Nat}{v:Value}(hm:fr.mode=.run)(ht:fr.todo=.code .ret ::k)(hr:fr.roundOf=some l)(hk:fr.kind=.normal)(h:(Instr.endRound l (some .ret)).run P w=.ok v w') :
  step P (lone fr (c ::cs) w)=.next (lone (c.finish v) cs w'):=
 fH hm (by simp[stepG.exec,ht,hr,h,doReturn,hk,G1])
theorem aaG{l id:Nat}{v:Value}(hm:fr.mode=.run)(ht:fr.todo=.code (.exit id) ::k)(he:exitTo id k=none)(hr:fr.roundOf=some l)(hk:fr.kind=.normal)(h:(Instr.endRound l (some (.exit id))).run P w=.ok v w') :
  step P (lone fr (c ::cs) w)=.next (lone (c.finish v) cs w'):=
 fH hm (by simp[stepG.exec,ht,he,hr,h,doReturn,hk,G1])
theorem aay{l:Nat}(hm:fr.mode=.run)(ht:fr.todo=.beginRound ::k)(hr:fr.roundOf=some l)(h:(Instr.beginRound l).run P w=.ok () w') :
  step P (lone fr cs w)=.next (lone {fr with todo:=k} cs w'):=
 fH hm (by simp[stepG.exec,ht,hr,stepG.apply,h,G1,Frame.finish])
theorem akE{l:Nat}{j:Option Code}(hm:fr.mode=.run)(ht:fr.todo=.endRangeFunc l ::k)(h:(Instr.endLoop l).run P w=.ok j w') :
  step P (lone fr cs w)=.next (lone {fr with todo:=(j.map Item.code).toList++k} cs w'):=
 fH hm (by simp[stepG.exec,ht,h,G1])
theorem anJ (ev : Operand → Value) {f : Operand} {g : FuncId} {first cap : Array Value} (hev : ev f = .func (.func g) first cap) {y : Value} (hy : ev (.const y) = y) {fn' : Func} (hf : P.funcs[g]? = some fn') (hb : fn'.body.isSome = true) (hn : fn'.name ≠ "runtime.NumGoroutine") :
  (do let d ← resolve ev {callee:=.value f,args:=#[.const y],argTypes:=#[]} 0;invoke d.target d.args:Sem Next).run P w=.ok (.enter g (first ++ #[y]++cap)) w:=by
 simp[resolve,hev,Deferred.ofValue,invoke,hy,vN hf hb hn]
theorem acM{f:Operand}{params:Array Tmp}{as bd:Code}{l:Nat}{mk:List Deferred}{w1:World}{g:FuncId}{first cap:Array Value}{fn':Func}(hm:fr.mode=.run)(ht:fr.todo=.code (.rangeFunc f params as bd) ::k)(hr:fr.roundOf=none)
  (h:(Instr.enterLoop fr.fn fr.tmps params as bd none).run P w=.ok (l,mk) w1) (hev:fr.eval f=.func (.func g) first cap)
  (hf : P.funcs[g]? = some fn') (hb : fn'.body.isSome = true) (hn : fn'.name ≠ "runtime.NumGoroutine") :
  step P (lone fr cs w)=.next (lone (Frame.enter P g (first ++ #[.func (.yield l) #[] #[]]++cap) .normal) ({fr with todo:=.inRangeFunc l ::k,defers:=mk++fr.defers} ::cs) w1):=by
 obtain⟨fn0,aps,aKI,aht,aKJ,apt,aGB⟩:=fr
 simp only at hm ht hr h hev
 subst hm ht hr
 refine fH rfl ?_
 have aGC:({fn:=fn0,tmps:=aps,todo:=Item.inRangeFunc l ::k,defers:=mk++aht,mode:=.run,kind:=apt}:Frame).eval f=.func (.func g) first cap:=by
  rw[← hev];cases f<;>rfl
 have aaj:=anJ (w:=w1) ({fn:=fn0,tmps:=aps,todo:=Item.inRangeFunc l ::k,defers:=mk++aht,mode:=.run,kind:=apt}:Frame).eval aGC (y:=.func (.yield l) #[] #[]) rfl hf hb hn
 simp only[stepG.exec,Sem.runT_eq,h,GStep.bare_after]
 simp only[stepG.apply,Sem.runT_eq,aaj,GStep.bare_after]
 simp[G1]
end
end Go.Sx
/-
 SX: a region that draws its order: what is known while it is under way. No condition.
-/
namespace Go.Sx
open Go.RowKit
structure Reg(P:Program)(nt:Nat)(ops:Array Oper)(pl:List J)(bf:List Nat):Prop where
 vL:tC P nt ops (List.range ops.size)=some pl
 aoy:XM ops bf=true
 aQ:abH ops bf=true
section
variable{P:Program}{ρ:Nat→Int}{nt:Nat}{ops:Array Oper}{pl:List J}{bf:List Nat}
theorem Tr:∀ {l:List Nat} {pl:List J},tC P nt ops l=some pl→pl.length=l.length∧∀ (q i:Nat),l[q]?=some i→∃ o po,ops[i]?=some o∧Wm P nt ops o=some po∧pl[q]?=some po
 | [],pl,h=>by simp only[tC,dO] at h;subst h;exact⟨rfl,fun q i hq=>by simp at hq⟩
 |j ::l,pl,h=>by
  simp only[tC] at h
  split at h
  ·cases h
  ·rename_i o ho
   split at h
   ·rename_i a r h1 h2
    cases h
    obtain⟨e1,e2⟩:=Tr h2
    refine⟨by simp[e1],fun q i hq=>?_⟩
    cases q with
    |zero=>simp at hq;subst hq;exact⟨o,a,ho,h1,by simp⟩
    |succ q=>simpa using e2 q i (by simpa using hq)
   ·cases h
theorem Reg.at(R:Reg P nt ops pl bf){i:Nat}(hi:i<ops.size):∃ o po,ops[i]?=some o∧Wm P nt ops o=some po∧pl[i]?=some po:=by
 obtain⟨_,h⟩:=Tr R.vL
 exact h i i (by simp[hi])
theorem Reg.at'(R:Reg P nt ops pl bf){i:Nat}{po:J}(h:pl[i]?=some po):i<ops.size:=by
 obtain⟨h1,_⟩:=Tr R.vL
 rcases Ts i ops.size with h'|h'
 ·exact h'
 ·rw[zqo (by rw[h1];simpa using h')] at h;cases h
theorem Reg.auQ(R:Reg P nt ops pl bf){i:Nat}{o:Oper}(ho:ops[i]?=some o){e:Edge}(he:e∈o.after.toList)(hb:Region.binds .any e=true):e.on<i∧hasB (iY bf i) e.on=true:=by
 have hi:i<ops.size:=by
  rcases Ts i ops.size with h'|h'
  ·exact h'
  ·rw[zqj h'] at ho;cases ho
 have h:=R.aoy
 unfold XM at h
 rw[mi] at h
 have h:=h i (by simpa using hi)
 rw[ho] at h
 simp only[Ad,mi] at h
 have h:=h.1 e he
 simp only[hb,Bool.not_true,Bool.false_or,Ad,bltN_eq,decide_eq_true_eq] at h
 exact h
theorem Reg.down(R:Reg P nt ops pl bf):VD ops:=fun _ _ ho _ he hb=>(R.auQ ho he hb).1
theorem Reg.pred(R:Reg P nt ops pl bf){i:Nat}{o:Oper}(ho:ops[i]?=some o){j:Nat}(hj:j<ops.size)(hb:hasB (iY bf i) j=true) :
  ∃ e∈o.after.toList,Region.binds .any e=true∧(e.on=j∨hasB (iY bf e.on) j=true):=by
 have hi:i<ops.size:=by
  rcases Ts i ops.size with h'|h'
  ·exact h'
  ·rw[zqj h'] at ho;cases ho
 have h:=R.aoy
 unfold XM at h
 rw[mi] at h
 have h:=h i (by simpa using hi)
 rw[ho] at h
 simp only[Ad,mi] at h
 have h:=h.2 j (by simpa using hj)
 simp only[hb,Bool.not_true,Bool.false_or,List.any_eq_true,Ad,Bool.or_eq_true,beqN_eq,decide_eq_true_eq] at h
 exact h
def aju(ops:Array Oper)(D:Nat→Bool):Prop:=∀ (i:Nat) (o:Oper),D i=true→ops[i]?=some o→∀ e∈o.after.toList,Region.binds .any e=true→D e.on=true
theorem Reg.closed(R:Reg P nt ops pl bf){D:Nat→Bool}(hD:aju ops D):∀ (i:Nat) (o:Oper),ops[i]?=some o→(∀ e∈o.after.toList,Region.binds .any e=true→D e.on=true)→∀ j,j<ops.size→hasB (iY bf i) j=true→D j=true:=by
 intro i
 induction i using Nat.strongRecOn with
 |_ i ih=>
  intro o ho hp j hj hb
  obtain⟨e,he,heb,hor⟩:=R.pred ho hj hb
  have aM:=(R.auQ ho he heb).1
  have hi:i<ops.size:=by
   rcases Ts i ops.size with h'|h'
   ·exact h'
   ·rw[zqj h'] at ho;cases ho
  rcases hor with h|h
  ·rw[← h];exact hp e he heb
  ·have ho':ops[e.on]?=some ops[e.on]:=by
    have:e.on<ops.size:=by omega
    simp[this]
   exact ih e.on aM _ ho' (fun e' he' kO=>hD e.on _ (hp e he heb) ho' e' he' kO) j hj h
theorem Reg.slot(R:Reg P nt ops pl bf){i j t:Nat}{o:Oper}(ho:ops[i]?=some o)(hj:tD ops j=some t) :
  (i=j→t∉ra ops o)∧(i≠j→o.dst≠some t∧(t∈ra ops o→hasB (iY bf i) j=true∨hasB (iY bf j) i=true)):=by
 have hi:i<ops.size:=by
  rcases Ts i ops.size with h'|h'
  ·exact h'
  ·rw[zqj h'] at ho;cases ho
 have RX:j<ops.size:=by
  rcases Ts j ops.size with h'|h'
  ·exact h'
  ·simp[tD,zqj h'] at hj
 have h:=R.aQ
 unfold abH at h
 rw[mi] at h
 have h:=h i (by simpa using hi)
 rw[ho] at h
 simp only[mi] at h
 have h:=h j (by simpa using RX)
 rw[hj] at h
 simp only[beqN_eq] at h
 constructor
 ·rintro rfl
  simpa using h
 ·intro eM
  simp only[eM,decide_false,cond_false,Ad,Bool.not_eq_true',Bool.or_eq_true] at h
  refine⟨by simpa using h.1,fun hm=>?_⟩
  have h2:=h.2
  have hc:(ra ops o).contains t=true:=by simpa using hm
  rw[hc] at h2
  simpa using h2
theorem afa{j t:Nat}(hj:tD ops j=some t):∃ o,ops[j]?=some o∧o.dst=some t:=by
 unfold tD at hj
 cases h:ops[j]? with
 |none=>rw[h] at hj;cases hj
 |some o=>rw[h] at hj;exact⟨o,rfl,by simpa using hj⟩
theorem Reg.XS(R:Reg P nt ops pl bf){i j t:Nat}(hi:tD ops i=some t)(hj:tD ops j=some t):i=j:=by
 rcases Nat.decEq i j with eM|h
 ·obtain⟨o,ho,hd⟩:=afa hi
  exact absurd hd ((R.slot ho hj).2 eM).1
 ·exact h
end
theorem Un(m i j:Nat):hasB (Uc m i) j=(hasB m j||decide (i=j)):=by
 unfold hasB Uc
 rw[Nat.testBit_or,Nat.testBit_two_pow]
theorem Rm(j:Nat):hasB 0 j=false:=by simp[hasB]
theorem Rn{n a b:Nat}:aeY n a b=true↔∀ j,j<n→hasB a j=true→hasB b j=true:=by
 unfold aeY
 rw[mi]
 constructor
 ·intro h j hj ha
  have:=h j (by simpa using hj)
  simpa[ha] using this
 ·intro h j hj
  have hj:j<n:=by simpa using hj
  cases ha:hasB a j with
  |false=>rfl
  |true=>simpa using h j hj ha
end Go.Sx
/-
 SX: a region that draws its order: an operation that the machine has evaluated is carried out by the model. No condition.
-/
namespace Go.Sx
open Go.RowKit
theorem vw{nt i:Nat}{k:Key}(h:RW nt i=some k):k.toNat=i∧i<nt:=by
 unfold RW at h
 replace h:=bj h
 obtain⟨hc,h⟩:=h
 simp only[dO] at h
 subst h
 simp only[Ad,bltN_eq,decide_eq_true_eq] at hc
 exact⟨yB hc.2,hc.1⟩
theorem ma{P:Program}{nt:Nat}{ops:Array Oper}{o:Oper}{po:J}(h:Wm P nt ops o=some po) :
  lW P nt o=some po.op∧Yj nt ops o.guard=some po.guard∧((o.dst=none∧po.dst=none)∨∃ k,o.dst=some k.toNat∧po.dst=some k∧k.toNat<nt):=by
 unfold Wm at h
 split at h
 ·rename_i op g h1 h2
  split at h
  ·rename_i hd
   cases h
   exact⟨h1,h2,.inl ⟨hd,rfl⟩⟩
  ·rename_i d hd
   split at h
   ·rename_i k hk
    cases h
    obtain⟨e,aM⟩:=vw hk
    exact⟨h1,h2,.inr ⟨k,by rw[e];exact hd,rfl,by omega⟩⟩
   ·cases h
 ·cases h
noncomputable def ew(p:List (Nat×Key×ab))(h:T ab):T ab:=p.foldl (fun h x=>aK x.2.1 (some x.2.2) h) h
theorem Q7{R:Type}:∀ (p:List (Nat×Key×ab)) (h:T ab) (c:T ab→R),OW p h c=c (ew p h)
 | [],h,c=>rfl
 |x ::p,h,c=>by
  show Gs x.2.1 (some x.2.2) h (fun h=>OW p h c)=_
  rw[sTCe,Q7 p]
  rfl
theorem Gi{R:Type}(l:List Nat):∀ (p:List (Nat×Key×ab)) (h:T ab) (c:List (Nat×Key×ab)→T ab→R),Ou l p h c=c (p.filter fun x=>!(memN x.1 l)) (ew (p.filter fun x=>memN x.1 l) h)
 | [],h,c=>rfl
 |x ::p,h,c=>by
  show(bif memN x.1 l then Gs x.2.1 (some x.2.2) h (fun h=>Ou l p h c) else Ou l p h fun p h=>c (x ::p) h)=_
  cases hm:memN x.1 l with
  |true=>
   simp only[cond_true,sTCe,Gi l p,List.filter_cons,hm,Bool.not_true,Yz,if_false,if_true]
   rfl
  |false=>
   simp only[cond_false,Gi l p,List.filter_cons,hm,Bool.not_false,Yz,if_false,if_true]
theorem Vh{i:Nat}:∀ {l:List Nat},memN i l=true→i∈l
 | [],h=>by cases h
 |j ::l,h=>by
  simp only[memN] at h
  cases hb:Nat.beq i j with
  |true=>have:=yB hb;simp[this]
  |false=>rw[hb] at h;exact List.mem_cons_of_mem _ (Vh h)
theorem ZY:∀ {p:List (Nat×Key×ab)} {h:T ab} {b:Key} {B:ab},aa b (ew p h)=some B→aa b h=some B∨∃ x∈p,x.2.1=b∧x.2.2=B
 | [],_,_,_,e=>.inl e
 |x ::p,h,b,B,e=>by
  rcases ZY (p:=p) e with h1|⟨y,h1,h2⟩
  ·by_cases hb:b=x.2.1
   ·subst hb;rw[gTSm] at h1;cases h1;exact .inr ⟨x,by simp,rfl,rfl⟩
   ·rw[bU _ _ _ _ hb] at h1;exact .inl h1
  ·exact .inr ⟨y,List.mem_cons_of_mem _ h1,h2⟩
theorem aiV{l:List Nat}{an:List (Nat×Key×ab)}{h:T ab}{b:Key}{B:ab}(e:aa b (Ey l an h)=some B):aa b h=some B∨∃ j,(j,b,B)∈an∧j∈l:=by
 unfold Ey at e
 split at e
 ·exact .inl e
 ·rw[Gi] at e
  rcases ZY e with h1|⟨⟨j,k,B'⟩,h1,h2,h3⟩
  ·exact .inl h1
  ·obtain⟨h4,h5⟩:=List.mem_filter.1 h1
   simp only at h2 h3
   subst h2 h3
   exact .inr ⟨j,h4,Vh h5⟩
theorem aeE{bf:List Nat}:∀ {mN:List (Nat×List Nat)},IA bf mN=true→∀ i j,j∈NR i mN→hasB (iY bf i) j=true
 | [],_,i,j,h=>by cases h
 |(q,l) ::r,ha,i,j,h=>by
  simp only[IA,Ad,mi] at ha
  simp only[NR] at h
  cases hb:Nat.beq i q with
  |true=>rw[hb] at h;have:=yB hb;subst this;exact ha.1 j h
  |false=>rw[hb] at h;exact aeE ha.2 i j h
def VOk(bf:List Nat)(H:T ab)(an:List (Nat×Key×ab))(i:Nat)(V:T ab):Prop:=∀ b B,aa b V=some B→aa b H=some B∨∃ j,(j,b,B)∈an∧hasB (iY bf i) j=true
theorem VOk.refl(bf:List Nat)(H:T ab)(an:List (Nat×Key×ab))(i:Nat):VOk bf H an i H:=fun _ _ h=>.inl h
theorem VOk.view{bf:List Nat}{mN:List (Nat×List Nat)}(ha:IA bf mN=true)(H:T ab)(an:List (Nat×Key×ab))(i:Nat):VOk bf H an i (Ey (NR i mN) an H):=by
 intro b B e
 rcases aiV e with h|⟨j,h1,h2⟩
 ·exact .inl h
 ·exact .inr ⟨j,h1,aeE ha i j h2⟩
structure Gh where
 L:Nat
 D:Nat→Bool
 a0:Key→Option AV
 val:Nat→Option AV
section
variable(P:Program)(ρ:Nat→Int)(orc:pF)(nt:Nat)(ops:Array Oper)(pl:List J)(bf:List Nat)
def ac3(g:Gh)(i:Nat)(k:Key)(a:AV):Prop:=
 (∃ j,tD ops j=some k.toNat∧hasB (iY bf i) j=true∧g.val j=some a)∨((∀ j,tD ops j=some k.toNat→hasB (iY bf j) i=true)∧g.a0 k=some a)
def aee(g:Gh)(i:Nat)(vu:T AV):Prop:=∀ o,ops[i]?=some o→∀ (k:Key) a,k.toNat∈ra ops o→aa k vu=some a→ac3 ops bf g i k a
inductive Ra(H:T ab)(g:Gh)(an:List (Nat×Key×ab))(SS:Nat→Prop)(i:Nat):Prop
 |skip (po:J) (vu:T AV) (h1:pl[i]?=some po) (h2:aee ops bf g i vu) (h3:dm po.guard vu=some false) (h4:g.val i=some (.tuple [])) (h5:∀ x∈an,x.1≠i):Ra H g an SS i
 |light (po:J) (vu:T AV) (v:AV) (h1:pl[i]?=some po) (h2:aee ops bf g i vu) (h3:dm po.guard vu=some true) (hk:yv pl i=0) (h4:¬ SS i→∃ V,lightOp orc po.op vu V=some v∧VOk bf H an i V) (h5:g.val i=some v)
   (h6:∀ x∈an,x.1≠i):Ra H g an SS i
 |alloc (po:J) (vu:T AV) (f:Key→AV) (B:ab) (k:Key) (h1:pl[i]?=some po) (h2:aee ops bf g i vu) (h3:dm po.guard vu=some true) (hk:yv pl i=1) (h4:allocOp po.op vu=some (f,B))
   (h5:g.val i=some (f k)) (h6:(i,k,B)∈an):Ra H g an SS i
structure lg(μ:Mu)(G:Key→Option ab)(H:T ab)(nx:Key)(g:Gh)(SS:Nat→Prop)(an:List (Nat×Key×ab))(tm:T AV)(tmps:Array Value)(rest:List Nat):Prop where
 Zv:Reg P nt ops pl bf
 ord:XD ops g.D rest
 cl:aju ops g.D
 sub:∀ i,g.D i=true→hasB g.L i=true
 UZ:∀ i,hasB g.L i=true→i<ops.size
 lcl:∀ i,hasB g.L i=true→∀ j,j<ops.size→hasB (iY bf i) j=true→hasB g.L j=true
 a1:∀ (k:Key) j,hasB g.L j=true→tD ops j=some k.toNat→aa k tm=g.val j
 a2:∀ (k:Key),(∀ j,hasB g.L j=true→tD ops j≠some k.toNat)→aa k tm=g.a0 k
 sz:nt≤tmps.size
 c1:∀ (k:Key) j a,g.D j=true→tD ops j=some k.toNat→g.val j=some a→∃ v,tmps[k.toNat]?=some v∧bn ρ μ a v
 c2:∀ (k:Key) a,(∀ j,g.D j=true→tD ops j≠some k.toNat)→g.a0 k=some a→∃ v,tmps[k.toNat]?=some v∧bn ρ μ a v
 pd:∀ i,hasB g.L i=true→g.D i=false→Ra orc ops pl bf H g an SS i
 pe:∀ x∈an,hasB g.L x.1=true∧(g.D x.1=true→G x.2.1=some x.2.2)∧(g.D x.1=false→μ x.2.1=none∧G x.2.1=none)∧aa x.2.1 H=none∧x.2.1.toNat<nx.toNat
 nk:(an.map (·.2.1.toNat)).Nodup
 ni:(an.map (·.1)).Nodup
end
section
variable{P:Program}{ρ:Nat→Int}{orc:pF}{nt:Nat}{ops:Array Oper}{pl:List J}{bf:List Nat}{w0:W0}{w:World}{μ:Mu}{G:Key→Option ab}{H:T ab}{nx:Key}{g:Gh}{SS:Nat→Prop}{an:List (Nat×Key×ab)}{tm:T AV}{rest:List Nat}{fr:Frame}{cs:List Frame}{K:List Item}
theorem ahO(hM:bG P ρ w0 μ G nx.toNat w){x:Operand}{px:PX}{a:AV}{vu:T AV}(hp:pX P nt x=some px)(ha:px.at vu=some a)
  (ht:∀ t k,x=.tmp t→k.toNat=t→aa k vu=some a→∃ v,fr.tmps[t]?=some v∧bn ρ μ a v):bn ρ μ a (fr.eval x):=by
 cases x with
 |tmp t=>
  simp only[pX] at hp
  split at hp
  ·rename_i k hk
   cases hp
   obtain⟨v,hv,hr⟩:=ht t k rfl (vw hk).1 ha
   have:fr.eval (.tmp t)=v:=by simp[Frame.eval,Array.getD_eq_getD_getElem?,hv]
   rw[this];exact hr
  ·cases hp
 |const v=>
  simp only[pX] at hp
  split at hp
  ·rename_i b hb
   cases hp
   simp only[PX.at,dO] at ha;subst ha
   exact kY _ _ _ hb
  ·cases hp
 |global gl=>
  simp only[pX] at hp
  split at hp
  ·rename_i k hk
   cases hp
   simp only[PX.at,dO] at ha;subst ha
   obtain⟨e,aM⟩:=vw hk
   obtain⟨ext,he⟩:=hM.Xk k (by omega)
   exact .ptr _ _ _ _ he (by simp[e])
  ·cases hp
 |func f=>
  simp only[pX,dO] at hp;subst hp
  simp only[PX.at,dO] at ha;subst ha
  exact .fn _ _ _ _ _ .nil .nil
theorem Ri(hM:bG P ρ w0 μ G nx.toNat w){o:Oper}{vu:T AV}(ht:∀ (k:Key) a,k.toNat∈ra ops o→aa k vu=some a→∃ v,fr.tmps[k.toNat]?=some v∧bn ρ μ a v) :
  Dp P ρ μ nt o.op.operands.toList vu fr.eval:=by
 intro x hx px a hp ha
 refine ahO hM hp ha fun t k hxt hkt hg=>?_
 subst hxt
 rw[← hkt]
 refine ht k a ?_ hg
 unfold ra
 rw[List.mem_append,List.mem_filterMap]
 exact .inl ⟨_,hx,by rw[hkt]⟩
theorem KX{o:Oper}{gd:Option (Key×Bool)}(hg:Yj nt ops o.guard=some gd){vu:T AV}{tmps:Array Value}(ht:∀ (k:Key) a,k.toNat∈ra ops o→aa k vu=some a→∃ v,tmps[k.toNat]?=some v∧bn ρ μ a v)
  {b:Bool} (hw:dm gd vu=some b):Region.wanted o (yielded ops tmps)=b:=by
 cases hgu:o.guard with
 |none=>
  rw[hgu] at hg
  simp only[Yj,dO] at hg;subst hg
  simp only[dm,dO] at hw
  simp[Region.wanted,hgu,hw]
 |some p=>
  obtain⟨j,want⟩:=p
  rw[hgu] at hg
  simp only[Yj] at hg
  split at hg
  ·rename_i oj hoj
   split at hg
   ·rename_i d hd
    split at hg
    ·rename_i k hk
     cases hg
     obtain⟨e,_⟩:=vw hk
     have oR:k.toNat∈ra ops o:=by
      unfold ra
      rw[List.mem_append,hgu,e]
      right
      simp[hoj,hd]
     simp only[dm] at hw
     split at hw
     ·rename_i b' kO
      cases hw
      obtain⟨v,hv,hr⟩:=ht k _ oR kO
      cases hr
      rw[e] at hv
      simp only[Region.wanted,hgu,yielded,hoj,Option.bind_some,hd,hv]
      cases b'<;>cases want<;>rfl
     ·rename_i kO
      cases hw
      obtain⟨v,hv,hr⟩:=ht k _ oR kO
      cases hr with|tuple _ vs hvs=>
      rw[e] at hv
      simp only[Region.wanted,hgu,yielded,hoj,Option.bind_some,hd,hv]
      cases want<;>rfl
     ·cases hw
    ·cases hg
   ·cases hg
  ·cases hg
end
end Go.Sx
/-
 SX: a region that draws its order: an operation that the machine has evaluated is carried out by the model. No condition.
-/
namespace Go.Sx
open Go.RowKit
section
variable{P:Program}{ρ:Nat→Int}{orc:pF}{nt:Nat}{ops:Array Oper}{pl:List J}{bf:List Nat}{w0:W0}{w:World}{μ μ':Mu}{G G':Key→Option ab}{H:T ab}{nx:Key}{g:Gh}{SS:Nat→Prop}{an:List (Nat×Key×ab)}{tm:T AV}{tmps:Array Value}{rest:List Nat}{fr:Frame}{cs:List Frame}{K:List Item}{i:Nat}
theorem lg.ready(S:lg P ρ orc nt ops pl bf μ G H nx g SS an tm tmps (i ::rest)) :
  i<ops.size∧g.D i=false∧(∀ j,j<ops.size→hasB (iY bf i) j=true→g.D j=true):=by
 obtain⟨h1,h2,h3,_⟩:=S.ord
 exact⟨h1,h2,fun j hj hb=>S.Zv.closed S.cl i ops[i] (by simp[h1]) (fun e he HX=>h3 _ (by simp[h1]) e he HX) j hj hb⟩
theorem V7{j t:Nat}(h:tD ops j=some t):j<ops.size:=by
 obtain⟨o,ho,_⟩:=afa h
 rcases Ts j ops.size with h'|h'
 ·exact h'
 ·rw[zqj h'] at ho;cases ho
theorem lg.UY(S:lg P ρ orc nt ops pl bf μ G H nx g SS an tm tmps (i ::rest)){vu:T AV}(ht:aee ops bf g i vu){o:Oper}(ho:ops[i]?=some o) :
  ∀ (k:Key) a,k.toNat∈ra ops o→aa k vu=some a→∃ v,tmps[k.toNat]?=some v∧bn ρ μ a v:=by
 intro k a hk hg
 obtain⟨h1,h2,h3⟩:=S.ready
 rcases ht o ho k a hk hg with⟨j,hj,hb,hv⟩|⟨V8,ha⟩
 ·exact S.c1 k j a (h3 j (V7 hj) hb) hj hv
 ·refine S.c2 k a (fun j hD hj=>?_) ha
  have hb:=V8 j hj
  obtain⟨oj,hoj,_⟩:=afa hj
  have:=S.Zv.closed S.cl j oj hoj (fun e he HX=>S.cl j oj hD hoj e he HX) i h1 hb
  rw[h2] at this;cases this
def RM(d:Option Nat)(v:Value)(tmps:Array Value):Array Value:=match d with
 |some d=>tmps.setIfInBounds d v
 |none=>tmps
theorem de{o:Oper}(ht:fr.todo=.inRegion ops (i ::rest) ::K)(ho:ops[i]?=some o)(v:Value) :
  fr.finish v={fr with tmps:=RM o.dst v fr.tmps,todo:=.inRegion ops rest ::K}:=by
 simp only[Frame.finish,ht,ho,Option.bind_some,RM]
 cases o.dst<;>rfl
theorem QV{o:Oper}{op:T7}(hp:lW P nt o=some op)(hd:fI o.op=true):T9 op=true:=by
 obtain⟨dst,Eh,ty,pos,after,guard⟩:=o
 cases Eh<;>first|(cases hd;done)|skip
 rename_i c
 simp only[lW] at hp
 split at hp
 ·split at hp
  ·cases hp;rfl
  ·cases hp
 ·cases hp
theorem abi{po:J}(h:pl[i]?=some po):yv pl i=(bif T9 po.op then 2 else bif XK po.op then 1 else 0):=by
 simp[yv,h]
theorem ahl{tmps:Array Value}{d:Option Nat}{v:Value}(t:Nat)(h:∀ x,d=some x→x<tmps.size) :
  (RM d v tmps)[t]?=if d=some t then some v else tmps[t]?:=by
 cases d with
 |none=>simp[RM]
 |some x=>
  have:=h x rfl
  simp only[RM]
  by_cases e:x=t
  ·subst e;simp[this]
  ·rw[if_neg (by simpa using e),zqn e]
theorem lg.done(S:lg P ρ orc nt ops pl bf μ G H nx g SS an tm tmps (i ::rest))(hm:μ.le μ'){o:Oper}(ho:ops[i]?=some o){a:AV}{v:Value}(hL:hasB g.L i=true)(adH:g.val i=some a)(hv:bn ρ μ' a v)
  (hpe:∀ x∈an,(x.1=i→G' x.2.1=some x.2.2)∧(x.1≠i→μ' x.2.1=μ x.2.1∧G' x.2.1=G x.2.1)) :
  lg P ρ orc nt ops pl bf μ' G' H nx {g with D:=fun j=>g.D j||j==i} SS an tm (RM o.dst v tmps) rest:=by
 obtain⟨hi,hDi,hbf⟩:=S.ready
 obtain⟨o',po,ho',hpo,vL⟩:=S.Zv.at hi
 rw[ho] at ho';cases ho'
 obtain⟨GG,hgu,Lq⟩:=ma hpo
 have asq:∀ x,o.dst=some x→x<tmps.size:=by
  intro x hx
  rcases Lq with⟨h,_⟩|⟨k,h,_,aM⟩
  ·rw[h] at hx;cases hx
  ·rw[h] at hx;cases hx;exact YK aM S.sz
 have hdi:tD ops i=o.dst:=by simp[tD,ho]
 have sm:=fun t=>ahl (v:=v) t asq
 have akU:(RM o.dst v tmps).size=tmps.size:=by
  cases o.dst<;>simp[RM]
 have hD':∀ j,((g.D j||j==i)=true)↔(g.D j=true∨j=i):=by intro j;simp
 refine⟨S.Zv,S.ord.2.2.2,?_,?_,S.UZ,S.lcl,S.a1,S.a2,by rw[akU];exact S.sz,?_,?_,?_,?_,S.nk,S.ni⟩
 ·intro j oj hj hoj e he hb
  rcases (hD' j).1 hj with h|h
  ·exact(hD' _).2 (.inl (S.cl j oj h hoj e he hb))
  ·subst h
   exact(hD' _).2 (.inl (S.ord.2.2.1 oj hoj e he hb))
 ·intro j hj
  rcases (hD' j).1 hj with h|h
  ·exact S.sub j h
  ·subst h;exact hL
 ·intro k j b hj hjd hjv
  rw[sm]
  rcases (hD' j).1 hj with h|h
  ·by_cases e:o.dst=some k.toNat
   ·have:i=j:=S.Zv.XS (hdi.trans e) hjd
    subst this;rw[hDi] at h;cases h
   ·rw[if_neg e]
    obtain⟨u,hu,hr⟩:=S.c1 k j b h hjd hjv
    exact⟨u,hu,hr.mono hm⟩
  ·subst h
   rw[hdi] at hjd
   rw[if_pos hjd]
   have hjv:g.val j=some b:=hjv
   rw[adH] at hjv;cases hjv
   exact⟨v,rfl,hv⟩
 ·intro k b WO ha
  rw[sm]
  have hni:o.dst≠some k.toNat:=by
   intro e
   exact WO i ((hD' i).2 (.inr rfl)) (hdi.trans e)
  rw[if_neg hni]
  obtain⟨u,hu,hr⟩:=S.c2 k b (fun j hj=>WO j ((hD' j).2 (.inl hj))) ha
  exact⟨u,hu,hr.mono hm⟩
 ·intro j hj hjD
  have hjD:(g.D j||j==i)=false:=hjD
  rw[Bool.or_eq_false_iff] at hjD
  cases S.pd j hj hjD.1 with
  |skip po vu h1 h2 h3 h4 h5=>exact .skip po vu h1 h2 h3 h4 h5
  |light po vu v h1 h2 h3 hk h4 h5 h6=>exact .light po vu v h1 h2 h3 hk h4 h5 h6
  |alloc po vu f B k h1 h2 h3 hk h4 h5 h6=>exact .alloc po vu f B k h1 h2 h3 hk h4 h5 h6
 ·intro x hx
  obtain⟨p1,p2,p3,p4,p5⟩:=S.pe x hx
  obtain⟨q1,q2⟩:=hpe x hx
  refine⟨p1,fun h=>?_,fun h=>?_,p4,p5⟩
  ·by_cases e:x.1=i
   ·exact q1 e
   ·rw[(q2 e).2]
    exact p2 (((hD' _).1 h).resolve_right e)
  ·have h:(g.D x.1||x.1==i)=false:=h
   rw[Bool.or_eq_false_iff] at h
   have e:x.1≠i:=by simpa using h.2
   rw[(q2 e).1,(q2 e).2]
   exact p3 h.1
theorem acC(hM:bG P ρ w0 μ G nx.toNat w)(hH:HSub H G)(ho:jt ρ orc)(S:lg P ρ orc nt ops pl bf μ G H nx g SS an tm fr.tmps (i ::rest))(hL:hasB g.L i=true)(hu:¬ SS i)
  (hm:fr.mode=.run) (ht:fr.todo=.inRegion ops (i ::rest) ::K) :
  ∃ eN w' μ' G',step P (lone fr cs w)=.next (lone {fr with tmps:=eN,todo:=.inRegion ops rest ::K} cs w')∧μ.le μ'∧bG P ρ w0 μ' G' nx.toNat w'∧HSub H G'∧
   lg P ρ orc nt ops pl bf μ' G' H nx {g with D:=fun j=>g.D j||j==i} SS an tm eN rest∧(∀ b,(∀ x∈an,x.2.1≠b)→μ' b=μ b∧G' b=G b):=by
 obtain⟨hi,hDi,hbf⟩:=S.ready
 obtain⟨o,po,GG,hpo,vL⟩:=S.Zv.at hi
 obtain⟨hp,hgu,Lq⟩:=ma hpo
 cases S.pd i hL hDi with
 |skip po' vu h1 h2 h3 h4 h5=>
  rw[vL] at h1;cases h1
  have hs:=S.UY h2 GG
  have hw:=KX hgu hs h3
  have SU:=TX (P:=P) (cs:=cs) (w:=w) hm ht GG hw
  rw[de ht GG] at SU
  refine⟨_,w,μ,G,SU,μ.le_refl,hM,hH,?_,fun b _=>⟨rfl,rfl⟩⟩
  refine S.done μ.le_refl GG hL h4 (v:=undef) (.tuple _ _ .nil) ?_
  intro x hx
  exact⟨fun e=>absurd e (h5 x hx),fun _=>⟨rfl,rfl⟩⟩
 |light po' vu v h1 h2 h3 hk h4 h5 h6=>
  rw[vL] at h1;cases h1
  have hs:=S.UY h2 GG
  have hw:=KX hgu hs h3
  obtain⟨V,hlV,hV⟩:=h4 hu
  have hVG:HSub V G:=by
   intro b B hb
   rcases hV b B hb with h|⟨j,h1,h2⟩
   ·exact hH b B h
   ·obtain⟨p1,p2,_⟩:=S.pe _ h1
    exact p2 (hbf j (S.UZ j p1) h2)
  obtain⟨u,fe,hr⟩:=WQ hM hVG ho hp (Ri hM hs) hlV
  have VA:fI o.op=false:=by
   cases hd:fI o.op with
   |false=>rfl
   |true=>rw[abi vL,QV hp hd] at hk;cases hk
  have SU:=Yt (P:=P) (cs:=cs) hm ht GG hw (.inr VA) fe
  rw[de ht GG] at SU
  refine⟨_,w,μ,G,SU,μ.le_refl,hM,hH,?_,fun b _=>⟨rfl,rfl⟩⟩
  refine S.done μ.le_refl GG hL h5 hr ?_
  intro x hx
  exact⟨fun e=>absurd e (h6 x hx),fun _=>⟨rfl,rfl⟩⟩
 |alloc po' vu f B k h1 h2 h3 hk h4 h5 h6=>
  rw[vL] at h1;cases h1
  have hs:=S.UY h2 GG
  have hw:=KX hgu hs h3
  obtain⟨_,_,p3,p4,p5⟩:=S.pe _ h6
  obtain⟨hmk,hgk⟩:=p3 hDi
  obtain⟨u,w',l,fe,hle,hM',hr⟩:=WR hM hp (Ri hM hs) h4 hmk (nx':=nx.toNat) (bS _) p5
  have VA:fI o.op=false:=by
   cases hd:fI o.op with
   |false=>rfl
   |true=>rw[abi vL,QV hp hd] at hk;cases hk
  have SU:=Yt (P:=P) (cs:=cs) hm ht GG hw (.inr VA) fe
  rw[de ht GG] at SU
  refine⟨_,w',_,_,SU,hle,hM',?_,?_,?_⟩
  ·intro b B' hb
   have:b≠k:=by intro e;subst e;rw[p4] at hb;cases hb
   rw[cg _ _ this];exact hH b B' hb
  ·refine S.done hle GG hL h5 hr ?_
   intro x hx
   constructor
   ·intro e
    have:x=(i,k,B):=by
     have hni:=S.ni
     have:=List.pairwise_iff_getElem.1 hni
     obtain⟨p,V9,hpx⟩:=List.getElem_of_mem hx
     obtain⟨q,hq,hqx⟩:=List.getElem_of_mem h6
     rcases Nat.lt_trichotomy p q with hpq|hpq|hpq
     ·have:=this p q (by simpa using V9) (by simpa using hq) hpq
      simp[hpx,hqx,e] at this
     ·subst hpq;rw[← hpx,← hqx]
     ·have:=this q p (by simpa using hq) (by simpa using V9) hpq
      simp[hpx,hqx,e] at this
    subst this
    exact iL _ _ _
   ·intro e
    have eM:x.2.1≠k:=by
     intro Ed
     have hnk:=S.nk
     have:=List.pairwise_iff_getElem.1 hnk
     obtain⟨p,V9,hpx⟩:=List.getElem_of_mem hx
     obtain⟨q,hq,hqx⟩:=List.getElem_of_mem h6
     rcases Nat.lt_trichotomy p q with hpq|hpq|hpq
     ·have:=this p q (by simpa using V9) (by simpa using hq) hpq
      simp[hpx,hqx,Ed] at this
     ·subst hpq;rw[hpx] at hqx;subst hqx;exact e rfl
     ·have:=this q p (by simpa using hq) (by simpa using V9) hpq
      simp[hpx,hqx,Ed] at this
    exact⟨cg _ _ eM,cg _ _ eM⟩
  ·intro b hb
   have:b≠k:=fun e=>hb _ h6 e.symm
   exact⟨cg _ _ this,cg _ _ this⟩
end
end Go.Sx
/-
 SX: a region that draws its order: the machine evaluates one operation more; the model comes to the next heavy operation. No condition.
-/
namespace Go.Sx
open Go.RowKit
theorem Vd(orc:pF)(op:T7)(tm:T AV)(H H':T ab)(h:Vw op=false):lightOp orc op tm H=lightOp orc op tm H':=by
 cases op<;>first|(cases h;done)|rfl
section
variable{P:Program}{ρ:Nat→Int}{orc:pF}{nt:Nat}{ops:Array Oper}{pl:List J}{bf:List Nat}{w0:W0}{w:World}{μ μ':Mu}{G G':Key→Option ab}{H H':T ab}{nx nx':Key}{g:Gh}{SS axX:Nat→Prop}{an pend':List (Nat×Key×ab)}{tm:T AV}{tmps:Array Value}{rest:List Nat}{fr:Frame}{cs:List Frame}{K:List Item}{i:Nat}
theorem lg.alJ(S:lg P ρ orc nt ops pl bf μ G H nx g SS an tm tmps rest)(hi:i<ops.size)(hL:hasB g.L i=false)(hb:∀ j,j<ops.size→hasB (iY bf i) j=true→hasB g.L j=true):aee ops bf g i tm:=by
 intro o ho k a hk ha
 by_cases h:∃ j,hasB g.L j=true∧tD ops j=some k.toNat
 ·obtain⟨j,hj,hd⟩:=h
  left
  refine⟨j,hd,?_,by rw[← S.a1 k j hj hd];exact ha⟩
  have eM:i≠j:=by intro e;subst e;rw[hL] at hj;cases hj
  rcases ((S.Zv.slot ho hd).2 eM).2 hk with h|h
  ·exact h
  ·have:=S.lcl j hj i hi h
   rw[hL] at this;cases this
 ·right
  have h:∀ j,hasB g.L j=true→tD ops j≠some k.toNat:=fun j hj hd=>h ⟨j,hj,hd⟩
  refine⟨fun j hd=>?_,by rw[← S.a2 k h];exact ha⟩
  by_cases eM:i=j
  ·subst eM;exact absurd hk ((S.Zv.slot ho hd).1 rfl)
  ·rcases ((S.Zv.slot ho hd).2 eM).2 hk with kO|kO
   ·exact absurd hd (h j (hb j (V7 hd) kO))
   ·exact kO
def Gz(f:Nat→Option AV)(i:Nat)(x:Option AV):Nat→Option AV:=fun j=>if j=i then x else f j
theorem aeA{x:Option AV}{L':Nat}{D':Nat→Bool}{p:Nat}{k:Key}{a:AV}(hp:hasB (iY bf p) i=false)(h:ac3 ops bf g p k a):ac3 ops bf {L:=L',D:=D',a0:=g.a0,val:=Gz g.val i x} p k a:=by
 rcases h with⟨j,h1,h2,h3⟩|⟨h1,h2⟩
 ·left
  refine⟨j,h1,h2,?_⟩
  have:j≠i:=by intro e;subst e;rw[hp] at h2;cases h2
  simpa[Gz,this] using h3
 ·exact .inr ⟨h1,h2⟩
theorem Gp{x:Option AV}{L':Nat}{D':Nat→Bool}{p:Nat}{vu:T AV}(hp:hasB (iY bf p) i=false)(h:aee ops bf g p vu):aee ops bf {L:=L',D:=D',a0:=g.a0,val:=Gz g.val i x} p vu:=
 fun o ho k a hk hg=>aeA hp (h o ho k a hk hg)
theorem Ra.QK{x:Option AV}{L':Nat}{D':Nat→Bool}{p:Nat}(hp:hasB (iY bf p) i=false)(eM:p≠i)(ZR:∀ y∈an,y∈pend')(ac4:∀ y∈pend',y∈an∨y.1=i)(h:Ra orc ops pl bf H g an SS p) :
  Ra orc ops pl bf H {L:=L',D:=D',a0:=g.a0,val:=Gz g.val i x} pend' SS p:=by
 have hv:∀ v,g.val p=some v→Gz g.val i x p=some v:=by intro v hv;simpa[Gz,eM] using hv
 have hq:(∀ y∈an,y.1≠p)→∀ y∈pend',y.1≠p:=by
  intro hh y hy
  rcases ac4 y hy with h|h
  ·exact hh y h
  ·rw[h];exact fun e=>eM e.symm
 cases h with
 |skip po vu h1 h2 h3 h4 h5=>exact .skip po vu h1 (Gp hp h2) h3 (hv _ h4) (hq h5)
 |light po vu v h1 h2 h3 hk h4 h5 h6=>
  refine .light po vu v h1 (Gp hp h2) h3 hk (fun hu=>?_) (hv _ h5) (hq h6)
  obtain⟨V,a1,a2⟩:=h4 hu
  refine⟨V,a1,fun b B hb=>?_⟩
  rcases a2 b B hb with h|⟨j,h,h'⟩
  ·exact .inl h
  ·exact .inr ⟨j,ZR _ h,h'⟩
 |alloc po vu f B k h1 h2 h3 hk h4 h5 h6=>exact .alloc po vu f B k h1 (Gp hp h2) h3 hk h4 (hv _ h5) (ZR _ h6)
noncomputable def cx(d:Option Key)(v:AV)(tm:T AV):T AV:=match d with
 |none=>tm
 |some k=>aK k (some v) tm
theorem fj{R:Type}(d:Option Key)(v:AV)(tm:T AV)(c:T AV→R):Ew d (some v) tm c=c (cx d v tm):=by
 cases d with
 |none=>rfl
 |some k=>simp only[Ew,cx,sTCe]
theorem lg.add(S:lg P ρ orc nt ops pl bf μ G H nx g SS an tm tmps rest){po:J}(vL:pl[i]?=some po)(hL:hasB g.L i=false)(hb:∀ j,j<ops.size→hasB (iY bf i) j=true→hasB g.L j=true)
  {v:AV} (ZR:∀ y∈an,y∈pend') (ac4:∀ y∈pend',y∈an∨y.1=i)
  (Of:Ra orc ops pl bf H {L:=Uc g.L i,D:=g.D,a0:=g.a0,val:=Gz g.val i (some v)} pend' SS i)
  (hpe:∀ y∈pend',y∉an→μ y.2.1=none∧G y.2.1=none∧aa y.2.1 H=none∧y.2.1.toNat<nx'.toNat) (hn:nx.toNat≤nx'.toNat)
  (hnk:(pend'.map (·.2.1.toNat)).Nodup) (hni:(pend'.map (·.1)).Nodup) :
  lg P ρ orc nt ops pl bf μ G H nx' {L:=Uc g.L i,D:=g.D,a0:=g.a0,val:=Gz g.val i (some v)} SS pend' (cx po.dst v tm) tmps rest:=by
 have hi:=S.Zv.at' vL
 obtain⟨o,po',ho,hpo,RN⟩:=S.Zv.at hi
 rw[vL] at RN;cases RN
 obtain⟨GG,hgu,Lq⟩:=ma hpo
 have hdi:tD ops i=o.dst:=by simp[tD,ho]
 have hDi:g.D i=false:=by
  cases h:g.D i with
  |false=>rfl
  |true=>have:=S.sub i h;rw[hL] at this;cases this
 have Ve:∀ j,hasB (Uc g.L i) j=true↔(hasB g.L j=true∨j=i):=by
  intro j;rw[Un,Bool.or_eq_true,decide_eq_true_eq]
  exact⟨fun h=>h.imp id Eq.symm,fun h=>h.imp id Eq.symm⟩
 have hnb:∀ p,hasB g.L p=true→hasB (iY bf p) i=false:=by
  intro p hp
  cases h:hasB (iY bf p) i with
  |false=>rfl
  |true=>have:=S.lcl p hp i hi h;rw[hL] at this;cases this
 refine⟨S.Zv,S.ord,S.cl,?_,?_,?_,?_,?_,S.sz,?_,S.c2,?_,?_,hnk,hni⟩
 ·intro j hj;exact(Ve j).2 (.inl (S.sub j hj))
 ·intro j hj
  rcases (Ve j).1 hj with h|h
  ·exact S.UZ j h
  ·subst h;exact hi
 ·intro j hj q hq hbq
  rcases (Ve j).1 hj with h|h
  ·exact(Ve q).2 (.inl (S.lcl j h q hq hbq))
  ·subst h;exact(Ve q).2 (.inl (hb q hq hbq))
 ·intro k j hj hd
  rcases Lq with⟨e1,e2⟩|⟨kd,e1,e2,_⟩
  ·rcases (Ve j).1 hj with h|h
   ·have eM:j≠i:=by intro e;subst e;rw[hL] at h;cases h
    rw[e2]
    simp only[cx,Gz,eM,if_false]
    exact S.a1 k j h hd
   ·subst h;rw[hdi,e1] at hd;cases hd
  ·rw[e2]
   simp only[cx]
   rcases (Ve j).1 hj with h|h
   ·have eM:j≠i:=by intro e;subst e;rw[hL] at h;cases h
    have hk:k≠kd:=by
     intro e;subst e
     exact eM (S.Zv.XS hd (hdi.trans e1))
    rw[bU _ _ _ _ hk]
    simp only[Gz,eM,if_false]
    exact S.a1 k j h hd
   ·subst h
    rw[hdi,e1] at hd
    have hk:k=kd:=Key.toNat_inj (by simpa using hd.symm)
    subst hk
    rw[gTSm]
    simp[Gz]
 ·intro k WO
  rcases Lq with⟨e1,e2⟩|⟨kd,e1,e2,_⟩
  ·rw[e2]
   exact S.a2 k fun j hj=>WO j ((Ve j).2 (.inl hj))
  ·rw[e2]
   simp only[cx]
   have hk:k≠kd:=by
    intro e;subst e
    exact WO i ((Ve i).2 (.inr rfl)) (hdi.trans e1)
   rw[bU _ _ _ _ hk]
   exact S.a2 k fun j hj=>WO j ((Ve j).2 (.inl hj))
 ·intro k j a hj hd hv
  have eM:j≠i:=by intro e;subst e;rw[hDi] at hj;cases hj
  exact S.c1 k j a hj hd (by simpa[Gz,eM] using hv)
 ·intro j hj hjD
  rcases (Ve j).1 hj with h|h
  ·have eM:j≠i:=by intro e;subst e;rw[hL] at h;cases h
   exact(S.pd j h hjD).QK (hnb j h) eM ZR ac4
  ·subst h;exact Of
 ·intro y hy
  by_cases UE:y∈an
  ·obtain⟨p1,p2,p3,p4,p5⟩:=S.pe y UE
   exact⟨(Ve _).2 (.inl p1),p2,p3,p4,YK p5 hn⟩
  ·obtain⟨q1,q2,q3,q4⟩:=hpe y hy UE
   have e:=(ac4 y hy).resolve_left UE
   refine⟨(Ve _).2 (.inr e),fun h=>?_,fun _=>⟨q1,q2⟩,q3,q4⟩
   rw[e] at h
   have h:g.D i=true:=h
   rw[hDi] at h;cases h
theorem lg.Bx(S:lg P ρ orc nt ops pl bf μ G H nx g (fun i=>jC pl i=true) an tm tmps rest)(hm:μ.le μ')(hn:nx.toNat≤nx'.toNat)
  (hk:∀ x∈an,μ' x.2.1=μ x.2.1∧G' x.2.1=G x.2.1∧aa x.2.1 H'=none):lg P ρ orc nt ops pl bf μ' G' H' nx' g (fun i=>jC pl i=true) an tm tmps rest:=by
 refine⟨S.Zv,S.ord,S.cl,S.sub,S.UZ,S.lcl,S.a1,S.a2,S.sz,?_,?_,?_,?_,S.nk,S.ni⟩
 ·intro k j a h1 h2 h3
  obtain⟨v,hv,hr⟩:=S.c1 k j a h1 h2 h3
  exact⟨v,hv,hr.mono hm⟩
 ·intro k a h1 h2
  obtain⟨v,hv,hr⟩:=S.c2 k a h1 h2
  exact⟨v,hv,hr.mono hm⟩
 ·intro i hi hD
  cases S.pd i hi hD with
  |skip po vu h1 h2 h3 h4 h5=>exact .skip po vu h1 h2 h3 h4 h5
  |light po vu v h1 h2 h3 NM h4 h5 h6=>
   refine .light po vu v h1 h2 h3 NM (fun hu=>?_) h5 h6
   obtain⟨V,a1,_⟩:=h4 hu
   refine⟨H',?_,VOk.refl _ _ _ _⟩
   rw[← a1]
   apply Vd
   have:jC pl i=Vw po.op:=by simp[jC,h1]
   rw[this] at hu
   simpa using hu
  |alloc po vu f B k h1 h2 h3 NM h4 h5 h6=>exact .alloc po vu f B k h1 h2 h3 NM h4 h5 h6
 ·intro x hx
  obtain⟨p1,p2,p3,p4,p5⟩:=S.pe x hx
  obtain⟨q1,q2,q3⟩:=hk x hx
  refine⟨p1,fun h=>by rw[q2];exact p2 h,fun h=>by rw[q1,q2];exact p3 h,q3,YK p5 hn⟩
end
end Go.Sx
/-
 SX: a region that draws its order: the model comes to the next heavy operation; reads are looked at again. No condition.
-/
namespace Go.Sx
open Go.RowKit
section
variable{P:Program}{ρ:Nat→Int}{orc:pF}{nt:Nat}{ops:Array Oper}{pl:List J}{bf:List Nat}{w0:W0}{w:World}{μ μ':Mu}{G G':Key→Option ab}{H H':T ab}{nx nx':Key}{g:Gh}{SS axX:Nat→Prop}{an pend':List (Nat×Key×ab)}{tm:T AV}{tmps:Array Value}{rest:List Nat}{fr:Frame}{cs:List Frame}{K:List Item}{i:Nat}
def aty(P:Program)(ρ:Nat→Int)(orc:pF)(nt:Nat)(ops:Array Oper)(pl:List J)(bf:List Nat)(w0:W0)(H:T ab)(nx:Key)(g:Gh)(an:List (Nat×Key×ab))(tm:T AV)(K:List Item)
  (fr:Frame) (cs:List Frame) (w:World) (μ:Mu) (G:Key→Option ab) (Gg:List Nat→Prop):Prop:=
 ∃ eN w' μ' G' D' qD,Steps P (lone fr cs w) (lone {fr with tmps:=eN,todo:=.inRegion ops qD ::K} cs w')∧μ.le μ'∧bG P ρ w0 μ' G' nx.toNat w'∧HSub H G'∧
  lg P ρ orc nt ops pl bf μ' G' H nx {g with D:=D'} (fun _=>False) an tm eN qD∧(∀ b,(∀ x∈an,x.2.1≠b)→μ' b=μ b∧G' b=G b)∧Gg qD
theorem al0(Gg:List Nat→Prop)(ho:jt ρ orc)
  (hgo:∀ (D:Nat→Bool) (rest:List Nat),(∀ i,D i=true→hasB g.L i=true)→XD ops D rest→Gg rest∨∃ q r,rest=q ::r∧((∀ j,j<ops.size→hasB (iY bf q) j=true→D j=true)→hasB g.L q=true)) :
  ∀ (rest:List Nat) (D:Nat→Bool) (fr:Frame) (w:World) (μ:Mu) (G:Key→Option ab),bG P ρ w0 μ G nx.toNat w→HSub H G→lg P ρ orc nt ops pl bf μ G H nx {g with D:=D} (fun _=>False) an tm fr.tmps rest→
   fr.mode=.run→fr.todo=.inRegion ops rest ::K→aty P ρ orc nt ops pl bf w0 H nx g an tm K fr cs w μ G Gg:=by
 intro rest
 induction rest with
 |nil=>
  intro D fr w μ G hM hH S hm ht
  rcases hgo D [] S.sub S.ord with h|⟨q,r,h,_⟩
  ·refine⟨fr.tmps,w,μ,G,D,[],?_,μ.le_refl,hM,hH,S,fun _ _=>⟨rfl,rfl⟩,h⟩
   rw[← ht];exact Steps.refl _ _
  ·cases h
 |cons q r ih=>
  intro D fr w μ G hM hH S hm ht
  rcases hgo D (q ::r) S.sub S.ord with h|⟨q',r',h,hq⟩
  ·refine⟨fr.tmps,w,μ,G,D,q ::r,?_,μ.le_refl,hM,hH,S,fun _ _=>⟨rfl,rfl⟩,h⟩
   rw[← ht];exact Steps.refl _ _
  ·cases h
   have hL:=hq S.ready.2.2
   obtain⟨eN,w',μ',G',h1,h2,h3,h4,h5,h6⟩:=acC (cs:=cs) hM hH ho S hL (fun h=>h) hm ht
   obtain⟨tmps2,w2,μ2,G2,D2,rest2,k1,k2,k3,k4,k5,k6,k7⟩:=ih _ {fr with tmps:=eN,todo:=.inRegion ops r ::K} w' μ' G' h3 h4 h5 hm rfl
   exact⟨tmps2,w2,μ2,G2,D2,rest2,.head h1 k1,Mu.le_trans h2 k2,k3,k4,k5,fun b hb=>⟨(k6 b hb).1.trans (h6 b hb).1,(k6 b hb).2.trans (h6 b hb).2⟩,k7⟩
theorem ac5(hM:bG P ρ w0 μ G nx.toNat w)(hH:HSub H G)(ho:jt ρ orc)(S:lg P ρ orc nt ops pl bf μ G H nx g (fun _=>False) an tm fr.tmps rest){h:Nat}(aM:h<ops.size)(hh:hasB g.L h=false)
  (alP:∀ j,j<ops.size→hasB g.L j=true∨j=h∨∃ q,q<ops.size∧hasB (iY bf j) q=true∧hasB g.L q=false) (hm:fr.mode=.run) (ht:fr.todo=.inRegion ops rest ::K) :
  aty P ρ orc nt ops pl bf w0 H nx g an tm K fr cs w μ G (fun r=>∃ r',r=h ::r'):=by
 refine al0 _ ho ?_ rest g.D fr w μ G hM hH S hm ht
 intro D rest ac1 aop
 cases rest with
 |nil=>
  have:=ac1 h (aop h aM)
  rw[hh] at this;cases this
 |cons q r=>
  by_cases e:q=h
  ·subst e;exact .inl ⟨r,rfl⟩
  ·refine .inr ⟨q,r,rfl,fun hb=>?_⟩
   rcases alP q aop.1 with h1|h1|⟨p,hp,hpb,hpL⟩
   ·exact h1
   ·exact absurd h1 e
   ·have:=ac1 p (hb p hp hpb)
    rw[hpL] at this;cases this
theorem agx(hM:bG P ρ w0 μ G nx.toNat w)(hH:HSub H G)(ho:jt ρ orc)(S:lg P ρ orc nt ops pl bf μ G H nx g (fun _=>False) an tm fr.tmps rest)
  (V8:∀ j,j<ops.size→hasB g.L j=true) (hm:fr.mode=.run) (ht:fr.todo=.inRegion ops rest ::K) :
  aty P ρ orc nt ops pl bf w0 H nx g an tm K fr cs w μ G (fun r=>r=[]):=by
 refine al0 _ ho ?_ rest g.D fr w μ G hM hH S hm ht
 intro D rest ac1 aop
 cases rest with
 |nil=>exact .inl rfl
 |cons q r=>exact .inr ⟨q,r,rfl,fun _=>V8 q aop.1⟩
theorem Re{mN:List (Nat×List Nat)}:∀ {os:List (Nat×J)},recheck orc mN an tm H os=true→∀ i po,(i,po)∈os→
  ∃ d,po.dst=some d∧((dm po.guard tm=some false∧aa d tm=some (.tuple []))∨(dm po.guard tm=some true∧∃ v,aa d tm=some v∧lightOp orc po.op tm (Ey (NR i mN) an H)=some v))
 | [],_,_,_,h=>by simp at h
 |(q,o) ::os,hr,i,po,hm=>by
  simp only[recheck] at hr
  split at hr
  ·rename_i hw
   split at hr
   ·cases hr
   ·rename_i d hd
    split at hr
    ·rename_i hg
     rcases xH.1 hm with h|h
     ·cases h;exact⟨d,hd,.inl ⟨hw,hg⟩⟩
     ·exact Re hr i po h
    ·cases hr
  ·rename_i hw
   split at hr
   ·cases hr
   ·rename_i d hd
    split at hr
    ·rename_i v u hg hl
     cases hb:AV.beq v u with
     |false=>rw[hb] at hr;cases hr
     |true=>
      rw[hb] at hr
      simp only[cond_true] at hr
      have:=AV.eq_of_beq v u hb
      subst this
      rcases xH.1 hm with h|h
      ·cases h;exact⟨d,hd,.inr ⟨hw,v,hg,hl⟩⟩
      ·exact Re hr i po h
    ·cases hr
  ·cases hr
theorem aeL{i:Nat}{o:Oper}(h:Ot ops bf i=true)(ho:ops[i]?=some o){j t:Nat}(hj:tD ops j=some t)(ht:t∈ra ops o):hasB (iY bf i) j=true:=by
 unfold Ot at h
 rw[ho] at h
 simp only[mi] at h
 have h:=h j (by simpa using V7 hj)
 rw[hj] at h
 have hc:(ra ops o).contains t=true:=by simpa using ht
 simp only[hc,Bool.not_true,Bool.false_or] at h
 exact h
theorem lg.abe(S:lg P ρ orc nt ops pl bf μ G H nx g SS an tm tmps rest){os:List (Nat×J)}{mN:List (Nat×List Nat)}(aeF:IA bf mN=true)(hr:recheck orc mN an tm H os=true)
  (hos:∀ i po,(i,po)∈os→pl[i]?=some po∧Ot ops bf i=true∧yv pl i=0) (Vy:∀ i,hasB g.L i=true→g.D i=false→SS i→∃ po,(i,po)∈os) :
  lg P ρ orc nt ops pl bf μ G H nx g (fun _=>False) an tm tmps rest:=by
 refine⟨S.Zv,S.ord,S.cl,S.sub,S.UZ,S.lcl,S.a1,S.a2,S.sz,S.c1,S.c2,?_,S.pe,S.nk,S.ni⟩
 intro i hi hD
 by_cases hu:SS i
 ·obtain⟨po,hm⟩:=Vy i hi hD hu
  obtain⟨vL,Uj,hk⟩:=hos i po hm
  obtain⟨d,hd,alK⟩:=Re hr i po hm
  have aHZ:=S.UZ i hi
  obtain⟨o,po',ho,hpo,RN⟩:=S.Zv.at aHZ
  rw[vL] at RN;cases RN
  obtain⟨_,_,Lq⟩:=ma hpo
  have hdd:tD ops i=some d.toNat:=by
   rcases Lq with⟨_,e2⟩|⟨k,e1,e2,_⟩
   ·rw[e2] at hd;cases hd
   ·rw[e2] at hd;cases hd
    simp[tD,ho,e1]
  have adH:=S.a1 d i hi hdd
  have htm:aee ops bf g i tm:=by
   intro o' ho' k a hks hg
   rw[ho] at ho';cases ho'
   by_cases hex:∃ j,tD ops j=some k.toNat
   ·obtain⟨j,hj⟩:=hex
    have hb:=aeL Uj ho hj hks
    exact .inl ⟨j,hj,hb,by rw[← S.a1 k j (S.lcl i hi j (V7 hj) hb) hj];exact hg⟩
   ·have WO:∀ j,tD ops j≠some k.toNat:=fun j hj=>hex ⟨j,hj⟩
    exact .inr ⟨fun j hj=>absurd hj (WO j),by rw[← S.a2 k fun j _=>WO j];exact hg⟩
  have ZR:∀ x∈an,x.1≠i:=by
   cases S.pd i hi hD with
   |skip po vu h1 h2 h3 h4 h5=>exact h5
   |light po vu v h1 h2 h3 NM h4 h5 h6=>exact h6
   |alloc po vu f B k h1 h2 h3 NM h4 h5 h6=>rw[hk] at NM;cases NM
  rcases alK with⟨hw,hg⟩|⟨hw,v,hg,hl⟩
  ·exact .skip po tm vL htm hw (by rw[← adH];exact hg) ZR
  ·exact .light po tm v vL htm hw hk (fun _=>⟨_,hl,VOk.view aeF _ _ _⟩) (by rw[← adH];exact hg) ZR
 ·cases S.pd i hi hD with
  |skip po vu h1 h2 h3 h4 h5=>exact .skip po vu h1 h2 h3 h4 h5
  |light po vu v h1 h2 h3 NM h4 h5 h6=>exact .light po vu v h1 h2 h3 NM (fun _=>h4 hu) h5 h6
  |alloc po vu f B k h1 h2 h3 NM h4 h5 h6=>exact .alloc po vu f B k h1 h2 h3 NM h4 h5 h6
end
end Go.Sx
/-
 SX: frames of the abstract machine and of the model. No condition.
-/
namespace Go.Sx
open Go.RowKit
inductive ZP(P:Program)(μ:Mu)(nt:Nat):fE→Item→Prop
 |code (pc:U) (c:Code) (h:kZ P nt c=some pc):ZP P μ nt (.code pc) (.code c)
 |inBlock (id:Nat):ZP P μ nt (.inBlock id) (.inBlock id)
 |inLoop (pc:U) (c:Code) (h:kZ P nt c=some pc):ZP P μ nt (.inLoop pc) (.inLoop c)
 |ops (l:List J) (ops:Array Oper) (rest:List Nat) (h:tC P nt ops rest=some l):ZP P μ nt (.ops l) (.inRegion ops rest)
 |inRF (k:Key) (l:Loc) (r:Nat) (h:μ k=some l) (hr:r=l.c):ZP P μ nt (.inRF k) (.inRangeFunc r)
 |endRF (k:Key) (l:Loc) (r:Nat) (h:μ k=some l) (hr:r=l.c):ZP P μ nt (.endRF k) (.endRangeFunc r)
 |beginRound:ZP P μ nt .beginRound .beginRound
inductive tz(P:Program)(μ:Mu)(nt:Nat):List fE→List Item→Prop
 |nil:tz P μ nt [] []
 |cons (a:fE) (x:Item) (l:List fE) (k:List Item) (h:ZP P μ nt a x) (h':tz P μ nt l k):tz P μ nt (a ::l) (x ::k)
theorem ZP.mono{P:Program}{μ μ':Mu}(hm:μ.le μ'){nt:Nat}{a:fE}{x:Item}(h:ZP P μ nt a x):ZP P μ' nt a x:=by
 cases h with
 |code pc c h=>exact .code pc c h
 |inBlock id=>exact .inBlock id
 |inLoop pc c h=>exact .inLoop pc c h
 |ops l ops rest h=>exact .ops l ops rest h
 |inRF k l r h hr=>exact .inRF k l r (hm.l _ _ h) hr
 |endRF k l r h hr=>exact .endRF k l r (hm.l _ _ h) hr
 |beginRound=>exact .beginRound
theorem tz.mono{P:Program}{μ μ':Mu}(hm:μ.le μ'){nt:Nat}{a:List fE}{x:List Item}(h:tz P μ nt a x):tz P μ' nt a x:=by
 induction h with
 |nil=>exact .nil
 |cons a x l k h h' ih=>exact .cons _ _ _ _ (h.mono hm) ih
def an6(ρ:Nat→Int)(μ:Mu):ae6→Deferred→Prop
 |.fn f args,d=>∃ ws,d.target=.fn (.func f) ws∧aB ρ μ args (d.args++ws).toList
 |.coll b,d=>∃ l,μ b=some l∧d=⟨.collected l.c,#[]⟩
def Zs(ρ:Nat→Int)(μ:Mu):List ae6→List Deferred→Prop
 | [],[]=>True
 |a ::l,d ::ds=>an6 ρ μ a d∧Zs ρ μ l ds
 |_,_=>False
theorem an6.mono{ρ:Nat→Int}{μ μ':Mu}(hm:μ.le μ'){a:ae6}{d:Deferred}(h:an6 ρ μ a d):an6 ρ μ' a d:=by
 cases a with
 |fn f args=>obtain⟨ws,h1,h2⟩:=h;exact⟨ws,h1,h2.mono hm⟩
 |coll b=>obtain⟨l,h1,h2⟩:=h;exact⟨l,hm.l _ _ h1,h2⟩
theorem Zs.mono{ρ:Nat→Int}{μ μ':Mu}(hm:μ.le μ'):∀ {a:List ae6} {d:List Deferred},Zs ρ μ a d→Zs ρ μ' a d
 | [],[],_=>trivial
 |_ ::_,_ ::_,h=>⟨h.1.mono hm,Zs.mono hm h.2⟩
 | [],_ ::_,h=>h.elim
 |_ ::_,[],h=>h.elim
def axM(μ:Mu):Option Key→Option Nat→Prop
 |none,none=>True
 |some k,some r=>∃ l,μ k=some l∧r=l.c
 |_,_=>False
structure IP(P:Program)(ρ:Nat→Int)(μ:Mu)(nt:Nat)(af:xC)(fr:Frame):Prop where
 fn:fr.fn=af.fn
 fnr:aji P af.fn nt af.res
 dfs:Zs ρ μ af.dfs fr.defers
 kind:fr.kind=if af.dfd then .deferred else .normal
 Ol:axM μ af.Ol fr.roundOf
 rd:af.Ol≠none→af.dfd=false
theorem IP.mono{P:Program}{ρ:Nat→Int}{μ μ':Mu}(hm:μ.le μ'){nt:Nat}{af:xC}{fr:Frame}(h:IP P ρ μ nt af fr):IP P ρ μ' nt af fr:=by
 refine⟨h.fn,h.fnr,h.dfs.mono hm,h.kind,?_,h.rd⟩
 have:=h.Ol
 cases h1:af.Ol<;>cases h2:fr.roundOf<;>rw[h1,h2] at this
 ·trivial
 ·exact this.elim
 ·exact this.elim
 ·obtain⟨l,e1,e2⟩:=this;exact⟨l,hm.l _ _ e1,e2⟩
def VB(ops:Array Oper)(nG:List Key):Prop:=∀ j t,tD ops j=some t→∃ k∈nG,k.toNat=t
inductive ae5(P:Program)(ρ:Nat→Int)(orc:pF)(μ:Mu)(G:Key→Option ab)(H:T ab)(nx:Key)(nt:Nat):List fE→T AV→List Item→Array Value→Prop
 |plain (k:List fE) (K:List Item) (tm:T AV) (tmps:Array Value) (h:tz P μ nt k K) (ht:pU ρ μ nt tm tmps):ae5 P ρ orc μ G H nx nt k tm K tmps
 |ready (ops:Array Oper) (pl:List J) (bf:List Nat) (g:Gh) (Ee:List IIt) (items:List bx) (nG:SD) (an:List (Nat×Key×ab)) (k:List fE) (K:List Item) (tm:T AV) (tmps:Array Value) (rest:List Nat)
   (hf:Ee.mapM (Ov pl)=some items) (hc:HW ops pl bf g.L Ee=true) (hd:VB ops nG.ds∧IA bf nG.mN=true) (h:tz P μ nt k K) (S:lg P ρ orc nt ops pl bf μ G H nx g (fun _=>False) an tm tmps rest) :
   ae5 P ρ orc μ G H nx nt (.staged items nG an ::k) tm (.inRegion ops rest ::K) tmps
 |back (ops:Array Oper) (pl:List J) (bf:List Nat) (g:Gh) (os:List (Nat×J)) (Ee:List IIt) (items:List bx) (nG:SD) (an:List (Nat×Key×ab)) (k:List fE) (K:List Item) (tm:T AV) (tmps:Array Value) (rest:List Nat)
   (hf:Ee.mapM (Ov pl)=some items) (hc:HW ops pl bf g.L Ee=true) (hd:VB ops nG.ds∧IA bf nG.mN=true) (h:tz P μ nt k K)
   (hos:∀ i po,(i,po)∈os→pl[i]?=some po∧Ot ops bf i=true∧yv pl i=0) (Vy:∀ i,hasB g.L i=true→g.D i=false→jC pl i=true→∃ po,(i,po)∈os)
   (S:lg P ρ orc nt ops pl bf μ G H nx g (fun i=>jC pl i=true) an tm tmps rest) :
   ae5 P ρ orc μ G H nx nt (.staged (.R os ::items) nG an ::k) tm (.inRegion ops rest ::K) tmps
inductive Yr(P:Program)(ρ:Nat→Int)(orc:pF)(μ:Mu)(G:Key→Option ab)(H:T ab)(nx:Key)(nt:Nat):List fE→T AV→List Item→Array Value→Prop
 |ops (o:J) (l:List J) (ops:Array Oper) (i:Nat) (rest:List Nat) (k:List fE) (K:List Item) (tm:T AV) (tmps:Array Value) (hp:tC P nt ops (i ::rest)=some (o ::l)) (h:tz P μ nt k K) (ht:pU ρ μ nt tm tmps) :
   Yr P ρ orc μ G H nx nt (.ops (o ::l) ::k) tm (.inRegion ops (i ::rest) ::K) tmps
 |staged (ops:Array Oper) (pl:List J) (bf:List Nat) (g:Gh) (i:Nat) (po:J) (ad:List Nat) (os:List (Nat×J)) (Ee:List IIt) (items:List bx) (nG:SD) (an:List (Nat×Key×ab)) (k:List fE) (K:List Item) (tm:T AV) (tmps:Array Value) (rest:List Nat)
   (vL:pl[i]?=some po) (hf:Ee.mapM (Ov pl)=some items) (hc:HW ops pl bf (Uc g.L i) Ee=true) (hL:hasB g.L i=false) (hbi:∀ j,j<ops.size→hasB (iY bf i) j=true→hasB g.L j=true) (hd:VB ops nG.ds∧IA bf nG.mN=true) (h:tz P μ nt k K)
   (hos:∀ i po,(i,po)∈os→pl[i]?=some po∧Ot ops bf i=true∧yv pl i=0) (Vy:∀ j,hasB g.L j=true→jC pl j=true→hasB (iY bf i) j=true∨∃ po,(j,po)∈os)
   (S:lg P ρ orc nt ops pl bf μ G H nx g (fun i=>jC pl i=true) an tm tmps (i ::rest)) :
   Yr P ρ orc μ G H nx nt (.staged (.H i po ad ::.R os ::items) nG an ::k) tm (.inRegion ops (i ::rest) ::K) tmps
 |rf (key:Key) (l:Loc) (k:List fE) (K:List Item) (tm:T AV) (tmps:Array Value) (hk:μ key=some l) (h:tz P μ nt k K) (ht:pU ρ μ nt tm tmps):Yr P ρ orc μ G H nx nt (.inRF key ::k) tm (.inRangeFunc l.c ::K) tmps
inductive Cur(P:Program)(ρ:Nat→Int)(orc:pF)(μ:Mu)(G:Key→Option ab)(H:T ab)(nx:Key)(af:xC)(fr:Frame):Prop
 |run (nt:Nat) (hb:IP P ρ μ nt af fr) (h1:af.mode=.run) (h2:fr.mode=.run) (h:ae5 P ρ orc μ G H nx nt af.todo af.tm fr.todo fr.tmps):Cur P ρ orc μ G H nx af fr
 |ret (nt:Nat) (hb:IP P ρ μ nt af fr) (h1:af.mode=.ret) (h2:fr.mode=.returning) (h3:af.todo=[]∨∃ k,af.todo=.code .ret ::k) (h:pU ρ μ nt af.tm fr.tmps):Cur P ρ orc μ G H nx af fr
 |pan (nt:Nat) (hb:IP P ρ μ nt af fr) (v:AV) (u:Value) (r:Bool) (h1:af.mode=.pan v r) (h2:fr.mode=.panicking [{v:=u,recovered:=r}]) (hv:bn ρ μ v u) (h3:af.todo=[]) (h:pU ρ μ nt af.tm fr.tmps):Cur P ρ orc μ G H nx af fr
inductive Sus(P:Program)(ρ:Nat→Int)(orc:pF)(μ:Mu)(G:Key→Option ab)(H:T ab)(nx:Key)(af:xC)(fr:Frame):Prop
 |wait (nt:Nat) (hb:IP P ρ μ nt af fr) (h1:af.mode=.run) (h2:fr.mode=.run) (h:Yr P ρ orc μ G H nx nt af.todo af.tm fr.todo fr.tmps):Sus P ρ orc μ G H nx af fr
 |unw (h:Cur P ρ orc μ G H nx af fr) (hm:af.mode≠.run):Sus P ρ orc μ G H nx af fr
def fk(P:Program)(ρ:Nat→Int)(orc:pF)(μ:Mu)(G:Key→Option ab)(H:T ab)(nx:Key):List xC→List Frame→Prop
 | [],[]=>True
 |a ::l,f ::fs=>Sus P ρ orc μ G H nx a f∧fk P ρ orc μ G H nx l fs
 |_,_=>False
def pk(af:xC):List Nat:=match af.todo with
 |.staged _ _ p ::_=>p.map (·.2.1.toNat)
 |_=>[]
def bX:List xC→List Nat
 | []=>[]
 |a ::l=>pk a++bX l
structure Yp(P:Program)(ρ:Nat→Int)(orc:pF)(w0:W0)(μ0:Mu)(am:AM)(fr:Frame)(cs:List Frame)(w:World):Prop where
 ex:∃ μ G,μ0.le μ∧bG P ρ w0 μ G am.nx.toNat w∧HSub am.h G∧Cur P ρ orc μ G am.h am.nx am.fr fr∧fk P ρ orc μ G am.h am.nx am.cs cs∧(bX (am.fr ::am.cs)).Nodup
section
variable{P:Program}{ρ:Nat→Int}{orc:pF}{μ μ':Mu}{G G':Key→Option ab}{H H':T ab}{nx nx':Key}
theorem Yr.Bx(hm:μ.le μ')(hn:nx.toNat≤nx'.toNat){nt:Nat}{k:List fE}{tm:T AV}{K:List Item}{tmps:Array Value}(h:Yr P ρ orc μ G H nx nt k tm K tmps)
  (hk:∀ b:Key,(∀ i d p k',k=.staged i d p ::k'→b.toNat∈p.map (·.2.1.toNat))→(∃ i d p k',k=.staged i d p ::k')→aa b H=none→b.toNat<nx.toNat→μ' b=μ b∧G' b=G b∧aa b H'=none):Yr P ρ orc μ' G' H' nx' nt k tm K tmps:=by
 cases h with
 |ops o l ops i rest k K tm tmps hp h ht=>exact .ops o l ops i rest k K tm tmps hp (h.mono hm) (ht.mono hm)
 |rf key l k K tm tmps agn h ht=>exact .rf key l k K tm tmps (hm.l _ _ agn) (h.mono hm) (ht.mono hm)
 |staged ops pl bf g i po ad os Ee items nG an k K tm tmps rest vL hf hc hL hbi hd h hos Vy S=>
  refine .staged ops pl bf g i po ad os Ee items nG an k K tm tmps rest vL hf hc hL hbi hd (h.mono hm) hos Vy (S.Bx hm hn fun x hx=>?_)
  obtain⟨_,_,_,p4,p5⟩:=S.pe x hx
  refine hk x.2.1 ?_ ⟨_,_,_,_,rfl⟩ p4 p5
  intro i d p k' e
  cases e
  exact Vn.2 ⟨x,hx,rfl⟩
theorem Sus.Bx(hm:μ.le μ')(hn:nx.toNat≤nx'.toNat){af:xC}{fr:Frame}(h:Sus P ρ orc μ G H nx af fr)
  (hk:∀ b:Key,b.toNat∈pk af→aa b H=none→b.toNat<nx.toNat→μ' b=μ b∧G' b=G b∧aa b H'=none):Sus P ρ orc μ' G' H' nx' af fr:=by
 cases h with
 |wait nt hb h1 h2 h=>
  refine .wait nt (hb.mono hm) h1 h2 (h.Bx hm hn fun b h3 ⟨i,d,p,k',e⟩ h4 h5=>hk b ?_ h4 h5)
  unfold pk
  rw[e]
  exact h3 i d p k' e
 |unw h KW=>
  refine .unw ?_ KW
  cases h with
  |run nt hb h1=>exact absurd h1 KW
  |ret nt hb h1 h2 h3 h=>exact .ret nt (hb.mono hm) h1 h2 h3 (h.mono hm)
  |pan nt hb v u r h1 h2 hv h3 h=>exact .pan nt (hb.mono hm) v u r h1 h2 (hv.mono hm) h3 (h.mono hm)
theorem fk.Bx(hm:μ.le μ')(hn:nx.toNat≤nx'.toNat):∀ {l:List xC} {fs:List Frame},fk P ρ orc μ G H nx l fs→
  (∀ b:Key,b.toNat∈bX l→aa b H=none→b.toNat<nx.toNat→μ' b=μ b∧G' b=G b∧aa b H'=none)→fk P ρ orc μ' G' H' nx' l fs
 | [],[],_,_=>trivial
 |_ ::_,_ ::_,h,hk=>⟨h.1.Bx hm hn fun b hb=>hk b (by simp[bX,hb]),fk.Bx hm hn h.2 fun b hb=>hk b (by simp[bX,hb])⟩
 | [],_ ::_,h,_=>h.elim
 |_ ::_,[],h,_=>h.elim
end
end Go.Sx
/-
 SX: simulation: rows of operations in their order. No condition.
-/
namespace Go.Sx
open Go.RowKit
section
variable{P:Program}{ρ:Nat→Int}{orc:pF}{nt:Nat}{w0:W0}{cs:List Frame}{K:List Item}{ops:Array Oper}
theorem pU.put{μ:Mu}{tm:T AV}{tmps:Array Value}(h:pU ρ μ nt tm tmps){o:Oper}{po:J}(hd:(o.dst=none∧po.dst=none)∨∃ k,o.dst=some k.toNat∧po.dst=some k∧k.toNat<nt){a:AV}{v:Value}(hv:bn ρ μ a v) :
  pU ρ μ nt (cx po.dst a tm) (RM o.dst v tmps):=by
 rcases hd with⟨e1,e2⟩|⟨k,e1,e2,aM⟩
 ·rw[e1,e2];exact h
 ·rw[e1,e2]
  refine⟨by simp[RM];exact h.1,fun q b hb=>?_⟩
  simp only[cx] at hb
  simp only[RM]
  by_cases hq:q=k
  ·subst hq
   rw[gTSm] at hb;cases hb
   have:q.toNat<tmps.size:=YK aM h.1
   exact⟨v,by simp[this],hv⟩
  ·rw[bU _ _ _ _ hq] at hb
   obtain⟨u,hu,hr⟩:=h.2 q b hb
   refine⟨u,?_,hr⟩
   rw[zqn]
   ·exact hu
   ·intro e;exact hq (Key.toNat_inj e.symm)
theorem aiL{o:Oper}{op:T7}(hp:lW P nt o=some op)(hd:fI o.op=true):∃ v l,op=.dfr v l:=by
 obtain⟨dst,Eh,ty,pos,after,guard⟩:=o
 cases Eh<;>first|(cases hd;done)|skip
 rename_i c
 simp only[lW] at hp
 split at hp
 ·split at hp
  ·simp only[dO] at hp;exact⟨_,_,hp.symm⟩
  ·cases hp
 ·cases hp
theorem Ef{o:Oper}{op:T7}(hp:lW P nt o=some op){tm:T AV}{H:T ab}{nx:Key}(h1:∀ f l,aOp orc op tm H nx≠.dfr f l)(h2:∀ n,aOp orc op tm H nx≠.bad n):fI o.op=false:=by
 cases hd:fI o.op with
 |false=>rfl
 |true=>
  obtain⟨v,l,rfl⟩:=aiL hp hd
  exfalso
  have key:(∃ f l',aOp orc (.dfr v l) tm H nx=.dfr f l')∨∃ n,aOp orc (.dfr v l) tm H nx=.bad n:=by
   simp only[aOp]
   split
   ·exact .inl ⟨_,_,rfl⟩
   ·exact .inr ⟨_,rfl⟩
  rcases key with⟨f,l',e⟩|⟨n,e⟩
  ·exact h1 _ _ e
  ·exact h2 _ e
def alb(P:Program)(ρ:Nat→Int)(orc:pF)(nt:Nat)(w0:W0)(cs:List Frame)(K:List Item)(ops:Array Oper)(fr:Frame)(w:World)(μ:Mu)(G:Key→Option ab)(H:T ab)(nx:Key):RR→Prop
 |.fin tm' h' nx'=>∃ eN w' μ' G',Steps P (lone fr cs w) (lone {fr with tmps:=eN,todo:=K} cs w')∧μ.le μ'∧bG P ρ w0 μ' G' nx'.toNat w'∧HSub h' G'∧pU ρ μ' nt tm' eN∧Kept H h' nx nx' μ μ' G G'
 |.ev r l' tm' h' nx'=>(∃ n,r=.bad n)∨∃ eN w' μ' G' i qD po ll o,Steps P (lone fr cs w) (lone {fr with tmps:=eN,todo:=.inRegion ops (i ::qD) ::K} cs w')∧μ.le μ'∧bG P ρ w0 μ' G' nx'.toNat w'∧HSub h' G'∧
   pU ρ μ' nt tm' eN∧Kept H h' nx nx' μ μ' G G'∧l'=po ::ll∧tC P nt ops (i ::qD)=some l'∧ops[i]?=some o∧Wm P nt ops o=some po∧Region.wanted o (yielded ops eN)=true∧aOp orc po.op tm' h' nx'=r∧¬ Lp r
theorem vE(orc:pF)(o:J)(rest:List J)(tm:T AV)(h:T ab)(nx:Key):pW orc (o ::rest) tm h nx=(match dm o.guard tm with
   |none=>.ev (.bad 30) (o ::rest) tm h nx
   |some false=>Ew o.dst (some (.tuple [])) tm fun tm=>pW orc rest tm h nx
   |some true=>match aOp orc o.op tm h nx with
    |.val v h nx=>Ew o.dst (some v) tm fun tm=>pW orc rest tm h nx
    |r=>.ev r (o ::rest) tm h nx):=rfl
theorem Uk(ho:jt ρ orc):∀ (l:List J) (rest:List Nat) (fr:Frame) (w:World) (μ:Mu) (G:Key→Option ab) (H:T ab) (nx:Key) (tm:T AV),tC P nt ops rest=some l→bG P ρ w0 μ G nx.toNat w→HSub H G→pU ρ μ nt tm fr.tmps→
  fr.mode=.run→fr.todo=.inRegion ops rest ::K→alb P ρ orc nt w0 cs K ops fr w μ G H nx (pW orc l tm H nx)
 | [],rest,fr,w,μ,G,H,nx,tm,hp,hM,hH,hT,hm,ht=>by
  cases rest with
  |cons i r=>simp only[tC] at hp;split at hp;cases hp;split at hp<;>cases hp
  |nil=>exact⟨fr.tmps,w,μ,G,.one (SV hm ht),μ.le_refl,hM,hH,hT,Kept.refl _ _ _ _⟩
 |po ::l,rest,fr,w,μ,G,H,nx,tm,hp,hM,hH,hT,hm,ht=>by
  cases rest with
  |nil=>simp only[tC,dO] at hp;cases hp
  |cons i r=>
  have hp0:=hp
  simp only[tC] at hp
  split at hp
  ·cases hp
  ·rename_i o We
   split at hp
   ·rename_i po' l' h1 h2
    simp only[dO,List.cons.injEq] at hp
    obtain⟨rfl,rfl⟩:=hp
    obtain⟨GG,hgu,Lq⟩:=ma h1
    have hs:∀ (k:Key) a,k.toNat∈ra ops o→aa k tm=some a→∃ v,fr.tmps[k.toNat]?=some v∧bn ρ μ a v:=fun k a _ hg=>hT.2 k a hg
    have hE:=Ri (P:=P) (nt:=nt) (o:=o) hM hs
    rw[vE]
    have go:∀ (xD:T AV) (tmps2:Array Value) (w2:World) (μ2:Mu) (G2:Key→Option ab) (H2:T ab) (aH:Key),step P (lone fr cs w)=.next (lone {fr with tmps:=tmps2,todo:=.inRegion ops r ::K} cs w2)→μ.le μ2→bG P ρ w0 μ2 G2 aH.toNat w2→HSub H2 G2→pU ρ μ2 nt xD tmps2→Kept H H2 nx aH μ μ2 G G2→
      alb P ρ orc nt w0 cs K ops fr w μ G H nx (pW orc l' xD H2 aH):=by
     intro xD tmps2 w2 μ2 G2 H2 aH iZ hle hM2 hH2 hT2 hK2
     have ih:=Uk ho l' r {fr with tmps:=tmps2,todo:=.inRegion ops r ::K} w2 μ2 G2 H2 aH xD h2 hM2 hH2 hT2 hm rfl
     cases aaj:pW orc l' xD H2 aH with
     |fin tm' h' nx'=>
      rw[aaj] at ih
      obtain⟨eN,w',μ',G',s1,s2,s3,s4,s5,s6⟩:=ih
      exact⟨eN,w',μ',G',.head iZ s1,Mu.le_trans hle s2,s3,s4,s5,hK2.trans s6⟩
     |ev rr ll tm' h' nx'=>
      rw[aaj] at ih
      rcases ih with hb|⟨eN,w',μ',G',i',qD,po',ll',o',s1,s2,s3,s4,s5,s6,s7,s8,s9,s10,s11,s12,s13⟩
      ·exact .inl hb
      ·exact .inr ⟨eN,w',μ',G',i',qD,po',ll',o',.head iZ s1,Mu.le_trans hle s2,s3,s4,s5,hK2.trans s6,s7,s8,s9,s10,s11,s12,s13⟩
    cases hw:dm po'.guard tm with
    |none=>exact .inl ⟨_,rfl⟩
    |some b=>
     have um:=KX hgu hs hw
     cases b with
     |false=>
      simp only[fj]
      have iZ:=TX (P:=P) (cs:=cs) (w:=w) hm ht We um
      rw[de ht We] at iZ
      exact go _ _ w μ G H nx iZ μ.le_refl hM hH (hT.put Lq (.tuple _ _ .nil)) (Kept.refl _ _ _ _)
     |true=>
      cases ha:aOp orc po'.op tm H nx with
      |val a H2 aH=>
       simp only[fj]
       obtain⟨n,w2,μ2,G2,r1,r2,r3,r4,r5,r6⟩:=abm hM hH ho GG hE ha
       have VA:fr.roundOf=none∨fI o.op=false:=.inr (Ef GG (by rw[ha];intro f l e;cases e) (by rw[ha];intro n e;cases e))
       cases n with
       |value v=>
        have iZ:=Yt (P:=P) (cs:=cs) hm ht We um VA r1
        rw[de ht We] at iZ
        exact go _ _ w2 μ2 G2 H2 aH iZ r3 r4 r5 ((hT.mono r3).put Lq r2) r6
       |skip=>
        have r2:a=.tuple []:=r2
        subst r2
        have iZ:=ahq (P:=P) (cs:=cs) hm ht We um VA r1
        rw[de ht We] at iZ
        exact go _ _ w2 μ2 G2 H2 aH iZ r3 r4 r5 ((hT.mono r3).put Lq (.tuple _ _ .nil)) r6
       |_=>exact r2.elim
      |bad n=>exact .inl ⟨_,rfl⟩
      |call f args=>exact .inr ⟨fr.tmps,w,μ,G,i,r,po',l',o,by rw[← ht];exact Steps.refl _ _,μ.le_refl,hM,hH,hT,Kept.refl _ _ _ _,rfl,hp0,We,h1,um,ha,by rintro(⟨_,_,_,e⟩|⟨_,e⟩)<;>cases e⟩
      |yld k args=>exact .inr ⟨fr.tmps,w,μ,G,i,r,po',l',o,by rw[← ht];exact Steps.refl _ _,μ.le_refl,hM,hH,hT,Kept.refl _ _ _ _,rfl,hp0,We,h1,um,ha,by rintro(⟨_,_,_,e⟩|⟨_,e⟩)<;>cases e⟩
      |pan v=>exact .inr ⟨fr.tmps,w,μ,G,i,r,po',l',o,by rw[← ht];exact Steps.refl _ _,μ.le_refl,hM,hH,hT,Kept.refl _ _ _ _,rfl,hp0,We,h1,um,ha,by rintro(⟨_,_,_,e⟩|⟨_,e⟩)<;>cases e⟩
      |dfr f args=>exact .inr ⟨fr.tmps,w,μ,G,i,r,po',l',o,by rw[← ht];exact Steps.refl _ _,μ.le_refl,hM,hH,hT,Kept.refl _ _ _ _,rfl,hp0,We,h1,um,ha,by rintro(⟨_,_,_,e⟩|⟨_,e⟩)<;>cases e⟩
      |recover=>exact .inr ⟨fr.tmps,w,μ,G,i,r,po',l',o,by rw[← ht];exact Steps.refl _ _,μ.le_refl,hM,hH,hT,Kept.refl _ _ _ _,rfl,hp0,We,h1,um,ha,by rintro(⟨_,_,_,e⟩|⟨_,e⟩)<;>cases e⟩
      |alt la=>exact .inr ⟨fr.tmps,w,μ,G,i,r,po',l',o,by rw[← ht];exact Steps.refl _ _,μ.le_refl,hM,hH,hT,Kept.refl _ _ _ _,rfl,hp0,We,h1,um,ha,by rintro(⟨_,_,_,e⟩|⟨_,e⟩)<;>cases e⟩
   ·cases hp
end
end Go.Sx
/-
 SX: simulation: regions that draw their order. No condition.
-/
namespace Go.Sx
open Go.RowKit
structure Mm(E:List Nat)(H H':T ab)(nx nx':Key)(μ μ':Mu)(G G':Key→Option ab):Prop where
 k:∀ b:Key,b.toNat∉E→aa b H=none→b.toNat<nx.toNat→μ' b=μ b∧G' b=G b∧aa b H'=none
 n:nx.toNat≤nx'.toNat
theorem Mm.refl(E:List Nat)(H:T ab)(nx:Key)(μ:Mu)(G:Key→Option ab):Mm E H H nx nx μ μ G G:=⟨fun _ _ h _=>⟨rfl,rfl,h⟩,bS _⟩
theorem Mm.trans{E E2:List Nat}{H1 H2 H3:T ab}{n1 n2 n3:Key}{m1 m2 m3:Mu}{G1 G2 G3:Key→Option ab}(a:Mm E H1 H2 n1 n2 m1 m2 G1 G2)(b:Mm E2 H2 H3 n2 n3 m2 m3 G2 G3)(hE:∀ x∈E2,x∈E∨n1.toNat≤x):Mm E H1 H3 n1 n3 m1 m3 G1 G3:=by
 refine⟨fun k hk hg hl=>?_,Nat.le_trans a.n b.n⟩
 obtain⟨a1,a2,a3⟩:=a.k k hk hg hl
 have hk2:k.toNat∉E2:=by
  intro h
  rcases hE _ h with h|h
  ·exact hk h
  ·omega
 obtain⟨b1,b2,b3⟩:=b.k k hk2 a3 (YK hl a.n)
 exact⟨b1.trans a1,b2.trans a2,b3⟩
theorem Kept.toE{H H':T ab}{nx nx':Key}{μ μ':Mu}{G G':Key→Option ab}(h:Kept H H' nx nx' μ μ' G G')(E:List Nat):Mm E H H' nx nx' μ μ' G G':=
 ⟨fun b _ hg hl=>⟨h.m b hl,h.g b hg hl,h.h b hg hl⟩,h.n⟩
section
variable{P:Program}{ρ:Nat→Int}{orc:pF}{nt:Nat}{ops:Array Oper}{pl:List J}{bf:List Nat}{w0:W0}{w:World}{μ μ':Mu}{G G':Key→Option ab}{H H':T ab}{nx nx':Key}{g:Gh}{SS axX:Nat→Prop}{an pend':List (Nat×Key×ab)}{tm:T AV}{tmps:Array Value}{rest:List Nat}{fr:Frame}{cs:List Frame}{K:List Item}{i:Nat}
theorem lg.apz(S:lg P ρ orc nt ops pl bf μ G H nx g SS an tm tmps (i ::rest)){po:J}(vL:pl[i]?=some po)(hL:hasB g.L i=false)(hb:∀ j,j<ops.size→hasB (iY bf i) j=true→hasB g.L j=true)
  {o:Oper} (ho:ops[i]?=some o) {a:AV} {v:Value} (hv:bn ρ μ a v) :
  lg P ρ orc nt ops pl bf μ G H nx {L:=Uc g.L i,D:=fun j=>g.D j||j==i,a0:=g.a0,val:=Gz g.val i (some a)} SS an (cx po.dst a tm) (RM o.dst v tmps) rest:=by
 obtain⟨hi,hDi,hbf⟩:=S.ready
 obtain⟨o',po',ho',hpo,RN⟩:=S.Zv.at hi
 rw[vL] at RN;cases RN
 rw[ho] at ho';cases ho'
 obtain⟨GG,hgu,Lq⟩:=ma hpo
 have hdi:tD ops i=o.dst:=by simp[tD,ho]
 have asq:∀ x,o.dst=some x→x<tmps.size:=by
  intro x hx
  rcases Lq with⟨h,_⟩|⟨k,h,_,aM⟩
  ·rw[h] at hx;cases hx
  ·rw[h] at hx;cases hx;exact YK aM S.sz
 have sm:=fun t=>ahl (v:=v) t asq
 have akU:(RM o.dst v tmps).size=tmps.size:=by
  cases o.dst<;>simp[RM]
 have hD':∀ j,((g.D j||j==i)=true)↔(g.D j=true∨j=i):=by intro j;simp
 have Ve:∀ j,hasB (Uc g.L i) j=true↔(hasB g.L j=true∨j=i):=by
  intro j;rw[Un,Bool.or_eq_true,decide_eq_true_eq]
  exact⟨fun h=>h.imp id Eq.symm,fun h=>h.imp id Eq.symm⟩
 have hnb:∀ p,hasB g.L p=true→hasB (iY bf p) i=false:=by
  intro p hp
  cases h:hasB (iY bf p) i with
  |false=>rfl
  |true=>have:=S.lcl p hp i hi h;rw[hL] at this;cases this
 refine⟨S.Zv,S.ord.2.2.2,?_,?_,?_,?_,?_,?_,by rw[akU];exact S.sz,?_,?_,?_,?_,S.nk,S.ni⟩
 ·intro j oj hj hoj e he HX
  rcases (hD' j).1 hj with h|h
  ·exact(hD' _).2 (.inl (S.cl j oj h hoj e he HX))
  ·subst h
   exact(hD' _).2 (.inl (S.ord.2.2.1 oj hoj e he HX))
 ·intro j hj
  rcases (hD' j).1 hj with h|h
  ·exact(Ve j).2 (.inl (S.sub j h))
  ·exact(Ve j).2 (.inr h)
 ·intro j hj
  rcases (Ve j).1 hj with h|h
  ·exact S.UZ j h
  ·subst h;exact hi
 ·intro j hj q hq hbq
  rcases (Ve j).1 hj with h|h
  ·exact(Ve q).2 (.inl (S.lcl j h q hq hbq))
  ·subst h;exact(Ve q).2 (.inl (hb q hq hbq))
 ·intro k j hj hd
  rcases Lq with⟨e1,e2⟩|⟨kd,e1,e2,_⟩
  ·rcases (Ve j).1 hj with h|h
   ·have eM:j≠i:=by intro e;subst e;rw[hL] at h;cases h
    rw[e2]
    simp only[cx,Gz,eM,if_false]
    exact S.a1 k j h hd
   ·subst h;rw[hdi,e1] at hd;cases hd
  ·rw[e2]
   simp only[cx]
   rcases (Ve j).1 hj with h|h
   ·have eM:j≠i:=by intro e;subst e;rw[hL] at h;cases h
    have hk:k≠kd:=by
     intro e;subst e
     exact eM (S.Zv.XS hd (hdi.trans e1))
    rw[bU _ _ _ _ hk]
    simp only[Gz,eM,if_false]
    exact S.a1 k j h hd
   ·subst h
    rw[hdi,e1] at hd
    have hk:k=kd:=Key.toNat_inj (by simpa using hd.symm)
    subst hk
    rw[gTSm]
    simp[Gz]
 ·intro k WO
  rcases Lq with⟨e1,e2⟩|⟨kd,e1,e2,_⟩
  ·rw[e2]
   exact S.a2 k fun j hj=>WO j ((Ve j).2 (.inl hj))
  ·rw[e2]
   simp only[cx]
   have hk:k≠kd:=by
    intro e;subst e
    exact WO i ((Ve i).2 (.inr rfl)) (hdi.trans e1)
   rw[bU _ _ _ _ hk]
   exact S.a2 k fun j hj=>WO j ((Ve j).2 (.inl hj))
 ·intro k j b hj hjd hjv
  rw[sm]
  rcases (hD' j).1 hj with h|h
  ·have eM:j≠i:=by intro e;subst e;rw[hDi] at h;cases h
   by_cases e:o.dst=some k.toNat
   ·exact absurd (S.Zv.XS (hdi.trans e) hjd).symm eM
   ·rw[if_neg e]
    exact S.c1 k j b h hjd (by simpa[Gz,eM] using hjv)
  ·subst h
   rw[hdi] at hjd
   rw[if_pos hjd]
   have hjv:b=a:=by simpa[Gz] using hjv.symm
   subst hjv
   exact⟨v,rfl,hv⟩
 ·intro k b WO ha
  rw[sm]
  have hni:o.dst≠some k.toNat:=by
   intro e
   exact WO i ((hD' i).2 (.inr rfl)) (hdi.trans e)
  rw[if_neg hni]
  exact S.c2 k b (fun j hj=>WO j ((hD' j).2 (.inl hj))) ha
 ·intro j hj hjD
  have hjD:(g.D j||j==i)=false:=hjD
  rw[Bool.or_eq_false_iff] at hjD
  have eM:j≠i:=by simpa using hjD.2
  have hjL:=((Ve j).1 hj).resolve_right eM
  exact(S.pd j hjL hjD.1).QK (hnb j hjL) eM (fun _ h=>h) (fun _ h=>.inl h)
 ·intro x hx
  obtain⟨p1,p2,p3,p4,p5⟩:=S.pe x hx
  have eM:x.1≠i:=by intro e;rw[e,hL] at p1;cases p1
  refine⟨(Ve _).2 (.inl p1),fun h=>p2 (((hD' _).1 h).resolve_right eM),fun h=>p3 ?_,p4,p5⟩
  have h:(g.D x.1||x.1==i)=false:=h
  rw[Bool.or_eq_false_iff] at h
  exact h.1
theorem lg.Yv(S:lg P ρ orc nt ops pl bf μ G H nx g SS an tm tmps (i ::rest))(hL:hasB g.L i=false)(hb:∀ j,j<ops.size→hasB (iY bf i) j=true→hasB g.L j=true){o:Oper}(ho:ops[i]?=some o) :
  ∀ (k:Key) a,k.toNat∈ra ops o→aa k tm=some a→∃ v,tmps[k.toNat]?=some v∧bn ρ μ a v:=
 S.UY (S.alJ S.ready.1 hL hb) ho
theorem T1:∀ {p:List (Nat×Key×ab)} {h:T ab},HSub h G→(∀ x∈p,G x.2.1=some x.2.2)→HSub (ew p h) G
 | [],h,hs,_=>hs
 |x ::p,h,hs,hp=>by
  refine T1 (p:=p) ?_ (fun y hy=>hp y (by simp[hy]))
  intro b B hb
  by_cases e:b=x.2.1
  ·subst e;rw[gTSm] at hb;cases hb;exact hp x (by simp)
  ·rw[bU _ _ _ _ e] at hb;exact hs b B hb
theorem HU:∀ {p:List (Nat×Key×ab)} {h:T ab} {b:Key},aa b h=none→(∀ x∈p,x.2.1.toNat≠b.toNat)→aa b (ew p h)=none
 | [],h,b,hb,_=>hb
 |x ::p,h,b,hb,hp=>by
  refine HU (p:=p) ?_ (fun y hy=>hp y (by simp[hy]))
  rw[bU _ _ _ _ (fun e=>hp x (by simp) (by rw[e]))]
  exact hb
end
end Go.Sx
/-
 SX: simulation: regions that draw their order, from one event to the next. No condition.
-/
namespace Go.Sx
open Go.RowKit
def vM(p:List (Nat×Key×ab)):List Nat:=p.map (·.2.1.toNat)
def S6(P:Program)(ρ:Nat→Int)(orc:pF)(nt:Nat)(w0:W0)(cs:List Frame)(K:List Item)(ops:Array Oper)(pl:List J)(bf:List Nat)(fr:Frame)(w:World)(μ:Mu)(G:Key→Option ab)(H:T ab)(nx:Key)(an:List (Nat×Key×ab)):RS→Prop
 |.fin tm' h' nx'=>∃ eN w' μ' G',Steps P (lone fr cs w) (lone {fr with tmps:=eN,todo:=K} cs w')∧μ.le μ'∧bG P ρ w0 μ' G' nx'.toNat w'∧HSub h' G'∧pU ρ μ' nt tm' eN∧Mm (vM an) H h' nx nx' μ μ' G G'
 |.ev r Ti pend' tm' h' nx'=>(∃ n,r=.bad n)∨∃ eN w' μ' G' g' i po o ad os aak ri qD,
   Steps P (lone fr cs w) (lone {fr with tmps:=eN,todo:=.inRegion ops (i ::qD) ::K} cs w')∧μ.le μ'∧bG P ρ w0 μ' G' nx'.toNat w'∧HSub h' G'∧
   Ti=.H i po ad ::.R os ::ri∧pl[i]?=some po∧aak.mapM (Ov pl)=some ri∧HW ops pl bf (Uc (Gh.L g') i) aak=true∧hasB g'.L i=false∧(∀ j,j<ops.size→hasB (iY bf i) j=true→hasB g'.L j=true)∧
   (∀ i po,(i,po)∈os→pl[i]?=some po∧Ot ops bf i=true∧yv pl i=0)∧(∀ j,hasB g'.L j=true→jC pl j=true→hasB (iY bf i) j=true∨∃ po,(j,po)∈os)∧
   lg P ρ orc nt ops pl bf μ' G' h' nx' g' (fun i=>jC pl i=true) pend' tm' eN (i ::qD)∧ops[i]?=some o∧Wm P nt ops o=some po∧Region.wanted o (yielded ops eN)=true∧
   aOp orc po.op tm' h' nx'=r∧¬ Lp r∧Mm (vM an) H h' nx nx' μ μ' G G'∧(∀ x∈vM pend',x∈vM an∨nx.toNat≤x)
section
variable{P:Program}{ρ:Nat→Int}{orc:pF}{nt:Nat}{ops:Array Oper}{pl:List J}{bf:List Nat}{w0:W0}{cs:List Frame}{K:List Item}
theorem S6.step{fr:Frame}{w:World}{μ:Mu}{G:Key→Option ab}{H:T ab}{nx:Key}{an:List (Nat×Key×ab)}{tmps2:Array Value}{rest2:List Nat}{w2:World}{μ2:Mu}{G2:Key→Option ab}{H2:T ab}{aH:Key}{pend2:List (Nat×Key×ab)}{r:RS}
  (iZ:Steps P (lone fr cs w) (lone {fr with tmps:=tmps2,todo:=.inRegion ops rest2 ::K} cs w2)) (hle:μ.le μ2) (hk:Mm (vM an) H H2 nx aH μ μ2 G G2) (hE:∀ x∈vM pend2,x∈vM an∨nx.toNat≤x)
  (h:S6 P ρ orc nt w0 cs K ops pl bf {fr with tmps:=tmps2,todo:=.inRegion ops rest2 ::K} w2 μ2 G2 H2 aH pend2 r):S6 P ρ orc nt w0 cs K ops pl bf fr w μ G H nx an r:=by
 cases r with
 |fin tm' h' nx'=>
  obtain⟨eN,w',μ',G',s1,s2,s3,s4,s5,s6⟩:=h
  exact⟨eN,w',μ',G',iZ.trans s1,Mu.le_trans hle s2,s3,s4,s5,hk.trans s6 hE⟩
 |ev rr it pd tm' h' nx'=>
  rcases h with hb|⟨eN,w',μ',G',g',i,po,o,ad,os,aak,ri,qD,s1,s2,s3,s4,s5,s6,s7,s8,s9,s10,s11,s12,s13,s14,s15,s16,s17,s18,s19,s20⟩
  ·exact .inl hb
  ·refine .inr ⟨eN,w',μ',G',g',i,po,o,ad,os,aak,ri,qD,iZ.trans s1,Mu.le_trans hle s2,s3,s4,s5,s6,s7,s8,s9,s10,s11,s12,s13,s14,s15,s16,s17,s18,hk.trans s19 hE,fun x hx=>?_⟩
   rcases s20 x hx with h|h
   ·exact hE x h
   ·exact .inr (Nat.le_trans hk.n h)
theorem nv{α β:Type}{f:α→Option β}{a:α}{l:List α}{r:List β}(h:(a ::l).mapM f=some r):∃ b r',f a=some b∧l.mapM f=some r'∧r=b ::r':=by
 rw[List.mapM_cons] at h
 cases hf:f a with
 |none=>rw[hf] at h;cases h
 |some b=>
  cases hl:l.mapM f with
  |none=>rw[hf] at h;simp[hl] at h
  |some r'=>rw[hf] at h;simp[hl] at h;exact⟨b,r',rfl,rfl,h.symm⟩
theorem acU(orc:pF)(mN:List (Nat×List Nat))(i:Nat)(o:J)(rest:List bx)(an:List (Nat×Key×ab))(tm:T AV)(h:T ab)(nx:Key):mh orc mN (.L i o ::rest) an tm h nx=(match dm o.guard tm with
   |none=>.ev (.bad 31) (.L i o ::rest) an tm h nx
   |some false=>Ew o.dst (some (.tuple [])) tm fun tm=>mh orc mN rest an tm h nx
   |some true=>match lightOp orc o.op tm (Ey (NR i mN) an h) with
    |some v=>Ew o.dst (some v) tm fun tm=>mh orc mN rest an tm h nx
    |none=>.ev (.bad 32) (.L i o ::rest) an tm h nx):=rfl
theorem acV(orc:pF)(mN:List (Nat×List Nat))(i:Nat)(o:J)(rest:List bx)(an:List (Nat×Key×ab))(tm:T AV)(h:T ab)(nx:Key):mh orc mN (.A i o ::rest) an tm h nx=(match dm o.guard tm with
   |none=>.ev (.bad 33) (.A i o ::rest) an tm h nx
   |some false=>Ew o.dst (some (.tuple [])) tm fun tm=>mh orc mN rest an tm h nx
   |some true=>match allocOp o.op tm with
    |some (v,b)=>Ew o.dst (some (v nx)) tm fun tm=>mh orc mN rest ((i,nx,b) ::an) tm h nx.succ
    |none=>.ev (.bad 34) (.A i o ::rest) an tm h nx):=rfl
theorem acW(orc:pF)(mN:List (Nat×List Nat))(i:Nat)(o:J)(l:List Nat)(rest:List bx)(an:List (Nat×Key×ab))(tm:T AV)(h:T ab)(nx:Key):mh orc mN (.H i o l ::rest) an tm h nx=(Ou l an h fun an h=>match dm o.guard tm with
   |none=>.ev (.bad 35) (.H i o l ::rest) an tm h nx
   |some false=>Ew o.dst (some (.tuple [])) tm fun tm=>mh orc mN rest an tm h nx
   |some true=>match aOp orc o.op tm h nx with
    |.val v h nx=>Ew o.dst (some v) tm fun tm=>mh orc mN rest an tm h nx
    |r=>.ev r (.H i o l ::rest) an tm h nx):=rfl
theorem acz(orc:pF)(mN:List (Nat×List Nat))(os:List (Nat×J))(rest:List bx)(an:List (Nat×Key×ab))(tm:T AV)(h:T ab)(nx:Key):mh orc mN (.R os ::rest) an tm h nx =
  (bif recheck orc mN an tm h os then mh orc mN rest an tm h nx else .ev (.bad 36) (.R os ::rest) an tm h nx):=rfl
theorem alN{os:List Nat}{l:List (Nat×J)}(h:(os.mapM fun i=>(pl[i]?).map fun o=>(i,o))=some l):(∀ i po,(i,po)∈l→i∈os∧pl[i]?=some po)∧(∀ i∈os,∃ po,(i,po)∈l):=by
 induction os generalizing l with
 |nil=>simp at h;subst h;simp
 |cons a os ih=>
  obtain⟨b,r,h1,h2,rfl⟩:=nv h
  obtain⟨po,hpo,rfl⟩:=map_some h1
  obtain⟨e1,e2⟩:=ih h2
  refine⟨fun i po' hm=>?_,fun i hi=>?_⟩
  ·rcases xH.1 hm with h|h
   ·cases h;exact⟨by simp,hpo⟩
   ·exact⟨List.mem_cons_of_mem _ (e1 i po' h).1,(e1 i po' h).2⟩
  ·rcases xH.1 hi with h|h
   ·subst h;exact⟨po,by simp⟩
   ·obtain⟨q,hq⟩:=e2 i h;exact⟨q,List.mem_cons_of_mem _ hq⟩
theorem atk{μ:Mu}{G:Key→Option ab}{nx:Key}{w:World}(hM:bG P ρ w0 μ G nx.toNat w):G nx=none:=by
 cases h:G nx with
 |none=>rfl
 |some B=>
  obtain⟨l,o,h1,_⟩:=hM.Vo nx B h
  exact absurd (hM.new nx l h1) (Nat.lt_irrefl _)
theorem aby{α:Type}{f:α→Nat}:∀ {l:List α},(l.map f).Nodup→∀ x∈l,∀ y∈l,f x=f y→x=y
 | [],_,x,hx,_,_,_=>by cases hx
 |a ::l,h,x,hx,y,hy,e=>by
  simp only[XW,List.nodup_cons] at h
  rcases xH.1 hx with hx1|hx1<;>rcases xH.1 hy with hy1|hy1
  ·rw[hx1,hy1]
  ·exact(h.1 (Vn.2 ⟨y,hy1,by rw[← e,hx1]⟩)).elim
  ·exact(h.1 (Vn.2 ⟨x,hx1,by rw[e,hy1]⟩)).elim
  ·exact aby h.2 x hx1 y hy1 e
theorem Lb{α:Type}{f:α→Nat}(p:α→Bool){l:List α}(h:(l.map f).Nodup):((l.filter p).map f).Nodup:=
 List.Nodup.sublist (List.Sublist.map f List.filter_sublist) h
theorem lg.Ou{μ:Mu}{G:Key→Option ab}{H:T ab}{nx:Key}{g:Gh}{an:List (Nat×Key×ab)}{tm:T AV}{tmps:Array Value}{rest:List Nat}(S:lg P ρ orc nt ops pl bf μ G H nx g (fun _=>False) an tm tmps rest){l:List Nat}(hl:∀ j∈l,j<ops.size→g.D j=true) :
  lg P ρ orc nt ops pl bf μ G (ew (an.filter fun x=>memN x.1 l) H) nx g (fun i=>jC pl i=true) (an.filter fun x=>!(memN x.1 l)) tm tmps rest:=by
 refine⟨S.Zv,S.ord,S.cl,S.sub,S.UZ,S.lcl,S.a1,S.a2,S.sz,S.c1,S.c2,?_,?_,Lb _ S.nk,Lb _ S.ni⟩
 ·intro i hi hD
  cases S.pd i hi hD with
  |skip po vu h1 h2 h3 h4 h5=>exact .skip po vu h1 h2 h3 h4 fun x hx=>h5 x ((List.mem_filter.1 hx).1)
  |light po vu v h1 h2 h3 NM h4 h5 h6=>
   refine .light po vu v h1 h2 h3 NM (fun hu=>?_) h5 fun x hx=>h6 x ((List.mem_filter.1 hx).1)
   obtain⟨V,a1,_⟩:=h4 (fun h=>h)
   refine⟨_,?_,VOk.refl _ _ _ _⟩
   rw[← a1]
   apply Vd
   have:jC pl i=Vw po.op:=by simp[jC,h1]
   rw[this] at hu
   simpa using hu
  |alloc po vu f B k h1 h2 h3 NM h4 h5 h6=>
   refine .alloc po vu f B k h1 h2 h3 NM h4 h5 (List.mem_filter.2 ⟨h6,?_⟩)
   show(!(memN i l))=true
   cases hm:memN i l with
   |false=>rfl
   |true=>rw[hl i (Vh hm) (S.UZ i hi)] at hD;cases hD
 ·intro x hx
  obtain⟨hx1,hx2⟩:=List.mem_filter.1 hx
  obtain⟨p1,p2,p3,p4,p5⟩:=S.pe x hx1
  refine⟨p1,p2,p3,HU p4 fun y hy e=>?_,p5⟩
  obtain⟨hy1,hy2⟩:=List.mem_filter.1 hy
  have:=aby S.nk y hy1 x hx1 e
  subst this
  rw[hy2] at hx2;cases hx2
theorem abz{mN:List (Nat×List Nat)}(hor:jt ρ orc){rest:List Nat}{g:Gh}{fr:Frame}{w:World}{μ:Mu}{G:Key→Option ab}{H:T ab}{nx:Key}{tm:T AV}{an:List (Nat×Key×ab)}(hc:HW ops pl bf g.L []=true)(hM:bG P ρ w0 μ G nx.toNat w)(hH:HSub H G)
  (S:lg P ρ orc nt ops pl bf μ G H nx g (fun _=>False) an tm fr.tmps rest) (hm:fr.mode=.run) (ht:fr.todo=.inRegion ops rest ::K):S6 P ρ orc nt w0 cs K ops pl bf fr w μ G H nx an (mh orc mN [] an tm H nx):=by
 have V8:∀ j,j<ops.size→hasB g.L j=true:=by
  intro j hj
  simp only[HW,mi] at hc
  exact hc j (by simpa using hj)
 have fe:mh orc mN [] an tm H nx=.fin tm (ew an H) nx:=by
  show OW an H (fun h=>RS.fin tm h nx)=_
  rw[Q7]
 rw[fe]
 obtain⟨eN,w',μ',G',D',qD,s1,s2,s3,s4,s5,s6,rfl⟩:=agx (cs:=cs) hM hH hor S V8 hm ht
 have hD:∀ j,j<ops.size→D' j=true:=s5.ord
 refine⟨eN,w',μ',G',s1.trans (.one (SV hm rfl)),s2,s3,T1 s4 (fun x hx=>(s5.pe x hx).2.1 (hD _ (s5.UZ _ (s5.pe x hx).1))),?_,?_⟩
 ·refine⟨s5.sz,fun k a ha=>?_⟩
  by_cases h:∃ j,tD ops j=some k.toNat
  ·obtain⟨j,hj⟩:=h
   have RX:=V7 hj
   exact s5.c1 k j a (hD j RX) hj (by rw[← s5.a1 k j (V8 j RX) hj];exact ha)
  ·have WO:∀ j,tD ops j≠some k.toNat:=fun j hj=>h ⟨j,hj⟩
   exact s5.c2 k a (fun j _=>WO j) (by rw[← s5.a2 k (fun j _=>WO j)];exact ha)
 ·refine⟨fun b hb hg hl=>?_,bS _⟩
  have eM:∀ x∈an,x.2.1.toNat≠b.toNat:=fun x hx e=>hb (Vn.2 ⟨x,hx,e⟩)
  obtain⟨k1,k2⟩:=s6 b (fun x hx e=>eM x hx (by rw[e]))
  exact⟨k1,k2,HU hg eM⟩
theorem adr{mN:List (Nat×List Nat)}(aeF:IA bf mN=true)(hor:jt ρ orc):∀ (n:Nat) (Ee:List IIt) (items:List bx) (rest:List Nat) (g:Gh) (fr:Frame) (w:World) (μ:Mu) (G:Key→Option ab) (H:T ab) (nx:Key) (tm:T AV) (an:List (Nat×Key×ab)),Ee.length≤n→
  Ee.mapM (Ov pl)=some items→HW ops pl bf g.L Ee=true→bG P ρ w0 μ G nx.toNat w→HSub H G→lg P ρ orc nt ops pl bf μ G H nx g (fun _=>False) an tm fr.tmps rest→fr.mode=.run→fr.todo=.inRegion ops rest ::K→
  S6 P ρ orc nt w0 cs K ops pl bf fr w μ G H nx an (mh orc mN items an tm H nx):=by
 intro n
 induction n with
 |zero=>
  intro Ee items rest g fr w μ G H nx tm an hn hf hc hM hH S hm ht
  have:Ee=[]:=zqr (by omega)
  subst this
  simp at hf
  subst hf
  exact abz hor hc hM hH S hm ht
 |succ n ih=>
  intro Ee items rest g fr w μ G H nx tm an hn hf hc hM hH S hm ht
  cases Ee with
  |nil=>
   simp at hf
   subst hf
   exact abz hor hc hM hH S hm ht
  |cons x Ee=>
   obtain⟨y,Ti,hy,hf',rfl⟩:=nv hf
   have VE:Ee.length≤n:=by simpa using hn
   have hrefl:Steps P (lone fr cs w) (lone {fr with tmps:=fr.tmps,todo:=.inRegion ops rest ::K} cs w):=by rw[← ht];exact Steps.refl _ _
   cases x with
   |L i=>
    obtain⟨po,vL,rfl⟩:=map_some hy
    simp only[HW,Ad,bltN_eq,decide_eq_true_eq,Bool.not_eq_true',Rn] at hc
    obtain⟨⟨⟨⟨hi,hk⟩,hL⟩,hb⟩,hc⟩:=hc
    have hk:=yB hk
    have hii:hasB (iY bf i) i=false:=by
     cases h:hasB (iY bf i) i with
     |false=>rfl
     |true=>have:=hb i hi h;rw[hL] at this;cases this
    have htm:=S.alJ hi hL hb
    have Rh:∀ x∈an,x.1≠i:=by
     intro x hx e
     have:=(S.pe x hx).1
     rw[e,hL] at this;cases this
    rw[acU]
    cases hw:dm po.guard tm with
    |none=>exact Or.inl ⟨_,rfl⟩
    |some b=>
     cases b with
     |false=>
      simp only[fj]
      have S':=S.add (nx':=nx) (pend':=an) (v:=.tuple []) vL hL hb (fun _ h=>h) (fun _ h=>.inl h) (.skip po tm vL (Gp hii htm) hw (by simp[Gz]) Rh) (fun y hy hny=>absurd hy hny) (bS _) S.nk S.ni
      exact ih Ee Ti rest _ fr w μ G H nx _ an VE hf' hc hM hH S' hm ht
     |true=>
      cases hl:lightOp orc po.op tm (Ey (NR i mN) an H) with
      |none=>exact Or.inl ⟨_,rfl⟩
      |some v=>
       simp only[fj]
       have S':=S.add (nx':=nx) (pend':=an) (v:=v) vL hL hb (fun _ h=>h) (fun _ h=>.inl h) (.light po tm v vL (Gp hii htm) hw hk (fun _=>⟨_,hl,VOk.view aeF _ _ _⟩) (by simp[Gz]) Rh) (fun y hy hny=>absurd hy hny) (bS _) S.nk S.ni
       exact ih Ee Ti rest _ fr w μ G H nx _ an VE hf' hc hM hH S' hm ht
   |A i=>
    obtain⟨po,vL,rfl⟩:=map_some hy
    simp only[HW,Ad,bltN_eq,decide_eq_true_eq,Bool.not_eq_true',Rn] at hc
    obtain⟨⟨⟨⟨hi,hk⟩,hL⟩,hb⟩,hc⟩:=hc
    have hk:=yB hk
    have hii:hasB (iY bf i) i=false:=by
     cases h:hasB (iY bf i) i with
     |false=>rfl
     |true=>have:=hb i hi h;rw[hL] at this;cases this
    have htm:=S.alJ hi hL hb
    have Rh:∀ x∈an,x.1≠i:=by
     intro x hx e
     have:=(S.pe x hx).1
     rw[e,hL] at this;cases this
    have hss:=kTSu nx
    rw[acV]
    cases hw:dm po.guard tm with
    |none=>exact Or.inl ⟨_,rfl⟩
    |some b=>
     cases b with
     |false=>
      simp only[fj]
      have S':=S.add (nx':=nx) (pend':=an) (v:=.tuple []) vL hL hb (fun _ h=>h) (fun _ h=>.inl h) (.skip po tm vL (Gp hii htm) hw (by simp[Gz]) Rh) (fun y hy hny=>absurd hy hny) (bS _) S.nk S.ni
      exact ih Ee Ti rest _ fr w μ G H nx _ an VE hf' hc hM hH S' hm ht
     |true=>
      cases hl:allocOp po.op tm with
      |none=>exact Or.inl ⟨_,rfl⟩
      |some fB=>
       obtain⟨f,B⟩:=fB
       simp only[fj]
       have hgn:=atk hM
       have hHn:aa nx H=none:=by
        cases h:aa nx H with
        |none=>rfl
        |some B=>rw[hH nx B h] at hgn;cases hgn
       have S':=S.add (nx':=nx.succ) (pend':=(i,nx,B) ::an) (v:=f nx) vL hL hb (fun _ h=>List.mem_cons_of_mem _ h) (fun y h=>by rcases xH.1 h with h|h;exact .inr (by rw[h]);exact .inl h)
        (.alloc po tm f B nx vL (Gp hii htm) hw hk hl (by simp[Gz]) (by simp))
        (fun y hy hny=>by
         have:y=(i,nx,B):=(xH.1 hy).resolve_right hny
         subst this
         exact⟨hM.DV,hgn,hHn,by show nx.toNat<nx.succ.toNat;omega⟩) (by omega)
        (by
         simp only[XW,List.nodup_cons]
         refine⟨fun h=>?_,S.nk⟩
         obtain⟨x,hx,e⟩:=Vn.1 h
         have:=(S.pe x hx).2.2.2.2
         omega)
        (by
         simp only[XW,List.nodup_cons]
         refine⟨fun h=>?_,S.ni⟩
         obtain⟨x,hx,e⟩:=Vn.1 h
         exact Rh x hx e)
       have:=ih Ee Ti rest _ fr w μ G H nx.succ _ ((i,nx,B) ::an) VE hf' hc (hM.avZ (by omega)) hH S' hm ht
       refine S6.step (tmps2:=fr.tmps) (rest2:=rest) (w2:=w) (pend2:=(i,nx,B) ::an) hrefl μ.le_refl ⟨fun b _ hg hl=>⟨rfl,rfl,hg⟩,Nat.le_of_lt (show nx.toNat<nx.succ.toNat by omega)⟩ ?_ (by rw[← ht];exact this)
       intro x hx
       simp only[vM,XW,xH] at hx
       rcases hx with h|h
       ·exact .inr (Nat.le_of_eq h.symm)
       ·exact .inl h
   |H i ad=>
    obtain⟨po,vL,rfl⟩:=map_some hy
    cases Ee with
    |nil=>simp[HW] at hc
    |cons x2 aak=>
    cases x2 with
    |L _=>simp[HW] at hc
    |A _=>simp[HW] at hc
    |H _ _=>simp[HW] at hc
    |R osn=>
    obtain⟨y2,ri,hy2,hf2,rfl⟩:=nv hf'
    obtain⟨os,hos,rfl⟩:=map_some hy2
    obtain⟨aHl,aHm⟩:=alN hos
    have Ro:aak.length≤n:=by simp at hn;omega
    simp only[HW,Ad,bltN_eq,decide_eq_true_eq,Bool.not_eq_true',Rn] at hc
    obtain⟨⟨⟨⟨⟨⟨⟨⟨hi,hk⟩,hL⟩,hb⟩,alP⟩,tu⟩,Vy⟩,aHn⟩,hc⟩:=hc
    have hk:=yB hk
    have ax3:∀ j q,(j,q)∈os→pl[j]?=some q∧Ot ops bf j=true∧yv pl j=0:=by
     intro j q hj
     obtain⟨e1,e2⟩:=aHl j q hj
     have:=mi.1 aHn j e1
     simp only[Ad] at this
     exact⟨e2,this.2,yB this.1.2⟩
    have apJ:∀ j,hasB g.L j=true→jC pl j=true→hasB (iY bf i) j=true∨∃ q,(j,q)∈os:=by
     intro j hj hr
     have:=mi.1 Vy j (by simpa using S.UZ j hj)
     simp only[hj,hr,Bool.not_true,Bool.false_or,Bool.or_eq_true] at this
     rcases this with h|h
     ·exact .inl h
     ·exact .inr (aHm j (by simpa using h))
    have atn:∀ j,j<ops.size→hasB g.L j=true∨j=i∨∃ q,q<ops.size∧hasB (iY bf j) q=true∧hasB g.L q=false:=by
     intro j hj
     have:=mi.1 alP j (by simpa using hj)
     simp only[Bool.or_eq_true,Bool.not_eq_true'] at this
     rcases this with(h|h)|h
     ·exact .inl h
     ·exact .inr (.inl (yB h))
     ·refine .inr (.inr (Classical.byContradiction fun WO=>?_))
      have:aeY ops.size (iY bf j) g.L=true:=Rn.2 fun q hq hbq=>by
       cases hLq:hasB g.L q with
       |true=>rfl
       |false=>exact absurd ⟨q,hq,hbq,hLq⟩ WO
      rw[this] at h;cases h
    obtain⟨Vi,w1,μ1,G1,D1,aK9,s1,s2,s3,s4,S1,s6,r1,rfl⟩:=ac5 (cs:=cs) hM hH hor S hi hL atn hm ht
    have ax4:∀ j∈ad,j<ops.size→D1 j=true:=by
     intro j hj RX
     exact S1.ready.2.2 j RX (mi.1 tu j hj)
    have S2:=S1.Ou (l:=ad) ax4
    rw[acW,Gi]
    generalize hpf:(an.filter fun x=>!(memN x.1 ad))=pend2 at S2
    generalize hHf:ew (an.filter fun x=>memN x.1 ad) H=H2 at S2
    have hH2:HSub H2 G1:=by
     rw[← hHf]
     refine T1 s4 fun x hx=>?_
     obtain⟨hx1,hx2⟩:=List.mem_filter.1 hx
     exact(S1.pe x hx1).2.1 (ax4 _ (Vh hx2) (S1.UZ _ (S1.pe x hx1).1))
    have ax5:∀ x∈pend2,x∈an:=by intro x hx;rw[← hpf] at hx;exact(List.mem_filter.1 hx).1
    have alQ:∀ x∈vM pend2,x∈vM an∨nx.toNat≤x:=by
     intro x hx
     obtain⟨y,hy,e⟩:=Vn.1 hx
     exact .inl (Vn.2 ⟨y,ax5 y hy,e⟩)
    have hK2:Mm (vM an) H H2 nx nx μ μ1 G G1:=by
     refine⟨fun b kO hg aM=>?_,bS _⟩
     have eM:∀ x∈an,x.2.1.toNat≠b.toNat:=fun x hx e=>kO (Vn.2 ⟨x,hx,e⟩)
     obtain⟨k1,k2⟩:=s6 b (fun x hx e=>eM x hx (by rw[e]))
     rw[← hHf]
     exact⟨k1,k2,HU hg fun x hx=>eM x ((List.mem_filter.1 hx).1)⟩
    obtain⟨o,po',We,hpo,RN⟩:=S.Zv.at hi
    rw[vL] at RN;cases RN
    obtain⟨GG,hgu,Lq⟩:=ma hpo
    have hsl:=S2.Yv hL hb We
    have hE:=Ri (P:=P) (nt:=nt) (o:=o) (fr:={fr with tmps:=Vi,todo:=.inRegion ops (i ::r1) ::K}) s3 hsl
    have go:∀ (a:AV) (v:Value) (w3:World) (μ3:Mu) (G3:Key→Option ab) (H3:T ab) (dw:Key),step P (lone {fr with tmps:=Vi,todo:=.inRegion ops (i ::r1) ::K} cs w1)=.next (lone {fr with tmps:=RM o.dst v Vi,todo:=.inRegion ops r1 ::K} cs w3)→
      bn ρ μ3 a v→μ1.le μ3→bG P ρ w0 μ3 G3 dw.toNat w3→HSub H3 G3→Kept H2 H3 nx dw μ1 μ3 G1 G3→S6 P ρ orc nt w0 cs K ops pl bf fr w μ G H nx an (mh orc mN (.R os ::ri) pend2 (cx po.dst a tm) H3 dw):=by
     intro a v w3 μ3 G3 H3 dw iZ hv hle hM3 hH3 hK3
     have S3:=S2.Bx hle hK3.n (G':=G3) (H':=H3) (fun x hx=>by
      obtain⟨p1,p2,p3,p4,p5⟩:=S2.pe x hx
      exact⟨hK3.m _ p5,hK3.g _ p4 p5,hK3.h _ p4 p5⟩)
     have S4:=S3.apz vL hL hb We hv
     rw[acz]
     cases hrc:recheck orc mN pend2 (cx po.dst a tm) H3 os with
     |false=>exact Or.inl ⟨_,rfl⟩
     |true=>
      simp only[cond_true]
      have S5:=S4.abe aeF hrc ax3 (by
       intro j hj hDj hrj
       have hDj:(D1 j||j==i)=false:=hDj
       rw[Bool.or_eq_false_iff] at hDj
       have eM:j≠i:=by simpa using hDj.2
       have hj:hasB (Uc g.L i) j=true:=hj
       rw[Un,Bool.or_eq_true,decide_eq_true_eq] at hj
       have hjL:=hj.resolve_right (fun e=>eM e.symm)
       rcases apJ j hjL hrj with h|h
       ·have:=S1.ready.2.2 j (S.UZ j hjL) h
        have:D1 j=true:=this
        rw[hDj.1] at this;cases this
       ·exact h)
      have hE3:=ih aak ri r1 _ {fr with tmps:=RM o.dst v Vi,todo:=.inRegion ops r1 ::K} w3 μ3 G3 H3 dw _ pend2 Ro hf2 hc hM3 hH3 S5 hm rfl
      exact S6.step (s1.trans (.one iZ)) (Mu.le_trans s2 hle) (hK2.trans (hK3.toE (vM pend2)) alQ) (fun x hx=>(alQ x hx)) hE3
    have evt:∀ r:OR,Region.wanted o (yielded ops Vi)=true→aOp orc po.op tm H2 nx=r→¬ Lp r→S6 P ρ orc nt w0 cs K ops pl bf fr w μ G H nx an (.ev r (.H i po ad ::.R os ::ri) pend2 tm H2 nx):=by
     intro r um ha hr
     exact Or.inr ⟨Vi,w1,μ1,G1,{g with D:=D1},i,po,o,ad,os,aak,ri,r1,s1,s2,s3,hH2,rfl,vL,hf2,hc,hL,hb,ax3,apJ,S2,We,hpo,um,ha,hr,hK2,alQ⟩
    show S6 P ρ orc nt w0 cs K ops pl bf fr w μ G H nx an (match dm po.guard tm with
     |none=>.ev (.bad 35) (.H i po ad ::.R os ::ri) pend2 tm H2 nx
     |some false=>Ew po.dst (some (.tuple [])) tm fun tm=>mh orc mN (.R os ::ri) pend2 tm H2 nx
     |some true=>match aOp orc po.op tm H2 nx with
      |.val v h nx=>Ew po.dst (some v) tm fun tm=>mh orc mN (.R os ::ri) pend2 tm h nx
      |r=>.ev r (.H i po ad ::.R os ::ri) pend2 tm H2 nx)
    cases hw:dm po.guard tm with
    |none=>exact Or.inl ⟨_,rfl⟩
    |some b=>
     have um:=KX hgu hsl hw
     cases b with
     |false=>
      simp only[fj]
      have iZ:=TX (P:=P) (cs:=cs) (w:=w1) (fr:={fr with tmps:=Vi,todo:=.inRegion ops (i ::r1) ::K}) hm rfl We um
      rw[de rfl We] at iZ
      exact go _ _ w1 μ1 G1 H2 nx iZ (.tuple _ _ .nil) μ1.le_refl s3 hH2 (Kept.refl _ _ _ _)
     |true=>
      cases ha:aOp orc po.op tm H2 nx with
      |val a H3 dw=>
       simp only[fj]
       obtain⟨n,w3,μ3,G3,q1,q2,q3,q4,q5,q6⟩:=abm s3 hH2 hor GG hE ha
       have VA:fr.roundOf=none∨fI o.op=false:=.inr (Ef GG (by rw[ha];intro f l e;cases e) (by rw[ha];intro n e;cases e))
       cases n with
       |value v=>
        have iZ:=Yt (P:=P) (cs:=cs) (fr:={fr with tmps:=Vi,todo:=.inRegion ops (i ::r1) ::K}) hm rfl We um VA q1
        rw[de rfl We] at iZ
        exact go _ _ w3 μ3 G3 H3 dw iZ q2 q3 q4 q5 q6
       |skip=>
        have q2:a=.tuple []:=q2
        subst q2
        have iZ:=ahq (P:=P) (cs:=cs) (fr:={fr with tmps:=Vi,todo:=.inRegion ops (i ::r1) ::K}) hm rfl We um VA q1
        rw[de rfl We] at iZ
        exact go _ _ w3 μ3 G3 H3 dw iZ (.tuple _ _ .nil) q3 q4 q5 q6
       |_=>exact q2.elim
      |bad n=>exact Or.inl ⟨_,rfl⟩
      |call f args=>exact evt _ um ha (by rintro(⟨_,_,_,e⟩|⟨_,e⟩)<;>cases e)
      |yld k args=>exact evt _ um ha (by rintro(⟨_,_,_,e⟩|⟨_,e⟩)<;>cases e)
      |pan v=>exact evt _ um ha (by rintro(⟨_,_,_,e⟩|⟨_,e⟩)<;>cases e)
      |dfr f args=>exact evt _ um ha (by rintro(⟨_,_,_,e⟩|⟨_,e⟩)<;>cases e)
      |recover=>exact evt _ um ha (by rintro(⟨_,_,_,e⟩|⟨_,e⟩)<;>cases e)
      |alt la=>exact evt _ um ha (by rintro(⟨_,_,_,e⟩|⟨_,e⟩)<;>cases e)
   |R os=>simp[HW] at hc
end
end Go.Sx
/-
 SX: simulation: frames that are entered, finished, left. No condition.
-/
namespace Go.Sx
open Go.RowKit
def Wp(P:Program)(ρ:Nat→Int)(w0:W0)(f:Nat)(l:List AV)(H:T ab)(nx:Key)(a:AV)(H':T ab)(nx':Key):Prop:=∀ (args:Array Value) (w:World) (μ:Mu) (G:Key→Option ab),bG P ρ w0 μ G nx.toNat w→HSub H G→aB ρ μ l args.toList→
 Calls P f args w fun e w'=>∃ u μ' G',e=.returned u∧bn ρ μ' a u∧μ.le μ'∧bG P ρ w0 μ' G' nx'.toNat w'∧HSub H' G'∧Kept H H' nx nx' μ μ' G G'
structure Ctx(P:Program)(ρ:Nat→Int)(w0:W0)(C:cU):Prop where
 sum:∀ f l H nx a H' nx',C.sum f l H nx=some (a,H',nx')→Wp P ρ w0 f l H nx a H' nx'
 has : ∀ f l H nx r, C.sum f l H nx = some r → ∃ fn, P.funcs[f]? = some fn ∧ fn.body.isSome = true ∧ fn.name ≠ "runtime.NumGoroutine"
 orc:jt ρ C.orc
 fns:∀ f p,(bif Nat.beq (Key.lZ 12 f).toNat f then aa (Key.lZ 12 f) C.fns else none)=some p→pFn P f=some p
 mix:P.follows .mixedOrders=true
section
variable{P:Program}{ρ:Nat→Int}{orc:pF}{nt:Nat}{w0:W0}{w:World}{μ:Mu}{G:Key→Option ab}{H:T ab}{nx:Key}
theorem agl{id:Nat}{k:List fE}{K:List Item}(h:tz P μ nt k K) :
  (∀ k',Ai id k=some k'→∃ K',exitTo id K=some K'∧tz P μ nt k' K')∧(Ai id k=none→exitTo id K=none):=by
 induction h with
 |nil=>exact⟨fun k' e=>(by cases e),fun _=>rfl⟩
 |cons a x l k h h' ih=>
  cases h with
  |inBlock id'=>
   simp only[Ai,exitTo,beqN_eq]
   by_cases e:id'=id
   ·subst e
    simp only[decide_true,cond_true,beq_self_eq_true,if_true]
    exact⟨fun k' e=>(by cases e;exact⟨_,rfl,h'⟩),fun e=>(by cases e)⟩
   ·have:(id'==id)=false:=by simpa using e
    simp only[e,decide_false,cond_false,this,Yz,if_false]
    exact ih
  |code pc c h=>exact ih
  |inLoop pc c h=>exact ih
  |ops l ops rest h=>exact ih
  |inRF k l r h hr=>exact ih
  |endRF k l r h hr=>exact ih
  |beginRound=>exact ih
noncomputable def ml:List AV→Key→T AV→T AV
 | [],_,tm=>tm
 |v ::l,k,tm=>ml l k.succ (aK k (some v) tm)
theorem Te{R:Type}:∀ (l:List AV) (k:Key) (tm:T AV) (c:T AV→R),ab7 l k tm c=c (ml l k tm)
 | [],_,_,_=>rfl
 |v ::l,k,tm,c=>by
  show Gs k (some v) tm (fun tm=>ab7 l k.succ tm c)=_
  rw[sTCe,Te l];rfl
theorem WV:∀ (l:List AV) (k:Key) (tm:T AV) (q:Key) (a:AV),aa q (ml l k tm)=some a→(k.toNat≤q.toNat∧l[q.toNat-k.toNat]?=some a)∨aa q tm=some a
 | [],_,_,_,_,h=>.inr h
 |v ::l,k,tm,q,a,h=>by
  have hs:=kTSu k
  rcases WV l k.succ _ q a h with⟨h1,h2⟩|h1
  ·refine .inl ⟨by omega,?_⟩
   have:q.toNat-k.toNat=(q.toNat-k.succ.toNat)+1:=by omega
   rw[this];simpa using h2
  ·by_cases e:q=k
   ·subst e;rw[gTSm] at h1;cases h1;exact .inl ⟨bS _,by simp⟩
   ·rw[bU _ _ _ _ e] at h1;exact .inr h1
theorem agm{args:Array Value}{l:List AV}(h:aB ρ μ l args.toList):pU ρ μ nt (ml l .z .nil) (args++Array.replicate (nt-args.size) undef):=by
 refine⟨by simp;omega,fun q a hq=>?_⟩
 rcases WV l .z .nil q a hq with⟨_,h2⟩|h2
 ·have h2:l[q.toNat]?=some a:=by simpa[Key.toNat] using h2
  obtain⟨v,hv,hr⟩:=h.get _ _ h2
  refine⟨v,?_,hr⟩
  have aM:q.toNat<args.size:=by
   rcases Ts q.toNat args.size with h'|h'
   ·exact h'
   ·rw[zqo (by simpa using h')] at hv;cases hv
  rw[Array.getElem?_append_left aM]
  simpa using hv
 ·simp at h2
theorem AO {f : Nat} {p : eG} (h : pFn P f = some p) : ∃ fn c, P.funcs[f]? = some fn ∧ fn.body = some c ∧ fn.name ≠ "runtime.NumGoroutine" ∧ kZ P fn.ntmps c = some p.body ∧ aae P fn.ntmps fn.results.toList = some p.res := by
 unfold pFn at h
 split at h
 ·cases h
 ·rename_i fn Ui
  split at h
  ·cases h
  ·rename_i c hc
   cases hn : (fn.name == "runtime.NumGoroutine") with
   |true=>rw[hn] at h;cases h
   |false=>
    rw[hn] at h
    simp only[cond_false] at h
    split at h
    ·rename_i b r hb hr
     cases h
     exact⟨fn,c,Ui,hc,by simpa using hn,hb,hr⟩
    ·cases h
theorem Eg{f:Nat}{p:eG}(hp:pFn P f=some p){l:List AV}{args:Array Value}(hl:aB ρ μ l args.toList)(dfd:Bool) :
  Cur P ρ orc μ G H nx {fn:=f,tm:=ml l .z .nil,todo:=[.code p.body],dfs:=[],mode:=.run,dfd,Ol:=none,res:=p.res} (Frame.enter P f args (if dfd then .deferred else .normal)):=by
 obtain⟨fn,c,h1,h2,h3,h4,h5⟩:=AO hp
 refine .run fn.ntmps ⟨rfl,⟨fn,h1,rfl,h5⟩,trivial,rfl,trivial,fun h=>absurd rfl h⟩ rfl rfl ?_
 simp only[Frame.enter,h1,Option.map_some,Option.getD_some,Option.bind_some,h2]
 exact .plain _ _ _ _ (.cons _ _ _ _ (.code _ _ h4) .nil) (agm hl)
theorem pU.set{tm:T AV}{tmps:Array Value}(h:pU ρ μ nt tm tmps){k:Key}(aM:k.toNat<nt){a:AV}{v:Value}(hv:bn ρ μ a v):pU ρ μ nt (aK k (some a) tm) (tmps.setIfInBounds k.toNat v):=by
 refine⟨by simp;exact h.1,fun q b hb=>?_⟩
 by_cases hq:q=k
 ·subst hq
  rw[gTSm] at hb;cases hb
  have:q.toNat<tmps.size:=YK aM h.1
  exact⟨v,by simp[this],hv⟩
 ·rw[bU _ _ _ _ hq] at hb
  obtain⟨u,hu,hr⟩:=h.2 q b hb
  refine⟨u,?_,hr⟩
  rw[zqn]
  ·exact hu
  ·intro e;exact hq (Key.toNat_inj e.symm)
noncomputable def amq:List Key→List AV→T AV→T AV
 |k ::l,v ::m,tm=>amq l m (aK k (some v) tm)
 |_,_,tm=>tm
theorem aaZ{R:Type}:∀ (ks:List Key) (vs:List AV) (tm:T AV) (bad:R) (c:T AV→R),afe ks vs tm bad c=bad∨(ks.length=vs.length∧afe ks vs tm bad c=c (amq ks vs tm))
 | [],[],tm,bad,c=>.inr ⟨rfl,rfl⟩
 | [],_ ::_,tm,bad,c=>.inl rfl
 |_ ::_,[],tm,bad,c=>.inl rfl
 |k ::l,v ::m,tm,bad,c=>by
  have e:afe (k ::l) (v ::m) tm bad c=afe l m (aK k (some v) tm) bad c:=by
   show Gs k (some v) tm (fun tm=>afe l m tm bad c)=_
   rw[sTCe]
  rw[e]
  rcases aaZ l m (aK k (some v) tm) bad c with h|⟨h1,h2⟩
  ·exact .inl h
  ·exact .inr ⟨by simp[h1],h2⟩
theorem adq:∀ {ks:List Key} {vs:List AV} {us:List Value} {tm:T AV} {tmps:Array Value},(∀ k∈ks,k.toNat<nt)→ks.length=vs.length→aB ρ μ vs us→pU ρ μ nt tm tmps→
  pU ρ μ nt (amq ks vs tm) (((ks.map Key.toNat).zip us).foldl (fun tmps (x:Nat×Value)=>tmps.setIfInBounds x.1 x.2) tmps)
 | [],[],_,_,_,_,_,.nil,h=>h
 | [],_ ::_,_,_,_,_,hl,_,_=>by cases hl
 |_ ::_,[],_,_,_,_,hl,_,_=>by cases hl
 |k ::ks,v ::vs,_,tm,tmps,hk,hl,.cons _ _ u us h h',ht=>by
  exact adq (ks:=ks) (vs:=vs) (fun q hq=>hk q (by simp[hq])) (by simpa using hl) h' (ht.set (hk k (by simp)) h)
noncomputable def tV:List Key→T AV→T AV
 | [],tm=>tm
 |k ::l,tm=>tV l (aK k none tm)
theorem yA{R:Type}:∀ (l:List Key) (tm:T AV) (c:T AV→R),Tf l tm c=c (tV l tm)
 | [],_,_=>rfl
 |k ::l,tm,c=>by
  show Gs k none tm (fun tm=>Tf l tm c)=_
  rw[sTCe,yA l];rfl
theorem ZL:∀ (l:List Key) (tm:T AV) (q:Key) (a:AV),aa q (tV l tm)=some a→(∀ k∈l,k≠q)∧aa q tm=some a
 | [],_,_,_,h=>⟨fun _ h=>(by cases h),h⟩
 |k ::l,tm,q,a,h=>by
  obtain⟨h1,h2⟩:=ZL l _ q a h
  have eM:k≠q:=by
   intro e;subst e;rw[gTSm] at h2;cases h2
  rw[bU _ _ _ _ (fun e=>eM e.symm)] at h2
  refine⟨fun x hx=>?_,h2⟩
  rcases xH.1 hx with e|e
  ·rw[e];exact eM
  ·exact h1 x e
theorem lg.erase{ops:Array Oper}{pl:List J}{bf:List Nat}{g:Gh}{SS:Nat→Prop}{an:List (Nat×Key×ab)}{tm:T AV}{tmps:Array Value}{rest:List Nat}(S:lg P ρ orc nt ops pl bf μ G H nx g SS an tm tmps rest){nG:List Key}(hd:VB ops nG) :
  pU ρ μ nt (tV nG tm) tmps:=by
 refine⟨S.sz,fun q a hq=>?_⟩
 obtain⟨h1,h2⟩:=ZL _ _ _ _ hq
 have WO:∀ j,tD ops j≠some q.toNat:=by
  intro j hj
  obtain⟨k,hk,e⟩:=hd j _ hj
  exact h1 k hk (Key.toNat_inj e)
 rw[S.a2 q fun j _=>WO j] at h2
 exact S.c2 q a (fun j _=>WO j) h2
theorem Yr.finish{k:List fE}{tm:T AV}{K:List Item}{tmps:Array Value}(h:Yr P ρ orc μ G H nx nt k tm K tmps){af af':xC}(hk:af.todo=k)(ht:af.tm=tm){fr:Frame}(hK:fr.todo=K)(hT:fr.tmps=tmps){a:AV}{v:Value}(hv:bn ρ μ a v)
  (hf:dN a af=some af'):ae5 P ρ orc μ G H nx nt af'.todo af'.tm (fr.finish v).todo (fr.finish v).tmps∧pk af'=pk af∧(∃ xD k2,af'={af with tm:=xD,todo:=k2})∧(∃ tmps2 K2,fr.finish v={fr with tmps:=tmps2,todo:=K2}):=by
 cases h with
 |ops o l ops i rest k K tm tmps hp h ht'=>
  subst ht hT
  simp only[dN,hk,fj,dO] at hf
  subst hf
  have hp0:=hp
  simp only[tC] at hp
  split at hp
  ·cases hp
  ·rename_i oo We
   split at hp
   ·rename_i po' l' h1 h2
    simp only[dO,List.cons.injEq] at hp
    obtain⟨rfl,rfl⟩:=hp
    obtain⟨GG,hgu,Lq⟩:=ma h1
    rw[de hK We]
    exact⟨.plain _ _ _ _ (.cons _ _ _ _ (.ops _ _ _ h2) h) (ht'.put Lq hv),by simp[pk,hk],⟨_,_,rfl⟩,⟨_,_,rfl⟩⟩
   ·cases hp
 |staged ops pl bf g i po ad os Ee items nG an k K tm tmps rest vL hf' hc hL hbi hd h hos Vy S=>
  subst ht hT
  simp only[dN,hk,fj,dO] at hf
  subst hf
  obtain⟨hi,hDi,hbf⟩:=S.ready
  obtain⟨o,po',We,hpo,RN⟩:=S.Zv.at hi
  rw[vL] at RN;cases RN
  rw[de hK We]
  have S4:=S.apz vL hL hbi We hv
  refine⟨.back ops pl bf _ os Ee items nG an k K _ _ rest hf' hc hd h hos ?_ S4,by simp[pk,hk],⟨_,_,rfl⟩,⟨_,_,rfl⟩⟩
  intro j hj hDj hrj
  have hDj:(g.D j||j==i)=false:=hDj
  rw[Bool.or_eq_false_iff] at hDj
  have eM:j≠i:=by simpa using hDj.2
  have hj:hasB (Uc g.L i) j=true:=hj
  rw[Un,Bool.or_eq_true,decide_eq_true_eq] at hj
  have hjL:=hj.resolve_right (fun e=>eM e.symm)
  rcases Vy j hjL hrj with h|h
  ·have:=hbf j (S.UZ j hjL) h
   rw[hDj.1] at this;cases this
  ·exact h
 |rf key l k K tm tmps agn h ht'=>
  subst ht hT
  simp only[dN,hk,dO] at hf
  subst hf
  have e:fr.finish v={fr with todo:=.endRangeFunc l.c ::K}:=by simp[Frame.finish,hK]
  rw[e]
  exact⟨.plain _ _ _ _ (.cons _ _ _ _ (.endRF _ _ _ agn rfl) h) ht',by simp[pk,hk],⟨_,_,rfl⟩,⟨_,_,rfl⟩⟩
def aiQ(tmps:Array Value):ResultVar→Sem Value
 |.tmp t=>pure (tmps.getD t undef)
 |.cell a t=>do loadVar t (← asAddr (tmps.getD a undef))
theorem L8(hM:bG P ρ w0 μ G nx.toNat w)(hH:HSub H G){tm:T AV}{tmps:Array Value}(hT:pU ρ μ nt tm tmps):∀ {rs:List ResultVar} {res:List RV} {l:List AV},aae P nt rs=some res→resultsA H tm res=some l→
  ∃ vs,(rs.mapM (aiQ tmps)).run P w=.ok vs w∧aB ρ μ l vs
 | [],res,l,hp,hr=>by
  simp only[aae,dO] at hp;subst hp
  simp only[resultsA,dO] at hr;subst hr
  exact⟨[],by simp[AP],.nil⟩
 |.tmp t ::rs,res,l,hp,hr=>by
  simp only[aae] at hp
  split at hp
  ·rename_i k r hk kQ
   cases hp
   simp only[resultsA] at hr
   split at hr
   ·rename_i a l' ha SO
    cases hr
    obtain⟨vs,h1,h2⟩:=L8 hM hH hT kQ SO
    obtain⟨v,hv,hvr⟩:=hT.2 _ _ ha
    rw[(vw hk).1] at hv
    refine⟨v ::vs,?_,.cons _ _ _ _ hvr h2⟩
    have hg:tmps.getD t undef=v:=by simp[Array.getD_eq_getD_getElem?,hv]
    rw[List.mapM_cons]
    simp only[aiQ,uu,AP,pY,hg,h1]
   ·cases hr
  ·cases hp
 |.cell a t ::rs,res,l,hp,hr=>by
  simp only[aae] at hp
  split at hp
  ·rename_i k i r hk hi kQ
   cases hp
   simp only[resultsA] at hr
   split at hr
   ·rename_i b off l' ha SO
    split at hr
    ·rename_i x hx
     cases hr
     obtain⟨vs,h1,h2⟩:=L8 hM hH hT kQ SO
     obtain⟨v,hv,hvr⟩:=hT.2 _ _ ha
     rw[(vw hk).1] at hv
     have hg:tmps.getD a undef=v:=by simp[Array.getD_eq_getD_getElem?,hv]
     cases hvr with|ptr _ _ lc ad oH tu=>
     subst tu
     simp only[loadB] at hx
     split at hx
     ·rename_i L ck hL
      obtain⟨ii,d,z,e1,e2,e3,e4,e5,e6⟩:=oY hi
      rw[e5,e6] at hx
      obtain⟨u,hu,hur⟩:=RY hM (hH _ _ hL) e1 e2 hx oH
      refine⟨u ::vs,?_,.cons _ _ _ _ hur h2⟩
      rw[List.mapM_cons]
      simp only[aiQ,uu,AP,pY,hg,asAddr,hu,h1]
     ·cases hx
    ·cases hr
   ·cases hr
  ·cases hp
def US(vs:List Value):Value:=if h:vs.toArray.size=1 then vs.toArray[0] else .tuple vs.toArray
theorem afW{l:List AV}{vs:List Value}(h:aB ρ μ l vs):bn ρ μ (vU l) (US vs):=by
 cases h with
 |nil=>exact .tuple _ _ .nil
 |cons a l v vs h h'=>
  cases h' with
  |nil=>exact h
  |cons b l v2 vs h5 h6=>
   have:US (v ::v2 ::vs)=.tuple (v ::v2 ::vs).toArray:=by simp[US]
   rw[this]
   exact .tuple _ _ (.cons _ _ _ _ h (.cons _ _ _ _ h5 h6))
theorem aaz(hM:bG P ρ w0 μ G nx.toNat w)(hH:HSub H G){tm:T AV}{tmps:Array Value}(hT:pU ρ μ nt tm tmps){fn:Func}{res:List RV}{l:List AV}(hp:aae P nt fn.results.toList=some res)(hr:resultsA H tm res=some l) :
  ∃ vs,(results fn tmps).run P w=.ok (US vs) w∧aB ρ μ l vs:=by
 obtain⟨vs,h1,h2⟩:=L8 hM hH hT hp hr
 have aGQ:results fn tmps=(do
   let vs ← fn.results.mapM (aiQ tmps)
   pure (if h:vs.size=1 then vs[0] else .tuple vs)):=by
  unfold results
  congr 1
 refine⟨vs,?_,h2⟩
 have hm:fn.results.mapM (aiQ tmps)=Functor.map List.toArray (fn.results.toList.mapM (aiQ tmps)):=by
  rw[← List.mapM_toArray]
 rw[aGQ,hm]
 simp only[map_eq_pure_bind,bind_assoc,pure_bind,uu,h1,pY,AP]
 rfl
end
end Go.Sx
/-
 SX: the next entry of a range over a map. No condition.
-/
namespace Go.Sx
open Go.RowKit
section
variable{P:Program}{ρ:Nat→Int}{w0:W0}{w:World}{μ:Mu}{G:Key→Option ab}{nx:Key}{orc:pF}{nt:Nat}{tm:T AV}{H:T ab}{ev:Operand→Value}
theorem agL(i:Nat):∀ (l:List Nat),Ul i l=l.contains i
 | []=>rfl
 |j ::l=>by
  simp only[Ul,beqN_eq,agL i l,List.contains_cons]
  by_cases h:i=j
  ·subst h;simp
  ·have:(i==j)=false:=by simpa using h
   simp[h,this]
theorem Yy{seen:List Nat}:∀ {L:List (Nat×AV×AV)} {es:List MapEntry},mb ρ μ L es→mb ρ μ (GI seen L) (es.filter fun e=>!seen.contains e.born)
 | [],[],_=>trivial
 |(s,k,a) ::l,e ::es,h=>by
  obtain⟨h0,h1,h2,h3⟩:=h
  subst h0
  simp only[GI,agL,List.filter_cons]
  cases hc:seen.contains e.born with
  |true=>simp only[cond_true,Bool.not_true,Yz,if_false];exact Yy h3
  |false=>simp only[cond_false,Bool.not_false,if_true];exact⟨rfl,h1,h2,Yy h3⟩
 | [],_ ::_,h=>h.elim
 |(_,_,_) ::_,[],h=>h.elim
theorem YA{n:Nat}:∀ {L:List (Nat×AV×AV)} {es:List MapEntry},mb ρ μ L es→OM n L=true→∀ e∈es,e.born<n
 | [],[],_,_,e,he=>by cases he
 |(s,k,a) ::l,e ::es,h,hu,x,hx=>by
  obtain⟨h0,h1,h2,h3⟩:=h
  simp only[OM,Ad,bltN_eq,decide_eq_true_eq] at hu
  rcases xH.1 hx with rfl|hx
  ·omega
  ·exact YA h3 hu.2 x hx
 | [],_ ::_,h,_,_,_=>h.elim
 |(_,_,_) ::_,[],h,_,_,_=>h.elim
theorem mb.get:∀ {L:List (Nat×AV×AV)} {es:List MapEntry} {t:Nat} {e:MapEntry},mb ρ μ L es→es[t]?=some e→∃ s k a,(s,k,a)∈L∧e.born=s∧bn ρ μ k e.key∧bn ρ μ a e.val
 | [],[],t,e,_,h=>by simp at h
 |(s,k,a) ::l,x ::es,t,e,hp,h=>by
  obtain⟨h0,h1,h2,h3⟩:=hp
  cases t with
  |zero=>simp at h;subst h;exact⟨s,k,a,by simp,h0,h1,h2⟩
  |succ t=>
   obtain⟨s',k',a',q,r⟩:=mb.get h3 (t:=t) (by simpa using h)
   exact⟨s',k',a',by simp[q],r⟩
 | [],_ ::_,_,_,h,_=>h.elim
 |(_,_,_) ::_,[],_,_,h,_=>h.elim
theorem aa0{b m:Key}{n:Nat}{seen:List Nat}{s:Nat}{k v:AV}:∀ {L:List (Nat×AV×AV)},(s,k,v)∈L→(AV.tuple [.bool true,k,v],aK b (some (.iter m n (seen ++ [s]))) H)∈Wr b m n seen H L
 | [],h=>by cases h
 |(s',k',v') ::l,h=>by
  simp only[Wr,sTCe]
  rcases xH.1 h with e|h
  ·cases e;simp
  ·exact List.mem_cons_of_mem _ (aa0 h)
theorem adv(ty:TypeId){r bm n:Nat}{seen:Array Nat}{es:Array MapEntry}(hi:w.heap[r]?=some (.mapIter (some bm) n seen n))(hb:w.heap[bm]?=some (.map es n))(hold:∀ x∈es.toList,x.born<n) :
  ((leftOf es seen).size=0∧(Instr.next (.pointer (some ⟨r,0,none⟩)) false ty).run P w=.ok (.tuple #[.bool false]) w)∨
  ∃ e∈(leftOf es seen).toList,∃ d:Nat,w.drawn≤d∧(Instr.next (.pointer (some ⟨r,0,none⟩)) false ty).run P w=.ok (.tuple #[.bool true,e.key,e.val]) {w with drawn:=d,heap:=w.heap.setIfInBounds r (.mapIter (some bm) n (seen.push e.born) n)}:=by
 simp only[Instr.next,getObj,uu,Sem.run,hi,hb,Result.andThen,next_test_false seen es n n hold (bS _),Yz,if_false]
 unfold leftOf
 have oR:∀ x∈(Array.filter (fun e=>!seen.contains e.born) es).toList,x.born<n:=fun x hx=>hold x (by simp at hx ⊢;exact hx.1)
 generalize Array.filter (fun e=>!seen.contains e.born) es=L at oR ⊢
 have e1:L.filter (fun x=>decide (x.born<n))=L:=Array.filter_eq_self.2 (fun x hx=>by simpa using oR x (by simpa using hx))
 have e2:L.filter (fun x=>decide (x.born≥n))=#[]:=by
  rw[Array.filter_eq_empty_iff]
  intro x hx
  have:=oR x (by simpa using hx)
  simp
  omega
 simp only[e1,e2,Array.append_empty]
 by_cases h0:L.size=0
 ·left
  have:L=#[]:=Array.eq_empty_of_size_eq_zero h0
  subst this
  refine⟨rfl,?_⟩
  simp[choose,Sem.run,Question.forced]
 ·right
  have eM:L.isEmpty=false:=by simp[Array.isEmpty,h0]
  simp only[eM,Yz,if_false,Array.empty_append,Array.size_map]
  have hch:∃ (j d:Nat),j<L.size∧w.drawn≤d∧(choose (Question.mapNext L.size)).run P w=.ok j {w with drawn:=d}:=by
   by_cases hf:L.size≤1
   ·exact⟨0,w.drawn,by omega,bS _,by simp[choose,Sem.run,Question.forced,hf]⟩
   ·exact⟨_,w.drawn+1,Nat.mod_lt _ (by omega),Nat.le_succ _,by
     simp only[choose,Sem.run,Question.forced,decide_eq_true_eq,hf,if_false,Question.cut]
     rfl⟩
  obtain⟨j,d,hj,hd,fe⟩:=hch
  refine⟨L[j],by simp,d,hd,?_⟩
  simp only[fe]
  have sm:(L.map some)[j]?=some (some L[j]):=by simp[hj]
  simp only[sm]
  simp[setObj,Sem.run,hi,Result.andThen]
theorem ah1(hM:bG P ρ w0 μ G nx.toNat w)(hH:HSub H G){o:Oper}{op:T7}(hp:lW P nt o=some op)(hE:Dp P ρ μ nt o.op.operands.toList tm ev){alts:List (AV×T ab)}(h:aOp orc op tm H nx=.alt alts) :
  ∃ a H' v w' μ' G',(a,H')∈alts∧(Go.execOp ev o).run P w=.ok (.value v) w'∧bn ρ μ' a v∧μ.le μ'∧bG P ρ w0 μ' G' nx.toNat w'∧HSub H' G'∧Kept H H' nx nx μ μ' G G':=by
 have he:=Rk h (by rintro(⟨_,_,_,e⟩|⟨_,e⟩)<;>cases e)
 obtain⟨dst,Eh,ty,pos,after,guard⟩:=o
 cases op<;>first|(cases he;done)|skip
 ·rename_i px
  obtain⟨x,e0,hx⟩:=iO hp
  simp only at e0
  subst e0
  simp only[aOp] at h
  split at h
  ·rename_i b hb
   split at h
   ·rename_i m n seen hit
    split at h
    ·rename_i L c iZ
     cases HX:(Nat.beq c n&&OM n L) with
     |false=>rw[HX] at h;cases h
     |true=>
      rw[HX] at h
      simp only[cond_true] at h
      simp only[Ad] at HX
      obtain⟨hcn,hun⟩:=HX
      have hcn:=yB hcn
      subst hcn
      have hv:=hE x (by simp[Op.operands]) px _ hx hb
      generalize nz:ev x=xx at hv
      cases hv with|ptr _ _ l a oH ha=>
      subst ha
      have hg:=hH _ _ hit
      obtain⟨l',o',h1,h2,h3⟩:=hM.Vo b _ hg
      rw[oH] at h1;cases h1
      cases h3 with|iter _ _ _ _ lm sa Ws hsa hzero=>
      obtain⟨B,l2,es,hB,k1,k2,fg,aH5,aLK⟩:=Lr hM hH iZ
      rw[Ws] at k1;cases k1
      subst hsa
      have aow:(⟨l.c,l.base+0,none⟩:Addr)=⟨l.c,l.base,none⟩:=rfl
      have mO:w0.heap.size≤l.c:=(hM.own b _ l hg oH).resolve_left (by simp[ab.ro])
      have ON:l.c<w.heap.size:=hM.Cs b l oH
      have hex:∀ v w',(Instr.next (ev x) false ty).run P w=.ok v w'→(Go.execOp ev ⟨dst,.next x false,ty,pos,after,guard⟩).run P w=.ok (.value v) w':=fun v w' hr=>dM hr
      have GJ:=Yy (seen:=sa.toList) fg
      have vj:(leftOf es sa).toList=es.toList.filter fun e=>!sa.toList.contains e.born:=by
       simp[leftOf]
      rw[← vj] at GJ
      rcases adv (P:=P) (w:=w) ty h2 k2 (YA fg hun) with⟨hz,hr⟩|⟨e,oR,d,hd,hr⟩
      ·have aAy:GI sa.toList L=[]:=by
        have h0:(leftOf es sa).toList=[]:=by simpa using hz
        rw[h0] at GJ
        cases hl:GI sa.toList L with
        |nil=>rfl
        |cons y r=>rw[hl] at GJ;obtain⟨_,_,_⟩:=y;exact GJ.elim
       rw[aAy] at h
       simp only[OR.alt.injEq] at h
       subst h
       refine⟨.tuple [.bool false],H,.tuple #[.bool false],w,μ,G,by simp,hex _ _ (by rw[nz,hzero];exact hr),.tuple _ _ (.one (.bool _)),μ.le_refl,hM,hH,Kept.refl _ _ _ _⟩
      ·obtain⟨t,ht⟩:=List.getElem?_of_mem oR
       obtain⟨s,k,a,q1,q2,q3,q4⟩:=GJ.get ht
       have hal:alts=Wr b m c sa.toList H (GI sa.toList L):=by
        cases hl:GI sa.toList L with
        |nil=>rw[hl] at q1;cases q1
        |cons y r=>rw[hl] at h;simp only[OR.alt.injEq] at h;exact h.symm
       have hMd:=hM.drawn d hd
       have Um:μ.le (μ.put b l):=Mu.HY (.inr oH)
       obtain⟨g1,g2⟩:=hMd.put (w':={w with drawn:=d,heap:=w.heap.setIfInBounds l.c (.mapIter (some lm.c) c (sa.push e.born) c)}) b (.iter m c (sa.toList ++ [s])) l (.mapIter (some lm.c) c (sa.push e.born) c) (.inr oH)
        ⟨rfl,rfl,rfl,by simp,fun j hj _=>by show(w.heap.setIfInBounds l.c _)[j]?=_;rw[zqn (Ne.symm hj)],bS _⟩
        (by show(w.heap.setIfInBounds l.c _)[l.c]?=_;simp[ON]) (.iter m c _ l lm _ (Um.l _ _ Ws) (by simp[q2]) hzero) (fun b' B' l' g m' ne=>hM.sep b' b B' _ l' l g hg m' oH ne) mO (bS _) (hM.new b l oH) (hM.lo0 hg oH rfl)
       refine⟨.tuple [.bool true,k,a],aK b (some (.iter m c (sa.toList ++ [s]))) H,.tuple #[.bool true,e.key,e.val],_,_,_,by rw[hal];exact aa0 q1,hex _ _ (by rw[nz,hzero];exact hr),.tuple _ _ (.cons _ _ _ _ (.bool _) (.cons _ _ _ _ (q3.mono Um) (.one (q4.mono Um)))),g1,g2,hH.set b _,vA hit oH _ _⟩
    ·cases h
   ·cases h
  ·cases h
 all_goals (simp only[aOp] at h;repeat' (first|(cases h;done)|split at h))
end
end Go.Sx
/-
 SX: simulation: events, regions. No condition.
-/
namespace Go.Sx
open Go.RowKit
def Good(P:Program)(ρ:Nat→Int)(C:cU)(w0:W0)(μ0:Mu)(rest:List Frame)(m:Machine):SR→Prop
 |.next am'=>∃ ur IN w',Steps P m (lone ur (IN++rest) w')∧Yp P ρ C.orc w0 μ0 am' ur IN w'
 |.alt l=>∃ am'∈l,∃ ur IN w',Steps P m (lone ur (IN++rest) w')∧Yp P ρ C.orc w0 μ0 am' ur IN w'
 |.done f v h nx=>∃ ur w' μ G u,Steps P m (lone ur rest w')∧ur.fn=f∧ur.leaving P w' (.returned u)∧bn ρ μ v u∧μ0.le μ∧bG P ρ w0 μ G nx.toNat w'∧HSub h G
 |_=>True
section
variable{P:Program}{ρ:Nat→Int}{C:cU}{nt:Nat}{w0:W0}{w:World}{μ0 μ:Mu}{G:Key→Option ab}{H:T ab}{nx:Key}{rest cs:List Frame}{fr:Frame}{af:xC}{ny:List xC}{K:List Item}{k:List fE}
theorem Good.steps{m m':Machine}{r:SR}(h:Steps P m m')(g:Good P ρ C w0 μ0 rest m' r):Good P ρ C w0 μ0 rest m r:=by
 cases r with
 |next am'=>obtain⟨ur,IN,w',h1,h2⟩:=g;exact⟨ur,IN,w',h.trans h1,h2⟩
 |done f v hh nx=>obtain⟨ur,w',μ,G,u,h1,h2⟩:=g;exact⟨ur,w',μ,G,u,h.trans h1,h2⟩
 |alt l=>obtain⟨am',hm,ur,IN,w',h1,h2⟩:=g;exact⟨am',hm,ur,IN,w',h.trans h1,h2⟩
 |pan v hh nx=>trivial
 |bad n m=>trivial
theorem adn{fr ur:xC}{cs:List xC}{nx:Key}{v:AV}{h:T ab}(hf:dN v fr=some ur):∀ {l:List (AV×T ab)},(v,h)∈l→(⟨ur,cs,h,nx⟩:AM)∈ae2 fr cs nx l
 | [],hm=>by cases hm
 |(v',h') ::l,hm=>by
  simp only[ae2]
  rcases xH.1 hm with e|hm
  ·cases e;rw[hf];simp
  ·exact List.mem_cons_of_mem _ (adn hf hm)
theorem ado{fr ur:xC}{v:AV}(hf:dN v fr=some ur)(u:AV):∃ fr2,dN u fr=some fr2:=by
 unfold dN at hf ⊢
 split at hf
 ·exact⟨_,by simp only[fj];rfl⟩
 ·exact⟨_,by simp only[fj];rfl⟩
 ·exact⟨_,rfl⟩
 ·cases hf
theorem IP.todo(h:IP P ρ μ nt af fr)(t:T AV)(k:List fE)(T:Array Value)(K:List Item):IP P ρ μ nt {af with tm:=t,todo:=k} {fr with tmps:=T,todo:=K}:=
 ⟨h.fn,h.fnr,h.dfs,h.kind,h.Ol,h.rd⟩
theorem ajf{af:xC}(h:tz P μ nt af.todo K):pk af=[]:=by
 unfold pk
 split
 ·rename_i i d p k' e
  rw[e] at h
  cases h with|cons _ _ _ _ h _=>cases h
 ·rfl
theorem aoq:∀ {ny:List xC} {cs:List Frame},fk P ρ C.orc μ G H nx ny cs→∀ x∈bX ny,x<nx.toNat
 | [],[],_,x,hx=>by cases hx
 | [],_ ::_,h,_,_=>h.elim
 |_ ::_,[],h,_,_=>h.elim
 |a ::ny,f ::cs,h,x,hx=>by
  simp only[bX,List.mem_append] at hx
  rcases hx with hx|hx
  ·cases h.1 with
   |wait nt hb h1 h2 h=>
    unfold pk at hx
    split at hx
    ·rename_i i d p k' e
     rw[e] at h
     generalize f.todo=KK at h
     generalize f.tmps=TT at h
     generalize a.tm=tt at h
     cases h with
     |staged ops pl bf g i po ad os Ee items nG an k K tm tmps rest vL hf hc hL hbi hd h hos Vy S=>
      obtain⟨y,hy,e⟩:=Vn.1 hx
      rw[← e]
      exact(S.pe y hy).2.2.2.2
    ·cases hx
   |unw h hm=>
    cases h with
    |run nt hb h1=>exact absurd h1 hm
    |ret nt hb h1 h2 h3 h=>
     unfold pk at hx
     rcases h3 with h3|⟨k,h3⟩<;>rw[h3] at hx<;>cases hx
    |pan nt hb v u r h1 h2 hv h3 h=>
     unfold pk at hx
     rw[h3] at hx;cases hx
  ·exact aoq h.2 x hx
theorem fk.kept{μ':Mu}{G':Key→Option ab}{H':T ab}{nx':Key}(hm:μ.le μ')(hk:Kept H H' nx nx' μ μ' G G')(h:fk P ρ C.orc μ G H nx ny cs):fk P ρ C.orc μ' G' H' nx' ny cs:=
 h.Bx hm hk.n fun b _ hg hl=>⟨hk.m b hl,hk.g b hg hl,hk.h b hg hl⟩
theorem fk.aor{E:List Nat}{μ':Mu}{G':Key→Option ab}{H':T ab}{nx':Key}(hm:μ.le μ')(hk:Mm E H H' nx nx' μ μ' G G')(hE:∀ x∈E,x∉bX ny)(h:fk P ρ C.orc μ G H nx ny cs):fk P ρ C.orc μ' G' H' nx' ny cs:=
 h.Bx hm hk.n fun b hb hg hl=>hk.k b (fun he=>hE _ he hb) hg hl
theorem yz(h0:μ0.le μ)(hM:bG P ρ w0 μ G nx.toNat w)(hH:HSub H G)(hb:IP P ρ μ nt af fr)(h1:af.mode=.run)(h2:fr.mode=.run)(hk:tz P μ nt af.todo fr.todo)(hT:pU ρ μ nt af.tm fr.tmps)
  (hS:fk P ρ C.orc μ G H nx ny cs) (hn:(bX ny).Nodup):Yp P ρ C.orc w0 μ0 ⟨af,ny,H,nx⟩ fr cs w:=
 ⟨μ,G,h0,hM,hH,.run nt hb h1 h2 (.plain _ _ _ _ hk hT),hS,by simp[bX,ajf hk,hn]⟩
theorem Sus.finish{c c':xC}{cf:Frame}(h:Sus P ρ C.orc μ G H nx c cf){a:AV}{v:Value}(hv:bn ρ μ a v)(hf:dN a c=some c'):Cur P ρ C.orc μ G H nx c' (cf.finish v)∧pk c'=pk c:=by
 cases h with
 |wait nt hb h1 h2 h=>
  obtain⟨h3,h4,⟨xD,k2,h5⟩,⟨T2,K2,h6⟩⟩:=h.finish rfl rfl rfl rfl hv hf
  refine⟨?_,h4⟩
  rw[h6] at h3 ⊢
  subst h5
  exact .run nt (hb.todo _ _ _ _) h1 h2 h3
 |unw h hm=>
  cases h with
  |run nt hb h1=>exact absurd h1 hm
  |ret nt hb h1 h2 h3 h=>rcases h3 with h3|⟨k,h3⟩<;>simp[dN,h3] at hf
  |pan nt hb v u r h1 h2 hv h3 h=>simp[dN,h3] at hf
noncomputable def cW(raw:Bool)(l:List AV)(H:T ab):List AV×T ab:=bif raw then(l,H) else az (ax 9999) l H
theorem IQ{R:Type}(raw:Bool)(l:List AV)(H:T ab)(c:List AV→T ab→R):ajg raw l H c=c (cW raw l H).1 (cW raw l H).2:=by
 cases raw
 ·show Vz (Uf 9999) l H c=_
  rw[Dn (Oz 9999)];rfl
 ·rfl
theorem Ug(raw:Bool)(hM:bG P ρ w0 μ G nx.toNat w)(hH:HSub H G){l:List AV}{us:List Value}(h:aB ρ μ l us):∃ μ' G',mg P ρ w0 w nx μ G H μ' G' (cW raw l H).2∧aB ρ μ' (cW raw l H).1 us:=by
 cases raw
 ·exact vz (Ln 9999) l us μ G H hM hH h
 ·exact⟨μ,G,mg.refl hM hH,h⟩
theorem OK(X:Ctx P ρ w0 C)(f:Nat)(args:List AV)(dfd:Bool)(bad:SR)(c:xC→SR):Td C f args dfd bad c=bad∨
  ∃ p,pFn P f=some p∧Td C f args dfd bad c=c {fn:=f,tm:=ml args .z .nil,todo:=[.code p.body],dfs:=[],mode:=.run,dfd,Ol:=none,res:=p.res}:=by
 unfold Td
 split
 ·rename_i p hp
  exact .inr ⟨p,X.fns f p hp,by rw[Te]⟩
 ·exact .inl rfl
theorem ahX{l:Nat}{L:Loop}{args:Array Value}(h:w.heap[l]?=some (.loop L))(hs:args.size=L.params.size) :
  (Instr.yield l args).run P w=.ok (.round l L.fn ((L.params.zip args).foldl (fun tmps (x:Nat×Value)=>tmps.setIfInBounds x.1 x.2) L.tmps) L.assign L.body) w:=by
 simp[Instr.yield,Instr.getLoop,getObj,Sem.run,h,hs]
theorem Uh(hM:bG P ρ w0 μ G nx.toNat w){b:Key}{st:LS}{pd:Option U}{fn:Nat}{tm:T AV}{res:List RV}{params:List Key}{as bd:U}{dfs:Key}(hb:G b=some (.loop st pd fn tm res params as bd dfs)) :
  ∃ l L nt ld,μ b=some l∧w.heap[l.c]?=some (.loop L)∧agE st L.state∧(∀ n,aaY P n pd L.pending)∧L.fn=fn∧pU ρ μ nt tm L.tmps∧abJ params L.params.toList∧(∀ k∈params,k.toNat<nt)∧ajh P nt as L.assign∧ajh P nt bd L.body∧μ dfs=some ld∧L.defers=ld.c∧aji P fn nt res:=by
 obtain⟨l,o,h1,h2,h3⟩:=hM.Vo b _ hb
 cases h3 with
 |loop st pd fn nt tm res params as bd dfs ld l L e1 e2 e3 e4 e5 e5' e6 e7 e8 e9 Ld=>exact⟨l,L,nt,ld,h1,h2,e1,e2,e3,e4,e5,e5',e6,e7,e8,e9,Ld⟩
theorem Yq(X:Ctx P ρ w0 C){ops:Array Oper}{i:Nat}{qD:List Nat}{o:Oper}{po:J}{r:OR}{xD:T AV}(h0:μ0.le μ)(hM:bG P ρ w0 μ G nx.toNat w)(hH:HSub H G)(hb:IP P ρ μ nt af fr)(h1:af.mode=.run)(hm:fr.mode=.run)
  (ht:fr.todo=.inRegion ops (i ::qD) ::K) (ho:ops[i]?=some o) (hpo:Wm P nt ops o=some po) (hw:Region.wanted o (yielded ops fr.tmps)=true)
  (hE:Dp P ρ μ nt o.op.operands.toList af.tm fr.eval) (ha:aOp C.orc po.op af.tm H nx=r) (hr:¬ Lp r)
  (hW:Yr P ρ C.orc μ G H nx nt af.todo af.tm fr.todo fr.tmps) (hS:fk P ρ C.orc μ G H nx ny cs) (hn:(bX (af ::ny)).Nodup) (hT2:pU ρ μ nt xD fr.tmps) :
  Good P ρ C w0 μ0 rest (lone fr (cs++rest) w) (pV C r af {af with tm:=xD,todo:=[]} ny H nx):=by
 obtain⟨GG,hgu,Lq⟩:=ma hpo
 have ahY:Sus P ρ C.orc μ G H nx af fr:=.wait nt hb h1 hm hW
 have Rh:(bX ny).Nodup:=(List.nodup_append.1 hn).2.1
 cases r with
 |val a H' nx'=>exact absurd (tE _ _ _) hr
 |bad n=>exact absurd (cy _) hr
 |call f l=>
  have VA:fr.roundOf=none∨fI o.op=false:=.inr (Ef GG (by rw[ha];intro f l e;cases e) (by rw[ha];intro n e;cases e))
  simp only[pV,IQ]
  have key : ∀ {fn : Func}, P.funcs[f]? = some fn → fn.body.isSome = true → fn.name ≠ "runtime.NumGoroutine" → ∃ args μ1 G1, step P (lone fr (cs ++ rest) w) = .next (lone (Frame.enter P f args .normal) (fr :: cs ++ rest) w) ∧
    mg P ρ w0 w nx μ G H μ1 G1 (cW (C.raw f) l H).2∧aB ρ μ1 (cW (C.raw f) l H).1 args.toList:=by
   intro fn f1 f2 f3
   obtain⟨args,q1,q2⟩:=ae4 (w:=w) GG hE ha f1 f2 f3
   obtain⟨μ1,G1,x1,x2⟩:=Ug (C.raw f) hM hH q2
   exact⟨args,μ1,G1,ajj (P:=P) (cs:=cs++rest) hm ht ho hw VA q1,x1,x2⟩
  generalize cW (C.raw f) l H=lh at key
  obtain⟨l1,H1⟩:=lh
  simp only at key ⊢
  split
  ·rename_i v H2 aH adp
   split
   ·rename_i af' hf
    have hso:=X.sum f l1 H1 nx v H2 aH adp
    obtain⟨fn,f1,f2,f3⟩:=X.has f l1 H1 nx _ adp
    obtain⟨args,μ1,G1,iZ,x1,x2⟩:=key f1 f2 f3
    obtain⟨e,w',ur,⟨u,μ',G',rfl,y2,y3,y4,y5,y6⟩,aqe,Ui,aqf⟩:=hso args w μ1 G1 x1.M x1.hs x2 (fr ::cs++rest)
    have hS1:fk P ρ C.orc μ1 G1 H1 nx (af ::ny) (fr ::cs):=fk.kept x1.le x1.kept ⟨ahY,hS⟩
    have hS2:fk P ρ C.orc μ' G' H2 aH (af ::ny) (fr ::cs):=fk.kept y3 y6 hS1
    obtain⟨Ys,hpk⟩:=hS2.1.finish y2 hf
    refine⟨_,cs,w',Steps.trans (.head iZ aqe) (.one (step_leave_returned aqf)),μ',G',Mu.le_trans h0 (Mu.le_trans x1.le y3),y4,y5,Ys,hS2.2,?_⟩
    show(bX (af' ::ny)).Nodup
    simp only[bX,hpk] at hn ⊢
    exact hn
   ·trivial
  ·rcases OK X f l1 false (.bad 40 ⟨af,ny,H1,nx⟩) (fun ur=>.next ⟨ur,af ::ny,H1,nx⟩) with e|⟨p,hp,e⟩
   ·rw[e];trivial
   ·rw[e]
    obtain⟨fn,c,f1,f2,f3,f4,f5⟩:=AO hp
    obtain⟨args,μ1,G1,iZ,x1,x2⟩:=key f1 (by rw[f2];rfl) f3
    refine⟨_,fr ::cs,w,.one iZ,μ1,G1,Mu.le_trans h0 x1.le,x1.M,x1.hs,Eg hp x2 false,fk.kept x1.le x1.kept ⟨ahY,hS⟩,?_⟩
    show(bX (_ ::af ::ny)).Nodup
    simp only[bX,pk,List.nil_append]
    exact hn
 |yld key l=>
  have VA:fr.roundOf=none∨fI o.op=false:=.inr (Ef GG (by rw[ha];intro f l e;cases e) (by rw[ha];intro n e;cases e))
  simp only[pV]
  split
  ·rename_i st pd fn tm res params as bd dfs hk
   rcases aaZ params l tm (SR.bad 41 ⟨af,ny,H,nx⟩) (fun tm=>.next ⟨{fn,tm,todo:=[.code as,.beginRound,.code bd],dfs:=[],mode:=.run,dfd:=false,Ol:=some key,res},af ::ny,H,nx⟩) with e|⟨hlen,e⟩
   ·rw[e];trivial
   ·rw[e]
    obtain⟨args,lc,q1,q2,q3⟩:=ahZ (w:=w) GG hE ha
    obtain⟨lc',L,ntl,ld,e0,e0',e1,e2,e3,e4,e5,e5',e6,e7,e8,e9,Ld⟩:=Uh hM (hH _ _ hk)
    rw[q1] at e0;cases e0
    have tF:args.size=L.params.size:=by
     have a1:=q3.length
     have a2:(params.map Key.toNat).length=L.params.toList.length:=by rw[e5]
     simp at a1 a2
     omega
    rw[ahX e0' tF] at q2
    have iZ:=ajk (P:=P) (cs:=cs++rest) hm ht ho hw VA q2
    refine⟨_,fr ::cs,w,.one iZ,μ,G,h0,hM,hH,?_,⟨ahY,hS⟩,?_⟩
    ·refine .run ntl ⟨e3,Ld,trivial,rfl,⟨_,q1,rfl⟩,fun _=>rfl⟩ rfl rfl (.plain _ _ _ _ (.cons _ _ _ _ (.code _ _ e6) (.cons _ _ _ _ .beginRound (.cons _ _ _ _ (.code _ _ e7) .nil))) ?_)
     have:=adq (ks:=params) e5' hlen q3 e4
     have hl:(L.params.zip args).foldl (fun tmps (x:Nat×Value)=>tmps.setIfInBounds x.1 x.2) L.tmps=((params.map Key.toNat).zip args.toList).foldl (fun tmps (x:Nat×Value)=>tmps.setIfInBounds x.1 x.2) L.tmps:=by
      rw[e5,← Array.foldl_toList,Array.toList_zip]
     show pU ρ μ ntl (amq params l tm) ((L.params.zip args).foldl (fun tmps (x:Nat×Value)=>tmps.setIfInBounds x.1 x.2) L.tmps)
     rw[hl];exact this
    ·show(bX (_ ::af ::ny)).Nodup
     simp only[bX,pk,List.nil_append]
     exact hn
  ·trivial
 |alt la=>
  have VA:fr.roundOf=none∨fI o.op=false:=.inr (Ef GG (by rw[ha];intro f l e;cases e) (by rw[ha];intro n e;cases e))
  simp only[pV]
  split
  ·trivial
  ·rename_i fr0 hf0
   obtain⟨a,H',v,w',μ',G',oR,q1,q2,q3,q4,q5,q6⟩:=ah1 (w:=w) hM hH GG hE ha
   obtain⟨fr1,hf1⟩:=ado hf0 a
   have iZ:=Yt (P:=P) (cs:=cs++rest) hm ht ho hw VA q1
   have hS1:fk P ρ C.orc μ' G' H' nx (af ::ny) (fr ::cs):=fk.kept q3 q6 ⟨ahY,hS⟩
   obtain⟨Ys,hpk⟩:=hS1.1.finish q2 hf1
   refine⟨⟨fr1,ny,H',nx⟩,adn hf1 oR,_,cs,w',.one iZ,μ',G',Mu.le_trans h0 q3,q4,q5,Ys,hS1.2,?_⟩
   show(bX (fr1 ::ny)).Nodup
   simp only[bX,hpk] at hn ⊢
   exact hn
 |pan a=>
  have VA:fr.roundOf=none∨fI o.op=false:=.inr (Ef GG (by rw[ha];intro f l e;cases e) (by rw[ha];intro n e;cases e))
  obtain⟨v,q1,q2⟩:=ah2 (w:=w) GG hE ha
  have iZ:=ajl (P:=P) (cs:=cs++rest) hm ht ho hw VA q1
  refine⟨_,cs,w,.one iZ,μ,G,h0,hM,hH,?_,hS,?_⟩
  ·exact .pan nt ⟨hb.fn,hb.fnr,hb.dfs,hb.kind,hb.Ol,hb.rd⟩ a v false rfl rfl q2 rfl hT2
  ·show(bX (_ ::ny)).Nodup
   simp only[bX,pk,List.nil_append]
   exact Rh
 |dfr f l=>
  simp only[pV]
  split
  ·rename_i hrn
   split
   ·rename_i af' hf
    obtain⟨c,ws,vs,q0,q1,q2,q3⟩:=ah3 (w:=w) GG hE ha
    have Uj:fr.roundOf=none:=by
     have:=hb.Ol
     rw[hrn] at this
     cases hh:fr.roundOf with
     |none=>rfl
     |some x=>rw[hh] at this;exact this.elim
    have iZ:=ajm (P:=P) (cs:=cs++rest) hm ht ho hw (.inl Uj) q2
    obtain⟨h3,h4,⟨t2,k2,h5⟩,⟨T2,K2,h6⟩⟩:=hW.finish (fr:=fr) rfl rfl rfl rfl (bn.tuple (ρ:=ρ) (μ:=μ) [] #[] .nil) hf
    have ah4:({fr with defers:=⟨.fn (.func f) ws,vs⟩ ::fr.defers}:Frame).finish undef={fr with defers:=⟨.fn (.func f) ws,vs⟩ ::fr.defers,tmps:=T2,todo:=K2}:=by
     have hf1:=de ht ho undef
     have hf2:=de (fr:={fr with defers:=⟨.fn (.func f) ws,vs⟩ ::fr.defers}) ht ho undef
     rw[hf2]
     have h6:fr.finish undef={fr with tmps:=T2,todo:=K2}:=h6
     rw[hf1] at h6
     have e1:=congrArg Frame.tmps h6
     have e2:=congrArg Frame.todo h6
     simp only at e1 e2
     rw[e1,e2]
    rw[ah4] at iZ
    have h3:ae5 P ρ C.orc μ G H nx nt af'.todo af'.tm (fr.finish undef).todo (fr.finish undef).tmps:=h3
    have h6:fr.finish undef={fr with tmps:=T2,todo:=K2}:=h6
    rw[h6] at h3
    refine⟨_,cs,w,.one iZ,μ,G,h0,hM,hH,?_,hS,?_⟩
    ·subst h5
     exact .run nt ⟨hb.fn,hb.fnr,⟨⟨ws,rfl,q3⟩,hb.dfs⟩,hb.kind,hb.Ol,hb.rd⟩ h1 hm h3
    ·have:pk {af' with dfs:=ae6.fn f l ::af'.dfs}=pk af:=by rw[← h4];rfl
     show(bX (_ ::ny)).Nodup
     simp only[bX,this]
     exact hn
   ·trivial
  ·trivial
 |recover=>
  simp only[pV]
  split
  ·rename_i c auG hrn hdf
   have Uj:fr.roundOf=none:=by
    have:=hb.Ol
    rw[hrn] at this
    cases hh:fr.roundOf with
    |none=>rfl
    |some x=>rw[hh] at this;exact this.elim
   have hkd:fr.kind=.deferred:=by rw[hb.kind,hdf];rfl
   have q1:=aah (P:=P) (w:=w) (ev:=fr.eval) GG ha
   cases cs with
   |nil=>exact hS.elim
   |cons cf IN=>
   split
   ·rename_i v Yu
    split
    ·rename_i af' hf
     cases hS.1 with
     |wait XQ kO Ix=>rw[Ix] at Yu;cases Yu
     |unw aai eM=>
      cases aai with
      |run XQ kO Ix=>rw[Ix] at Yu;cases Yu
      |ret XQ kO Ix=>rw[Ix] at Yu;cases Yu
      |pan XQ kO v' u r' Ix W9 hv' h3' hT'=>
       rw[Ix] at Yu
       simp only[ajn.pan.injEq] at Yu
       obtain⟨rfl,rfl⟩:=Yu
       have ua:tryRecover fr (cf ::(IN++rest))=some (u,{cf with mode:=.panicking [{v:=u,recovered:=true}]} ::(IN++rest)):=by
        simp[tryRecover,hkd,W9]
       have iZ:=Xa (P:=P) (cs:=cf ::(IN++rest)) hm ht ho hw Uj q1 ua
       obtain⟨Ys,hpk⟩:=ahY.finish hv' hf
       refine⟨_,{cf with mode:=.panicking [{v:=u,recovered:=true}]} ::IN,w,.one iZ,μ,G,h0,hM,hH,Ys,⟨.unw (.pan XQ ⟨kO.fn,kO.fnr,kO.dfs,kO.kind,kO.Ol,kO.rd⟩ v' u true rfl rfl hv' h3' hT') (by intro e;cases e),hS.2⟩,?_⟩
       show(bX (_ ::_ ::auG)).Nodup
       simp only[bX,hpk] at hn ⊢
       exact hn
    ·trivial
   ·rename_i Yu
    split
    ·rename_i af' hf
     cases hS.1 with
     |wait XQ kO Ix=>rw[Ix] at Yu;cases Yu
     |unw aai eM=>
      have ua:tryRecover fr (cf ::(IN++rest))=none:=by
       cases aai with
       |run XQ kO Ix=>rw[Ix] at Yu;cases Yu
       |ret XQ kO Ix W9=>simp[tryRecover,hkd,W9]
       |pan XQ kO v' u r' Ix=>rw[Ix] at Yu;cases Yu
      have iZ:=Xb (P:=P) (cs:=cf ::(IN++rest)) hm ht ho hw Uj q1 ua
      obtain⟨Ys,hpk⟩:=ahY.finish (.nili) hf
      refine⟨_,cf ::IN,w,.one iZ,μ,G,h0,hM,hH,Ys,hS,?_⟩
      show(bX (_ ::_ ::auG)).Nodup
      simp only[bX,hpk] at hn ⊢
      exact hn
    ·trivial
   ·trivial
  ·trivial
theorem ajo(X:Ctx P ρ w0 C){l:List J}(h0:μ0.le μ)(hM:bG P ρ w0 μ G nx.toNat w)(hH:HSub H G)(hb:IP P ρ μ nt af fr)(h1:af.mode=.run)(hm:fr.mode=.run)
  {ops:Array Oper} {rs:List Nat} (hp:tC P nt ops rs=some l) (ht:fr.todo=.inRegion ops rs ::K) (hk:tz P μ nt k K) (hT:pU ρ μ nt af.tm fr.tmps) (hS:fk P ρ C.orc μ G H nx ny cs) (hn:(bX ny).Nodup) :
  Good P ρ C w0 μ0 rest (lone fr (cs++rest) w) (match pW C.orc l af.tm H nx with
   |.fin tm h nx=>.next ⟨{af with tm,todo:=k},ny,h,nx⟩
   |.ev r rest tm h nx=>pV C r {af with tm,todo:=.ops rest ::k} {af with tm,todo:=[]} ny h nx):=by
 have key:=Uk (P:=P) (ρ:=ρ) (orc:=C.orc) (nt:=nt) (w0:=w0) (cs:=cs++rest) (K:=K) (ops:=ops) X.orc l rs fr w μ G H nx af.tm hp hM hH hT hm ht
 cases aaj:pW C.orc l af.tm H nx with
 |fin tm' h' nx'=>
  rw[aaj] at key
  obtain⟨eN,w',μ',G',s1,s2,s3,s4,s5,s6⟩:=key
  exact⟨_,cs,w',s1,yz (Mu.le_trans h0 s2) s3 s4 ((hb.mono s2).todo _ _ _ _) h1 hm (hk.mono s2) s5 (hS.kept s2 s6) hn⟩
 |ev r l' tm' h' nx'=>
  rw[aaj] at key
  rcases key with⟨n,rfl⟩|⟨eN,w',μ',G',i,qD,po,ll,o,s1,s2,s3,s4,s5,s6,rfl,s8,s9,s10,s11,s12,s13⟩
  ·trivial
  ·have hE:=Ri (P:=P) (nt:=nt) (ops:=ops) (o:=o) (fr:={fr with tmps:=eN,todo:=.inRegion ops (i ::qD) ::K}) s3 (fun k a _ hg=>s5.2 k a hg)
   refine Good.steps s1 ?_
   have hpk:(bX ({af with tm:=tm',todo:=.ops (po ::ll) ::k} ::ny)).Nodup:=by
    simp only[bX,pk,List.nil_append];exact hn
   exact Yq (fr:={fr with tmps:=eN,todo:=.inRegion ops (i ::qD) ::K}) (af:={af with tm:=tm',todo:=.ops (po ::ll) ::k}) X (Mu.le_trans h0 s2) s3 s4 ((hb.mono s2).todo _ _ _ _) h1 hm rfl s9 s10 s11 hE s12 s13
    (.ops po ll ops i qD k K tm' eN s8 (hk.mono s2) s5) (hS.kept s2 s6) hpk s5
theorem Wo(X:Ctx P ρ w0 C){ops:Array Oper}{pl:List J}{bf:List Nat}{g:Gh}{Ee:List IIt}{items:List bx}{nG:SD}{an:List (Nat×Key×ab)}{rs:List Nat}(h0:μ0.le μ)(hM:bG P ρ w0 μ G nx.toNat w)(hH:HSub H G)(hb:IP P ρ μ nt af fr)(h1:af.mode=.run)(hm:fr.mode=.run)
  (hf:Ee.mapM (Ov pl)=some items) (hc:HW ops pl bf g.L Ee=true) (hd:VB ops nG.ds∧IA bf nG.mN=true) (ht:fr.todo=.inRegion ops rs ::K) (hk:tz P μ nt k K)
  (S:lg P ρ C.orc nt ops pl bf μ G H nx g (fun _=>False) an af.tm fr.tmps rs) (hS:fk P ρ C.orc μ G H nx ny cs) (hn:(vM an++bX ny).Nodup) :
  Good P ρ C w0 μ0 rest (lone fr (cs++rest) w) (match mh C.orc nG.mN items an af.tm H nx with
   |.fin tm h nx=>.next ⟨{af with tm,todo:=k},ny,h,nx⟩
   |.ev r rest an tm h nx=>Tf nG.ds tm fun tm'=>pV C r {af with tm,todo:=.staged rest nG an ::k} {af with tm:=tm',todo:=[]} ny h nx):=by
 have key:=adr (P:=P) (ρ:=ρ) (orc:=C.orc) (nt:=nt) (w0:=w0) (cs:=cs++rest) (K:=K) (ops:=ops) (pl:=pl) (bf:=bf) hd.2 X.orc Ee.length Ee items rs g fr w μ G H nx af.tm an (bS _) hf hc hM hH S hm ht
 have aqj:∀ x∈vM an,x∉bX ny:=fun x hx hx'=>(List.nodup_append.1 hn).2.2 x hx x hx' rfl
 have Rh:=(List.nodup_append.1 hn).2.1
 cases aaj:mh C.orc nG.mN items an af.tm H nx with
 |fin tm' h' nx'=>
  rw[aaj] at key
  obtain⟨eN,w',μ',G',s1,s2,s3,s4,s5,s6⟩:=key
  exact⟨_,cs,w',s1,yz (Mu.le_trans h0 s2) s3 s4 ((hb.mono s2).todo _ _ _ _) h1 hm (hk.mono s2) s5 (hS.aor s2 s6 aqj) Rh⟩
 |ev r Ti pend' tm' h' nx'=>
  rw[aaj] at key
  simp only[yA]
  rcases key with⟨n,rfl⟩|⟨eN,w',μ',G',g',i,po,o,ad,os,aak,ri,qD,s1,s2,s3,s4,rfl,s6,s7,s8,s9,s10,s11,s12,S',s14,s15,s16,s17,s18,s19,s20⟩
  ·trivial
  ·have hsl:=S'.Yv s9 s10 s14
   have hE:=Ri (P:=P) (nt:=nt) (ops:=ops) (o:=o) (fr:={fr with tmps:=eN,todo:=.inRegion ops (i ::qD) ::K}) s3 hsl
   refine Good.steps s1 ?_
   have hpk:(bX ({af with tm:=tm',todo:=.staged (.H i po ad ::.R os ::ri) nG pend' ::k} ::ny)).Nodup:=by
    simp only[bX,pk]
    refine List.nodup_append.2 ⟨S'.nk,Rh,?_⟩
    rintro x hx y hy rfl
    rcases s20 x hx with h|h
    ·exact aqj x h hy
    ·exact absurd (aoq hS x hy) (by omega)
   exact Yq (fr:={fr with tmps:=eN,todo:=.inRegion ops (i ::qD) ::K}) (af:={af with tm:=tm',todo:=.staged (.H i po ad ::.R os ::ri) nG pend' ::k}) X (Mu.le_trans h0 s2) s3 s4 ((hb.mono s2).todo _ _ _ _) h1 hm rfl s14 s15 s16 hE s17 s18
    (.staged ops pl bf g' i po ad os aak ri nG pend' k K tm' eN qD s6 s7 s8 s9 s10 hd (hk.mono s2) s11 s12 S') (hS.aor s2 s19 aqj) hpk (S'.erase hd.1)
end
end Go.Sx
/-
 SX: simulation: one step of the machine, and its whole run. No condition.
-/
namespace Go.Sx
open Go.RowKit
section
variable{P:Program}{nt:Nat}{ops:Array Oper}
theorem aiW{pl:List J}{x:IIt}{y:bx}(h:Ov pl x=some y):iOf y=x:=by
 cases x with
 |L i=>obtain⟨a,_,rfl⟩:=map_some h;rfl
 |A i=>obtain⟨a,_,rfl⟩:=map_some h;rfl
 |H i l=>obtain⟨a,_,rfl⟩:=map_some h;rfl
 |R os=>
  obtain⟨l,hl,rfl⟩:=map_some h
  show IIt.R (l.map (·.1))=IIt.R os
  congr 1
  induction os generalizing l with
  |nil=>simp at hl;subst hl;rfl
  |cons i os ih=>
   obtain⟨b,r,e1,e2,rfl⟩:=nv hl
   obtain⟨o,_,rfl⟩:=map_some e1
   simp[ih r e2 (by simp[Ov,e2])]
theorem aeJ{pl:List J}:∀ {Ee:List IIt} {items:List bx},Ee.mapM (Ov pl)=some items→items.map iOf=Ee
 | [],items,h=>by simp at h;subst h;rfl
 |x ::Ee,items,h=>by
  obtain⟨y,r,e1,e2,rfl⟩:=nv h
  simp[aiW e1,aeJ e2]
theorem Z3:∀ {pl:List J} {po:J} {d:Key},po∈pl→po.dst=some d→d∈dstsOf pl
 | [],_,_,h,_=>by cases h
 |o ::l,po,d,h,hd=>by
  rcases xH.1 h with e|e
  ·subst e;simp[dstsOf,hd]
  ·have:=Z3 e hd
   simp only[dstsOf]
   split
   ·exact List.mem_cons_of_mem _ this
   ·exact this
theorem aaT{pc:U}(h:Ud P nt ops false=some pc):∃ l,tC P nt ops (List.range ops.size)=some l∧pc=.ops l:=by
 unfold Ud at h
 split at h
 ·cases h
 ·rename_i l hl
  simp only[cond_false,dO] at h
  exact⟨l,hl,h.symm⟩
theorem ac8{pc:U}(h:Ud P nt ops true=some pc):∃ pl Ee items mN,pc=.staged items ⟨dstsOf pl,mN⟩∧Reg P nt ops pl (vK ops)∧Ee.mapM (Ov pl)=some items∧HW ops pl (vK ops) 0 Ee=true∧VB ops (dstsOf pl)∧IA (vK ops) mN=true:=by
 unfold Ud at h
 split at h
 ·cases h
 ·rename_i l hl
  simp only[cond_true] at h
  split at h
  ·rename_i st iZ
   split at h
   ·rename_i st' aoc
    cases Of:(aqa ops l (vK ops) (st'.map iOf)&&IA (vK ops) (Rg (l.zip (vK ops)) (l.zip (vK ops)) 0)) with
    |false=>rw[Of] at h;cases h
    |true=>
     rw[Of] at h
     simp only[cond_true,dO] at h
     simp only[aqa,Ad] at Of
     obtain⟨Of,aeF⟩:=Of
     have alU:Reg P nt ops l (vK ops):=⟨hl,Of.1.1,Of.1.2⟩
     refine⟨l,st'.map iOf,st',_,h.symm,alU,by rw[aeJ aoc];exact aoc,Of.2,?_,aeF⟩
     intro j t hj
     obtain⟨o,po,ho,hpo,aHu⟩:=alU.at (V7 hj)
     obtain⟨_,_,hd⟩:=ma hpo
     have hjd:o.dst=some t:=by simpa[tD,ho] using hj
     rcases hd with⟨e,_⟩|⟨k,e1,e2,_⟩
     ·rw[e] at hjd;cases hjd
     ·rw[hjd] at e1
      simp only[dO] at e1
      exact⟨k,Z3 (List.mem_of_getElem? aHu) e2,e1.symm⟩
   ·cases h
  ·cases h
end
section
variable{P:Program}{ρ:Nat→Int}{C:cU}{nt:Nat}{w0:W0}{w:World}{μ0 μ:Mu}{G:Key→Option ab}{H:T ab}{nx:Key}{rest cs:List Frame}{fr:Frame}{af:xC}{ny:List xC}{K:List Item}{k:List fE}
theorem lg.init{ops:Array Oper}{pl:List J}{bf:List Nat}(R:Reg P nt ops pl bf){tm:T AV}{tmps:Array Value}(hT:pU ρ μ nt tm tmps){rs:List Nat}(hv:XD ops (fun _=>false) rs) :
  lg P ρ C.orc nt ops pl bf μ G H nx {L:=0,D:=fun _=>false,a0:=fun k=>aa k tm,val:=fun _=>none} (fun _=>False) [] tm tmps rs:=by
 refine⟨R,hv,?_,?_,?_,?_,?_,?_,hT.1,?_,?_,?_,?_,?_,?_⟩
 ·intro i o h;cases h
 ·intro i h;cases h
 ·intro i h;rw[show hasB 0 i=false from Rm i] at h;cases h
 ·intro i h;rw[show hasB 0 i=false from Rm i] at h;cases h
 ·intro k j h;rw[show hasB 0 j=false from Rm j] at h;cases h
 ·intro k _;rfl
 ·intro k j a h;cases h
 ·intro k a _ h;exact hT.2 k a h
 ·intro i h;rw[show hasB 0 i=false from Rm i] at h;cases h
 ·intro x h;cases h
 ·exact List.nodup_nil
 ·exact List.nodup_nil
theorem ac9(hM:bG P ρ w0 μ G nx.toNat w){x:Operand}{px:PX}{a:AV}(hp:pX P nt x=some px)(ha:px.at af.tm=some a)(hT:pU ρ μ nt af.tm fr.tmps):bn ρ μ a (fr.eval x):=
 ahO hM hp ha fun t k _ hk hg=>by rw[← hk];exact hT.2 k a hg
theorem Zq(hM:bG P ρ w0 μ G nx.toNat w)(hH:HSub H G){b:Key}{st st':LS}{pd pd':Option U}{fn:Nat}{tm:T AV}{res:List RV}{params:List Key}{as bd:U}{dfs:Key}(hb:aa b H=some (.loop st pd fn tm res params as bd dfs))
  {l:Loc} (hl:μ b=some l) {L:Loop} (hL:w.heap[l.c]?=some (.loop L)) {s:LoopState} {pc:Option Code} (hs:agE st' s) (hpd:(∀ n,aaY P n pd L.pending)→∀ n,aaY P n pd' pc) :
  let w':={w with heap:=w.heap.setIfInBounds l.c (.loop {L with state:=s,pending:=pc})}
  let B':=ab.loop st' pd' fn tm res params as bd dfs
  ∃ μ' G',μ.le μ'∧bG P ρ w0 μ' G' nx.toNat w'∧HSub (aK b (some B') H) G'∧Kept H (aK b (some B') H) nx nx μ μ' G G':=by
 intro w' B'
 have hg:=hH _ _ hb
 obtain⟨l',L',ntl,ld,e0,e0',e1,e2,e3,e4,e5,e5',e6,e7,e8,e9,Ld⟩:=Uh hM hg
 rw[hl] at e0;cases e0
 rw[hL] at e0';cases e0'
 have ON:l.c<w.heap.size:=hM.Cs b l hl
 have mO:w0.heap.size≤l.c:=(hM.own b _ l hg hl).resolve_left (by simp[ab.ro])
 have hle:μ.le (μ.put b l):=Mu.HY (.inr hl)
 obtain⟨m1,m2⟩:=hM.put (w':=w') b B' l (.loop {L with state:=s,pending:=pc}) (nx':=nx.toNat) (.inr hl)
  ⟨rfl,rfl,rfl,by simp[w'],fun j hj _=>by show(w.heap.setIfInBounds l.c _)[j]?=_;rw[zqn (Ne.symm hj)],bS _⟩
  (by show(w.heap.setIfInBounds l.c _)[l.c]?=_;simp[ON])
  (.loop st' pd' fn ntl tm res params as bd dfs ld l _ hs (hpd e2) e3 (e4.mono hle) e5 e5' e6 e7 (hle.l _ _ e8) e9 Ld)
  (fun b' B' l' g m' ne=>hM.sep b' b B' _ l' l g hg m' hl ne) mO (bS _) (hM.new b l hl) (hM.lo0 hg hl rfl)
 exact⟨_,_,m1,m2,hH.set b (some B'),vA hb hl _ _⟩
inductive aok(P:Program)(nt:Nat)(fr:Frame):Option U→Option Code→Prop
 |fin (h:fr.todo=[]):aok P nt fr none none
 |ret (K:List Item) (h:fr.todo=.code .ret ::K):aok P nt fr (some .ret) (some .ret)
 |exit (id:Nat) (K:List Item) (h:fr.todo=.code (.exit id) ::K) (he:exitTo id K=none):aok P nt fr (some (.exit id)) (some (.exit id))
theorem ada{l:Nat}{L:Loop}(h:w.heap[l]?=some (.loop L))(j:Option Code):(Instr.endRound l j).run P w=.ok (.bool j.isNone) {w with heap:=w.heap.setIfInBounds l (.loop {L with state:=if j.isNone then .ready else .done,pending:=j})}:=by
 simp[Instr.endRound,Instr.getLoop,getObj,setObj,Sem.run,h]
theorem Zr{l:Nat}{L:Loop}(h:w.heap[l]?=some (.loop L))(hs:L.state=.ready):(Instr.beginRound l).run P w=.ok () {w with heap:=w.heap.setIfInBounds l (.loop {L with state:=.busy,pending:=L.pending})}:=by
 simp[Instr.beginRound,Instr.getLoop,getObj,setObj,Sem.run,h,hs]
theorem ad4{l:Nat}{L:Loop}(h:w.heap[l]?=some (.loop L))(hs:L.state≠.busy):(Instr.endLoop l).run P w=.ok L.pending {w with heap:=w.heap.setIfInBounds l (.loop {L with state:=.exhausted,pending:=L.pending})}:=by
 simp[Instr.endLoop,Instr.getLoop,getObj,setObj,Sem.run,h,hs]
theorem TR(X:Ctx P ρ w0 C){j:Option U}{jc:Option Code}(hj:aok P nt fr j jc)(h0:μ0.le μ)(hM:bG P ρ w0 μ G nx.toNat w)(hH:HSub H G)(hb:IP P ρ μ nt af fr)(h1:af.mode=.run)(hm:fr.mode=.run)
  (hk:af.todo=[]∨(∃ k,af.todo=.code .ret ::k)∨∃ id k,af.todo=.code (.exit id) ::k) (hjr:j=some .ret→∃ k,af.todo=.code .ret ::k) (Yd:j=none→af.todo=[]) (hT:pU ρ μ nt af.tm fr.tmps) (hS:fk P ρ C.orc μ G H nx ny cs) (hn:(bX ny).Nodup) :
  Good P ρ C w0 μ0 rest (lone fr (cs++rest) w) (Tz j af ny H nx):=by
 unfold Tz
 split
 ·rename_i hrn
  have Uj:fr.roundOf=none:=by
   have:=hb.Ol
   rw[hrn] at this
   cases hh:fr.roundOf with
   |none=>rfl
   |some x=>rw[hh] at this;exact this.elim
  cases hj with
  |fin ht=>
   refine⟨_,cs,w,.one (asy hm ht Uj),μ,G,h0,hM,hH,.ret nt ⟨hb.fn,hb.fnr,hb.dfs,hb.kind,hb.Ol,hb.rd⟩ rfl rfl (.inl (Yd rfl)) hT,hS,?_⟩
   show(bX (_ ::ny)).Nodup
   simp only[bX,pk,Yd rfl,List.nil_append];exact hn
  |ret KK ht=>
   obtain⟨kk,NM⟩:=hjr rfl
   refine⟨_,cs,w,.one (asz hm ht Uj),μ,G,h0,hM,hH,.ret nt ⟨hb.fn,hb.fnr,hb.dfs,hb.kind,hb.Ol,hb.rd⟩ rfl rfl (.inr ⟨kk,NM⟩) hT,hS,?_⟩
   show(bX (_ ::ny)).Nodup
   simp only[bX,pk,NM,List.nil_append];exact hn
  |exit id KK ht he=>trivial
 ·rename_i key hrn
  cases ny with
  |nil=>trivial
  |cons c ny=>
  cases cs with
  |nil=>exact hS.elim
  |cons cf cs=>
  have hdf:af.dfd=false:=hb.rd (by rw[hrn];intro e;cases e)
  have Ur:fr.kind=.normal:=by rw[hb.kind,hdf];rfl
  have Uj:∃ lc,μ key=some lc∧fr.roundOf=some lc.c:=by
   have:=hb.Ol
   rw[hrn] at this
   cases hh:fr.roundOf with
   |none=>rw[hh] at this;exact this.elim
   |some x=>rw[hh] at this;obtain⟨lc,e1,e2⟩:=this;exact⟨lc,e1,by rw[e2]⟩
  obtain⟨lc,oH,Uj⟩:=Uj
  simp only
  split
  ·rename_i st pd fn tm res params as bd dfs hbl
   simp only[sTCe]
   obtain⟨lc',L,ntl,ld,e0,e0',e1,e2,e3,e4,e5,e5',e6,e7,e8,e9,Ld⟩:=Uh hM (hH _ _ hbl)
   rw[oH] at e0;cases e0
   split
   ·rename_i c' hf
    have hpd:(∀ n,aaY P n pd L.pending)→∀ n,aaY P n j jc:=by
     intro _ XQ
     cases hj with
     |fin ht=>trivial
     |ret KK ht=>exact(rfl:kZ P XQ .ret=some .ret)
     |exit id KK ht he=>exact(rfl:kZ P XQ (.exit id)=some (.exit id))
    have hsr:agE (match (generalizing:=false) j with|none=>LS.ready|some _=>LS.done) (if jc.isNone then .ready else .done):=by
     cases hj<;>trivial
    obtain⟨μ',G',g1,g2,g3,g4⟩:=Zq hM hH hbl oH e0' hsr hpd
    have fe:=ada (P:=P) e0' jc
    have iZ:step P (lone fr (cf ::cs++rest) w)=.next (lone (cf.finish (.bool jc.isNone)) (cs++rest) {w with heap:=w.heap.setIfInBounds lc.c (.loop {L with state:=if jc.isNone then .ready else .done,pending:=jc})}):=by
     cases hj with
     |fin ht=>exact ZC hm ht Uj Ur fe
     |ret KK ht=>exact acL hm ht Uj Ur fe
     |exit id KK ht he=>exact aaG hm ht he Uj Ur fe
    have hS':=hS.kept g1 g4
    have hbv:bn ρ μ' (.bool (match (generalizing:=false) j with|none=>true|some _=>false)) (.bool jc.isNone):=by
     cases hj<;>exact .bool _
    obtain⟨q1,q2⟩:=hS'.1.finish hbv hf
    refine⟨_,cs,_,.one iZ,μ',G',Mu.le_trans h0 g1,g2,g3,q1,hS'.2,?_⟩
    show(bX (c' ::ny)).Nodup
    simp only[bX,q2] at hn ⊢
    exact hn
   ·trivial
  ·trivial
theorem aaU{fn:FuncId}{tmps:Array Value}{params:Array Tmp}{as bd:Code}:(Instr.enterLoop fn tmps params as bd none).run P w =
  .ok (w.heap.size+1,[⟨.collected w.heap.size,#[]⟩]) ((w.alloc (.deferred (some []))).alloc (.loop {state:=.ready,pending:=none,fn,tmps,params,assign:=as,body:=bd,defers:=w.heap.size})):=by
 simp[Instr.enterLoop,newObj,Sem.run]
theorem Z4{nt:Nat}:∀ {l:List Nat} {ks:List Key},l.mapM (RW nt)=some ks→abJ ks l∧∀ k∈ks,k.toNat<nt
 | [],ks,h=>by simp at h;subst h;exact⟨rfl,fun _ h=>by cases h⟩
 |t ::l,ks,h=>by
  obtain⟨k,r,e1,e2,rfl⟩:=nv h
  obtain⟨h1,h2⟩:=Z4 e2
  obtain⟨h3,h4⟩:=vw e1
  refine⟨?_,fun q hq=>?_⟩
  ·show(k ::r).map Key.toNat=t ::l
   rw[XW,h3,h1]
  ·rcases xH.1 hq with e|e
   ·rw[e,h3];exact h4
   ·exact h2 q e
theorem aiC(X:Ctx P ρ w0 C){pc:U}{c:Code}(hc:kZ P nt c=some pc)(h0:μ0.le μ)(hM:bG P ρ w0 μ G nx.toNat w)(hH:HSub H G)(hb:IP P ρ μ nt af fr)(h1:af.mode=.run)(hm:fr.mode=.run)
  (yw:af.todo=.code pc ::k) (ht:fr.todo=.code c ::K) (hk:tz P μ nt k K) (hT:pU ρ μ nt af.tm fr.tmps) (hS:fk P ρ C.orc μ G H nx ny cs) (hn:(bX ny).Nodup) :
  Good P ρ C w0 μ0 rest (lone fr (cs++rest) w) (dX C af ny H nx):=by
 have go:∀ (k':List fE) (K':List Item),tz P μ nt k' K'→step P (lone fr (cs++rest) w)=.next (lone {fr with todo:=K'} (cs++rest) w)→Good P ρ C w0 μ0 rest (lone fr (cs++rest) w) (.next ⟨{af with todo:=k'},ny,H,nx⟩):=by
  intro k' K' Ed iZ
  exact⟨_,cs,w,.one iZ,yz h0 hM hH (hb.todo af.tm k' fr.tmps K') h1 hm Ed hT hS hn⟩
 unfold dX
 rw[yw]
 cases c with
 |skip=>
  simp only[kZ,dO] at hc;subst hc
  exact go _ _ hk (anB hm ht)
 |region id ops draw=>
  simp only[kZ] at hc
  cases draw with
  |false=>
   obtain⟨l,hl,rfl⟩:=aaT hc
   exact go _ _ (.cons _ _ _ _ (.ops _ _ _ hl) hk) (aiK hm ht)
  |true=>
   obtain⟨pl,Ee,items,mN,rfl,alU,hf,aHw,hd,aeF⟩:=ac8 hc
   obtain⟨t,iZ⟩:=anE (P:=P) (cs:=cs++rest) (w:=w) hm ht
   rw[X.mix] at iZ
   have hv:=Z5 alU.down t
   refine⟨_,cs,_,.one iZ,μ,G,h0,hM.drawn _ (Nat.le_succ _),hH,.run nt (hb.todo af.tm _ fr.tmps _) h1 hm (.ready ops pl _ _ Ee items _ [] k K _ _ _ hf aHw ⟨hd,aeF⟩ hk (lg.init alU hT hv)),hS,?_⟩
   show(bX (_ ::ny)).Nodup
   simp only[bX,pk,List.map_nil,List.nil_append];exact hn
 |seq a b=>
  simp only[kZ] at hc
  split at hc
  ·rename_i a' b' ha kO
   cases hc
   exact go _ _ (.cons _ _ _ _ (.code _ _ ha) (.cons _ _ _ _ (.code _ _ kO) hk)) (asx hm ht)
  ·cases hc
 |cond x a b=>
  simp only[kZ] at hc
  split at hc
  ·rename_i x' a' b' hx ha kO
   cases hc
   simp only
   split
   ·rename_i hxa
    have hv:=ac9 hM hx hxa hT
    have he:fr.eval x=.bool true:=by generalize fr.eval x=u at hv;cases hv;rfl
    exact go _ _ (.cons _ _ _ _ (.code _ _ ha) hk) (ahp hm ht he)
   ·rename_i hxa
    have hv:=ac9 hM hx hxa hT
    have he:fr.eval x=.bool false:=by generalize fr.eval x=u at hv;cases hv;rfl
    exact go _ _ (.cons _ _ _ _ (.code _ _ kO) hk) (ahp hm ht he)
   ·trivial
  ·cases hc
 |block id a=>
  simp only[kZ] at hc
  split at hc
  ·rename_i a' ha
   cases hc
   exact go _ _ (.cons _ _ _ _ (.code _ _ ha) (.cons _ _ _ _ (.inBlock _) hk)) (ak9 hm ht)
  ·cases hc
 |loop a=>
  simp only[kZ] at hc
  split at hc
  ·rename_i a' ha
   cases hc
   exact go _ _ (.cons _ _ _ _ (.code _ _ ha) (.cons _ _ _ _ (.inLoop _ _ ha) hk)) (anC hm ht)
  ·cases hc
 |rangeFunc f params a b=>
  simp only[kZ] at hc
  split at hc
  ·rename_i f' ps a' b' hf hps ha kO
   cases hc
   simp only
   split
   ·rename_i g first cap hrn hfa
    simp only[sTCe]
    rcases OK X g (first ++ .yld nx.succ ::cap) false (.bad 61 ⟨af,ny,aK nx.succ (some (.loop .ready none af.fn af.tm af.res ps a' b' nx)) (aK nx (some (.dfs false)) H),nx⟩)
     (fun ur=>.next ⟨ur,{af with todo:=.inRF nx.succ ::k,dfs:=.coll nx ::af.dfs} ::ny,aK nx.succ (some (.loop .ready none af.fn af.tm af.res ps a' b' nx)) (aK nx (some (.dfs false)) H),nx.succ.succ⟩) with e|⟨p,hp,e⟩
    ·rw[e];trivial
    ·rw[e]
     have Uj:fr.roundOf=none:=by
      have:=hb.Ol
      rw[hrn] at this
      cases hh:fr.roundOf with
      |none=>rfl
      |some x=>rw[hh] at this;exact this.elim
     obtain⟨fn,c,f1,f2,f3,f4,f5⟩:=AO hp
     have hv:=ac9 hM hf hfa hT
     obtain⟨vs,ws,ev,hv1,hv2⟩:=ag5 hv
     have hs1:=kTSu nx
     have hs2:=kTSu nx.succ
     obtain⟨m1,M1⟩:=hM.alloc nx (.dfs false) (.deferred (some [])) 0 (nx':=nx.succ.toNat) hM.DV (.dfs false _) (by omega) (by omega)
     have hu1:(μ.put nx ⟨w.heap.size,0,0⟩) nx=some ⟨w.heap.size,0,0⟩:=Mu.fu _ _ _
     have tF:(w.alloc (.deferred (some []))).heap.size=w.heap.size+1:=by simp
     obtain⟨hkr,hkl⟩:=Z4 hps
     have VJ:(μ.put nx ⟨w.heap.size,0,0⟩) nx.succ=none:=M1.DV
     have WN:Mu.le (μ.put nx ⟨w.heap.size,0,0⟩) ((μ.put nx ⟨w.heap.size,0,0⟩).put nx.succ ⟨(w.alloc (.deferred (some []))).heap.size,0,0⟩):=Mu.HY (.inl VJ)
     obtain⟨m2,M2⟩:=M1.alloc nx.succ (.loop .ready none af.fn af.tm af.res ps a' b' nx) (.loop {state:=.ready,pending:=none,fn:=fr.fn,tmps:=fr.tmps,params,assign:=a,body:=b,defers:=w.heap.size}) 0 (nx':=nx.succ.succ.toNat) VJ
      (.loop .ready none af.fn nt af.tm af.res ps a' b' nx ⟨w.heap.size,0,0⟩ _ _ trivial (fun _=>trivial) hb.fn (hT.mono (Mu.le_trans m1 WN)) hkr hkl ha kO (WN.l _ _ hu1) rfl hb.fnr) (by omega) (by omega)
     have hK:Kept H (aK nx.succ (some (.loop .ready none af.fn af.tm af.res ps a' b' nx)) (aK nx (some (.dfs false)) H)) nx nx.succ.succ μ _ G _:=(KM (H:=H) (nx:=nx) (μ:=μ) (G:=G) ⟨w.heap.size,0,0⟩ (some (.dfs false)) (some (.dfs false))).trans
      (KM (nx:=nx.succ) ⟨(w.alloc (.deferred (some []))).heap.size,0,0⟩ (some (.loop .ready none af.fn af.tm af.res ps a' b' nx)) (some (.loop .ready none af.fn af.tm af.res ps a' b' nx)))
     have hle:=Mu.le_trans m1 m2
     have iZ:=acM (P:=P) (cs:=cs++rest) (w:=w) hm ht Uj aaU ev f1 (by rw[f2];rfl) f3
     have hu2:((μ.put nx ⟨w.heap.size,0,0⟩).put nx.succ ⟨(w.alloc (.deferred (some []))).heap.size,0,0⟩) nx.succ=some ⟨(w.alloc (.deferred (some []))).heap.size,0,0⟩:=Mu.fu _ _ _
     refine⟨_,{fr with todo:=.inRangeFunc (w.heap.size+1) ::K,defers:=[⟨.collected w.heap.size,#[]⟩]++fr.defers} ::cs,_,.one iZ,_,_,Mu.le_trans h0 hle,M2,(hH.set nx _).set nx.succ _,Eg hp ?_ false,⟨?_,hS.kept hle hK⟩,?_⟩
     ·have hy:bn ρ ((μ.put nx ⟨w.heap.size,0,0⟩).put nx.succ ⟨(w.alloc (.deferred (some []))).heap.size,0,0⟩) (.yld nx.succ) (.func (.yield (w.heap.size+1)) #[] #[]):=.yld _ _ _ hu2 tF.symm
      have:=(hv1.mono hle).append (aB.cons _ _ _ _ hy (hv2.mono hle))
      simpa using this
     ·refine .wait nt ⟨hb.fn,hb.fnr,⟨⟨_,m2.l _ _ hu1,rfl⟩,hb.dfs.mono hle⟩,hb.kind,?_,hb.rd⟩ h1 hm ?_
      ·have:=hb.Ol
       rw[hrn,Uj] at this
       show axM _ af.Ol fr.roundOf
       rw[hrn,Uj];trivial
      ·have:=Yr.rf (P:=P) (ρ:=ρ) (orc:=C.orc) (nt:=nt) (G:=QK (QK G nx (some (ab.dfs false))) nx.succ (some (.loop .ready none af.fn af.tm af.res ps a' b' nx))) (H:=aK nx.succ (some (.loop .ready none af.fn af.tm af.res ps a' b' nx)) (aK nx (some (.dfs false)) H)) (nx:=nx.succ.succ) nx.succ _ k K af.tm fr.tmps hu2 (hk.mono hle) (hT.mono hle)
       simp only[tF] at this ⊢
       exact this
     ·show(bX (_ ::_ ::ny)).Nodup
      simp only[bX,pk,List.nil_append];exact hn
   ·trivial
  ·cases hc
 |exit id=>
  simp only[kZ,dO] at hc;subst hc
  obtain⟨x1,x2⟩:=agl (id:=id) hk
  simp only
  split
  ·rename_i k' Ed
   obtain⟨K',e1,e2⟩:=x1 k' Ed
   exact go _ _ e2 (anD hm ht e1)
  ·rename_i Ed
   exact TR X (.exit id K ht (x2 Ed)) h0 hM hH hb h1 hm (.inr (.inr ⟨id,k,yw⟩)) (by intro e;cases e) (by intro e;cases e) hT hS hn
 |ret=>
  simp only[kZ,dO] at hc;subst hc
  exact TR X (.ret K ht) h0 hM hH hb h1 hm (.inr (.inl ⟨k,yw⟩)) (fun _=>⟨k,yw⟩) (by intro e;cases e) hT hS hn
 |scope a=>simp[kZ] at hc
 |label l=>simp[kZ] at hc
 |goto l=>simp[kZ] at hc
 |refuse s=>simp[kZ] at hc
end
end Go.Sx
/-
 SX: simulation: every step of the machine; what its whole run shows. No condition.
-/
namespace Go.Sx
open Go.RowKit
section
variable{P:Program}{ρ:Nat→Int}{C:cU}{nt:Nat}{w0:W0}{w:World}{μ0 μ:Mu}{G:Key→Option ab}{H:T ab}{nx:Key}{rest cs:List Frame}{fr:Frame}{af:xC}{ny:List xC}{K:List Item}{k:List fE}
theorem akD(X:Ctx P ρ w0 C)(h0:μ0.le μ)(hM:bG P ρ w0 μ G nx.toNat w)(hH:HSub H G)(hb:IP P ρ μ nt af fr)(h1:af.mode=.run)(hm:fr.mode=.run)
  (hTd:ae5 P ρ C.orc μ G H nx nt af.todo af.tm fr.todo fr.tmps) (hS:fk P ρ C.orc μ G H nx ny cs) (hn:(bX (af ::ny)).Nodup) :
  Good P ρ C w0 μ0 rest (lone fr (cs++rest) w) (dX C af ny H nx):=by
 generalize yw:af.todo=AK at hTd
 generalize htt:af.tm=TM at hTd
 generalize ht:fr.todo=FK at hTd
 generalize hft:fr.tmps=FT at hTd
 cases hTd with
 |plain k0 K0 tm tmps hk hT=>
  subst htt hft
  have hn:(bX ny).Nodup:=(List.nodup_append.1 hn).2.1
  cases hk with
  |nil=>
   unfold dX
   rw[yw]
   exact TR X (.fin ht) h0 hM hH hb h1 hm (.inl yw) (by intro e;cases e) (fun _=>yw) hT hS hn
  |cons a x k K h hk=>
   have go:∀ (k':List fE) (K':List Item),tz P μ nt k' K'→step P (lone fr (cs++rest) w)=.next (lone {fr with todo:=K'} (cs++rest) w)→Good P ρ C w0 μ0 rest (lone fr (cs++rest) w) (.next ⟨{af with todo:=k'},ny,H,nx⟩):=by
    intro k' K' Ed iZ
    exact⟨_,cs,w,.one iZ,yz h0 hM hH (hb.todo af.tm k' fr.tmps K') h1 hm Ed hT hS hn⟩
   cases h with
   |code pc c h=>exact aiC X h h0 hM hH hb h1 hm yw ht hk hT hS hn
   |inBlock id=>
    unfold dX;rw[yw]
    exact go _ _ hk (afU hm ht)
   |inLoop pc c h=>
    unfold dX;rw[yw]
    exact go _ _ (.cons _ _ _ _ (.code _ _ h) (.cons _ _ _ _ (.inLoop _ _ h) hk)) (aiD hm ht)
   |ops l ops rest h=>
    unfold dX;rw[yw]
    exact ajo X h0 hM hH hb h1 hm h ht hk hT hS hn
   |inRF key l r h hr=>
    unfold dX;rw[yw];trivial
   |endRF key l r oH hr=>
    subst hr
    unfold dX;rw[yw]
    simp only
    split
    ·rename_i st pd fn tm res params as bd dfs hbl
     obtain⟨lc',L,ntl,ld,e0,e0',e1,e2,e3,e4,e5,e5',e6,e7,e8,e9,Ld⟩:=Uh hM (hH _ _ hbl)
     rw[oH] at e0;cases e0
     split
     ·trivial
     ·rename_i hnb
      simp only[sTCe]
      have av5:L.state≠.busy:=by
       intro e
       rw[e] at e1
       cases st<;>first|exact e1.elim|exact hnb rfl
      obtain⟨μ',G',g1,g2,g3,g4⟩:=Zq (st':=.exhausted) (pd':=pd) (s:=.exhausted) (pc:=L.pending) hM hH hbl oH e0' trivial (fun h=>h)
      have iZ:=akE (P:=P) (cs:=cs++rest) hm ht (ad4 e0' av5)
      have ah4:∀ (k':List fE),tz P μ' nt k' ((L.pending.map Item.code).toList++K)→Good P ρ C w0 μ0 rest (lone fr (cs++rest) w) (.next ⟨{af with todo:=k'},ny,aK key (some (.loop .exhausted pd fn tm res params as bd dfs)) H,nx⟩):=by
       intro k' Ed
       exact⟨_,cs,_,.one iZ,yz (Mu.le_trans h0 g1) g2 g3 ((hb.mono g1).todo af.tm k' fr.tmps _) h1 hm Ed (hT.mono g1) (hS.kept g1 g4) hn⟩
      refine ah4 _ ?_
      cases pd with
      |none=>
       cases hp:L.pending with
       |none=>exact hk.mono g1
       |some c=>rw[hp] at e2;exact(e2 0).elim
      |some pc=>
       cases hp:L.pending with
       |none=>rw[hp] at e2;exact(e2 0).elim
       |some c=>
        rw[hp] at e2
        exact .cons _ _ _ _ (.code _ _ (e2 nt)) (hk.mono g1)
    ·trivial
   |beginRound=>
    unfold dX;rw[yw]
    simp only
    split
    ·trivial
    ·rename_i key hrn
     have Uj:∃ lc,μ key=some lc∧fr.roundOf=some lc.c:=by
      have:=hb.Ol
      rw[hrn] at this
      cases hh:fr.roundOf with
      |none=>rw[hh] at this;exact this.elim
      |some x=>rw[hh] at this;obtain⟨lc,e1,e2⟩:=this;exact⟨lc,e1,by rw[e2]⟩
     obtain⟨lc,oH,Uj⟩:=Uj
     split
     ·rename_i pd fn tm res params as bd dfs hbl
      simp only[sTCe]
      obtain⟨lc',L,ntl,ld,e0,e0',e1,e2,e3,e4,e5,e5',e6,e7,e8,e9,Ld⟩:=Uh hM (hH _ _ hbl)
      rw[oH] at e0;cases e0
      have arN:L.state=.ready:=by
       cases hs:L.state<;>rw[hs] at e1<;>first|rfl|exact e1.elim
      obtain⟨μ',G',g1,g2,g3,g4⟩:=Zq (st':=.busy) (pd':=pd) (s:=.busy) (pc:=L.pending) hM hH hbl oH e0' trivial (fun h=>h)
      have iZ:=aay (P:=P) (cs:=cs++rest) hm ht Uj (Zr e0' arN)
      exact⟨_,cs,_,.one iZ,yz (Mu.le_trans h0 g1) g2 g3 ((hb.mono g1).todo af.tm k fr.tmps K) h1 hm (hk.mono g1) (hT.mono g1) (hS.kept g1 g4) hn⟩
     ·trivial
 |ready ops pl bf g Ee items nG an k K tm tmps rs hf hc hd hk S=>
  subst htt hft
  unfold dX;rw[yw]
  refine Wo X h0 hM hH hb h1 hm hf hc hd ht hk S hS ?_
  simp only[bX,pk,yw] at hn
  exact hn
 |back ops pl bf g os Ee items nG an k K tm tmps rs hf hc hd hk hos Vy S=>
  subst htt hft
  unfold dX;rw[yw]
  simp only
  rw[acz]
  cases hrc:recheck C.orc nG.mN an af.tm H os with
  |false=>simp only[cond_false,yA];trivial
  |true=>
   simp only[cond_true]
   have S5:=S.abe hd.2 hrc hos Vy
   refine Wo X h0 hM hH hb h1 hm hf hc hd ht hk S5 hS ?_
   simp only[bX,pk,yw] at hn
   exact hn
theorem V4{b:Nat}(h:w.heap[b]?=some (.deferred (some []))):(Instr.takeDeferred b).run P w=.ok [] {w with heap:=w.heap.setIfInBounds b (.deferred none)}:=by
 simp[Instr.takeDeferred,getObj,setObj,Sem.run,h]
theorem ad5(X:Ctx P ρ w0 C)(h0:μ0.le μ)(hM:bG P ρ w0 μ G nx.toNat w)(hH:HSub H G)(hb:IP P ρ μ nt af fr)(aai:Cur P ρ C.orc μ G H nx af fr)(eM:af.mode≠.run)(hS:fk P ρ C.orc μ G H nx ny cs)(hn:(bX (af ::ny)).Nodup) :
  Good P ρ C w0 μ0 rest (lone fr (cs++rest) w) (Rp C af ny H nx):=by
 have hpk:pk af=[]:=by
  cases aai with
  |run nt hb h1=>exact absurd h1 eM
  |ret nt hb h1 h2 h3 h=>unfold pk;rcases h3 with h3|⟨k,h3⟩<;>rw[h3]
  |pan nt hb v u r h1 h2 hv h3 h=>unfold pk;rw[h3]
 have hfm:fr.mode≠.run:=by
  cases aai with
  |run nt hb h1=>exact absurd h1 eM
  |ret nt hb h1 h2 h3 h=>rw[h2];intro e;cases e
  |pan nt hb v u r h1 h2 hv h3 h=>rw[h2];intro e;cases e
 have Rh:(bX ny).Nodup:=(List.nodup_append.1 hn).2.1
 have aMK:∃ nt,IP P ρ μ nt af fr∧pU ρ μ nt af.tm fr.tmps:=by
  cases aai with
  |run nt hb h1=>exact absurd h1 eM
  |ret nt hb h1 h2 h3 h=>exact⟨nt,hb,h⟩
  |pan nt hb v u r h1 h2 hv h3 h=>exact⟨nt,hb,h⟩
 have move:∀ {μ':Mu} {G':Key→Option ab} {H':T ab} (ds:List ae6) (Ds:List Deferred),μ.le μ'→Zs ρ μ' ds Ds→Cur P ρ C.orc μ' G' H' nx {af with dfs:=ds} {fr with defers:=Ds}:=by
  intro μ' G' H' ds Ds hle hd
  cases aai with
  |run nt hb h1=>exact absurd h1 eM
  |ret nt hb h1 h2 h3 h=>exact .ret nt ⟨hb.fn,hb.fnr,hd,hb.kind,(hb.mono hle).Ol,hb.rd⟩ h1 h2 h3 (h.mono hle)
  |pan nt hb v u r h1 h2 hv h3 h=>exact .pan nt ⟨hb.fn,hb.fnr,hd,hb.kind,(hb.mono hle).Ol,hb.rd⟩ v u r h1 h2 (hv.mono hle) h3 (h.mono hle)
 have hD:=hb.dfs
 unfold Rp
 split
 ·rename_i b ds hds
  split
  ·rename_i hbl
   simp only[sTCe]
   rw[hds] at hD
   cases hfd:fr.defers with
   |nil=>rw[hfd] at hD;exact hD.elim
   |cons d Ds=>
   rw[hfd] at hD
   obtain⟨⟨l,hl,rfl⟩,hD2⟩:=hD
   have hg:=hH _ _ hbl
   obtain⟨l',o,e1,e2,e3⟩:=hM.Vo b _ hg
   rw[hl] at e1;cases e1
   have am8:w.heap[l.c]?=some (.deferred (some [])):=by
    cases e3 with|dfs _ _=>exact e2
   have ON:l.c<w.heap.size:=hM.Cs b l hl
   have mO:w0.heap.size≤l.c:=(hM.own b _ l hg hl).resolve_left (by simp[ab.ro])
   obtain⟨m1,m2⟩:=hM.put (w':={w with heap:=w.heap.setIfInBounds l.c (.deferred none)}) b (.dfs true) l (.deferred none) (nx':=nx.toNat) (.inr hl)
    ⟨rfl,rfl,rfl,by simp,fun j hj _=>by show(w.heap.setIfInBounds l.c _)[j]?=_;rw[zqn (Ne.symm hj)],bS _⟩
    (by show(w.heap.setIfInBounds l.c _)[l.c]?=_;simp[ON])
    (.dfs true l)
    (fun b' B' l' g m' ne=>hM.sep b' b B' _ l' l g hg m' hl ne) mO (bS _) (hM.new b l hl) (hM.lo0 hg hl rfl)
   have iZ:=acB (P:=P) (cs:=cs++rest) hfm hfd (V4 am8)
   refine⟨_,cs,_,.one iZ,_,_,Mu.le_trans h0 m1,m2,hH.set b _,move ds Ds m1 (hD2.mono m1),hS.kept m1 (vA hbl hl _ _),?_⟩
   show(bX (_ ::ny)).Nodup
   have:pk {af with dfs:=ds}=pk af:=rfl
   simp only[bX,this,hpk,List.nil_append];exact Rh
  ·trivial
 ·rename_i f args ds hds
  rcases OK X f args true (.bad 71 ⟨af,ny,H,nx⟩) (fun ur=>.next ⟨ur,{af with dfs:=ds} ::ny,H,nx⟩) with e|⟨p,hp,e⟩
  ·rw[e];trivial
  ·rw[e]
   rw[hds] at hD
   cases hfd:fr.defers with
   |nil=>rw[hfd] at hD;exact hD.elim
   |cons d Ds=>
   rw[hfd] at hD
   obtain⟨⟨ws,hd1,hd2⟩,hD2⟩:=hD
   obtain⟨fn,c,f1,f2,f3,f4,f5⟩:=AO hp
   have hi:(invoke d.target d.args).run P w=.ok (.enter f (d.args++ws)) w:=by
    rw[hd1];simp[invoke,vN f1 (by rw[f2];rfl) f3]
   have iZ:=ad6 (P:=P) (cs:=cs++rest) hfm hfd hd1 hi
   refine⟨_,{fr with defers:=Ds} ::cs,w,.one iZ,μ,G,h0,hM,hH,Eg hp hd2 true,⟨.unw (move ds Ds μ.le_refl hD2) eM,hS⟩,?_⟩
   show(bX (_ ::_ ::ny)).Nodup
   have:pk {af with dfs:=ds}=pk af:=rfl
   simp only[bX,this,hpk,List.nil_append]
   simp only[pk,List.nil_append];exact Rh
 ·rename_i hds
  have hfd:fr.defers=[]:=by
   rw[hds] at hD
   cases hfd:fr.defers with
   |nil=>rfl
   |cons d Ds=>rw[hfd] at hD;exact hD.elim
  split
  ·trivial
  ·rename_i KW
   cases aai with
   |run nt hb h1=>exact absurd h1 eM
   |pan nt hb v u r h1=>rw[h1] at KW;cases KW
   |ret nt hb h1 h2 h3 hT=>
    split
    ·rename_i l hl
     obtain⟨fn,g1,g2,g3⟩:=hb.fnr.ex
     have g1':P.funcs[fr.fn]?=some fn:=by rw[hb.fn];exact g1
     rw[g2] at g3
     obtain⟨vs,q1,q2⟩:=aaz hM hH hT g3 hl
     rw[IQ]
     obtain⟨μ1,G1,x1,x2⟩:=Ug (C.IS af.fn) hM hH q2
     have q2:=afW x2
     have hS:=fk.kept x1.le x1.kept hS
     have h0:=Mu.le_trans h0 x1.le
     have hM:=x1.M
     have hH:=x1.hs
     have hb:=hb.mono x1.le
     have hT:=hT.mono x1.le
     generalize cW (C.IS af.fn) l H=lh at q2 hS hM hH
     obtain⟨l1,H1⟩:=lh
     simp only at q2 hS hM hH ⊢
     clear x1 x2
     generalize hvv:US vs=v at q1 q2
     unfold XX
     cases ny with
     |nil=>
      cases cs with
      |cons _ _=>exact hS.elim
      |nil=>
      cases hdf:af.dfd with
      |true=>trivial
      |false=>
       have Ur:fr.kind=.normal:=by rw[hb.kind,hdf];rfl
       exact⟨fr,w,μ1,G1,v,Steps.refl _ _,hb.fn,⟨h2,hfd,Ur,fn,g1',q1⟩,q2,h0,hM,hH⟩
     |cons c ny=>
      cases cs with
      |nil=>exact hS.elim
      |cons cf cs=>
      have Ro:(bX (c ::ny)).Nodup:=Rh
      cases hdf:af.dfd with
      |true=>
       have Ur:fr.kind=.deferred:=by rw[hb.kind,hdf];rfl
       have iZ:=TS (P:=P) (c:=cf) (cs:=cs++rest) h2 hfd Ur g1' q1
       simp only[cond_true]
       cases hS.1 with
       |wait XQ kO Ix=>
        rw[Ix];trivial
       |unw hc Yu=>
        cases hc with
        |run XQ kO Ix=>exact absurd Ix Yu
        |ret XQ kO Ix W9 h3' hT'=>
         have TU:settle cf.mode=cf.mode:=by rw[W9];rfl
         rw[TU] at iZ
         rw[Ix]
         exact⟨_,cs,w,.one iZ,μ1,G1,h0,hM,hH,.ret XQ kO Ix W9 h3' hT',hS.2,Ro⟩
        |pan XQ kO v' u' r' Ix W9 hv' h3' hT'=>
         rw[Ix]
         cases r' with
         |true=>
          have TU:settle cf.mode=.returning:=by rw[W9];rfl
          rw[TU] at iZ
          refine⟨_,cs,w,.one iZ,μ1,G1,h0,hM,hH,.ret XQ ⟨kO.fn,kO.fnr,kO.dfs,kO.kind,kO.Ol,kO.rd⟩ rfl rfl (.inl h3') hT',hS.2,?_⟩
          exact Ro
         |false=>
          have TU:settle cf.mode=cf.mode:=by rw[W9];rfl
          rw[TU] at iZ
          exact⟨_,cs,w,.one iZ,μ1,G1,h0,hM,hH,.pan XQ kO v' u' false Ix W9 hv' h3' hT',hS.2,Ro⟩
      |false=>
       have Ur:fr.kind=.normal:=by rw[hb.kind,hdf];rfl
       have iZ:=aiE (P:=P) (c:=cf) (cs:=cs++rest) h2 hfd Ur g1' q1
       simp only[cond_false]
       split
       ·rename_i c' hf
        obtain⟨k1,k2⟩:=hS.1.finish q2 hf
        refine⟨_,cs,w,.one iZ,μ1,G1,h0,hM,hH,k1,hS.2,?_⟩
        show(bX (c' ::ny)).Nodup
        simp only[bX,k2] at Ro ⊢
        exact Ro
       ·trivial
    ·trivial
  ·rename_i v KW
   cases aai with
   |run nt hb h1=>exact absurd h1 eM
   |ret nt hb h1=>rw[h1] at KW;cases KW
   |pan nt hb v' u r h1 h2 hv h3 hT=>
    rw[h1] at KW
    simp only[ajn.pan.injEq] at KW
    obtain⟨rfl,rfl⟩:=KW
    obtain⟨fn,g1,g2,g3⟩:=hb.fnr.ex
    have g1':P.funcs[fr.fn]?=some fn:=by rw[hb.fn];exact g1
    cases ny with
    |nil=>trivial
    |cons c ny=>
     cases cs with
     |nil=>exact hS.elim
     |cons cf cs=>
     simp only
     cases hS.1 with
     |unw hc Yu=>
      cases hc with
      |run XQ kO Ix=>exact absurd Ix Yu
      |ret XQ kO Ix=>rw[Ix];trivial
      |pan XQ kO v2 u2 r2 Ix=>rw[Ix];trivial
     |wait XQ kO Ix W9 hW=>
      rw[Ix]
      have iZ:=ad7 (P:=P) (c:=cf) (cs:=cs++rest) (w:=w) h2 hfd g1'
      have hra:cf.raise [{v:=u,recovered:=false}]={cf with mode:=.panicking [{v:=u,recovered:=false}]}:=by
       simp[Frame.raise,W9]
      rw[hra] at iZ
      refine⟨_,cs,w,.one iZ,μ,G,h0,hM,hH,.pan XQ ⟨kO.fn,kO.fnr,kO.dfs,kO.kind,kO.Ol,kO.rd⟩ v' u false rfl rfl hv rfl ?_,hS.2,?_⟩
      ·show pU ρ μ XQ (match c.todo with|.staged _ d _ ::_=>Tf d.ds c.tm (fun t=>t)|_=>c.tm) cf.tmps
       generalize cf.todo=KK at hW
       generalize hTT:cf.tmps=TT at hW
       generalize c.todo=kk at hW
       generalize c.tm=tt at hW
       cases hW with
       |ops o l ops i rest k K tm tmps hp h ht=>exact ht
       |rf key l k K tm tmps hk h ht=>exact ht
       |staged ops pl bf g i po ad os Ee items nG an k K tm tmps rest vL hf hc hL hbi hd h hos Vy S=>
        simp only[yA]
        exact S.erase hd.1
      ·have Ro:(bX (c ::ny)).Nodup:=Rh
       show(bX (_ ::ny)).Nodup
       simp only[bX,pk,List.nil_append] at Ro ⊢
       exact(List.nodup_append.1 Ro).2.1
  ·trivial
theorem GK(X:Ctx P ρ w0 C){am:AM}(h:Yp P ρ C.orc w0 μ0 am fr cs w):Good P ρ C w0 μ0 rest (lone fr (cs++rest) w) (rl C am):=by
 obtain⟨μ,G,h0,hM,hH,hc,hS,hn⟩:=h.ex
 unfold rl
 split
 ·rename_i hm
  cases hc with
  |run nt hb h1 h2 h=>exact akD X h0 hM hH hb h1 h2 h hS hn
  |ret nt hb h1=>rw[h1] at hm;cases hm
  |pan nt hb v u r h1=>rw[h1] at hm;cases hm
 ·rename_i hm
  have eM:am.fr.mode≠.run:=fun e=>hm e
  have hb:∃ nt,IP P ρ μ nt am.fr fr:=by
   cases hc with
   |run nt hb h1 h2 h=>exact⟨nt,hb⟩
   |ret nt hb h1=>exact⟨nt,hb⟩
   |pan nt hb v u r h1=>exact⟨nt,hb⟩
  obtain⟨nt,hb⟩:=hb
  exact ad5 X h0 hM hH hb hc eM hS hn
theorem IV(C:cU)(n:Nat)(m:AM):Tt C (n+1) m=match rl C m with
  |.next m=>Tt C n m
  |r=>r:=rfl
theorem Tu(X:Ctx P ρ w0 C):∀ (n:Nat) {am:AM} {fr:Frame} {cs:List Frame} {w:World},Yp P ρ C.orc w0 μ0 am fr cs w→Good P ρ C w0 μ0 rest (lone fr (cs++rest) w) (Tt C n am)
 |0,am,fr,cs,w,h=>⟨fr,cs,w,Steps.refl _ _,h⟩
 |n+1,am,fr,cs,w,h=>by
  have h1:=GK (rest:=rest) X h
  rw[IV]
  cases hs:rl C am with
  |next m=>
   rw[hs] at h1
   obtain⟨ur,IN,w',s1,h2⟩:=h1
   exact Good.steps s1 (Tu X n h2)
  |done f v hh nx=>rw[hs] at h1;exact h1
  |alt l=>rw[hs] at h1;exact h1
  |pan v hh nx=>trivial
  |bad k m=>trivial
end
end Go.Sx
/-
 SX: the machine's run as a fact on a call of the model. No condition.
-/
namespace Go.Sx
open Go.RowKit
noncomputable def mn(f:Nat)(p:eG)(l:List AV):xC:={fn:=f,tm:=ml l .z .nil,todo:=[.code p.body],dfs:=[],mode:=.run,dfd:=false,Ol:=none,res:=p.res}
section
variable{P:Program}{ρ:Nat→Int}{C:cU}{w0:W0}{w:World}{μ0:Mu}{G0:Key→Option ab}{H H':T ab}{nx nx':Key}
theorem ajw(X:Ctx P ρ w0 C){f:Nat}{p:eG}(hp:pFn P f=some p){l:List AV}{args:Array Value}(hM:bG P ρ w0 μ0 G0 nx.toNat w)(hH:HSub H G0)(hl:aB ρ μ0 l args.toList){n:Nat}{v:AV}
  (fe:Tt C n ⟨mn f p l,[],H,nx⟩=.done f v H' nx'):Calls P f args w fun e w'=>∃ u μ G,e=.returned u∧bn ρ μ v u∧μ0.le μ∧bG P ρ w0 μ G nx'.toNat w'∧HSub H' G:=by
 intro cs
 have hm:Yp P ρ C.orc w0 μ0 ⟨mn f p l,[],H,nx⟩ (Frame.enter P f args .normal) [] w:=
  ⟨μ0,G0,μ0.le_refl,hM,hH,Eg hp hl false,trivial,by simp[bX,pk,mn]⟩
 have hg:=Tu (rest:=cs) X n hm
 rw[fe] at hg
 obtain⟨ur,w',μ,G,u,s1,s2,s3,s4,s5,s6,s7⟩:=hg
 exact⟨.returned u,w',ur,⟨u,μ,G,rfl,s4,s5,s6,s7⟩,s1,s2,s3⟩
inductive Ev(C:cU)(S:AM→Prop):AM→Prop
 |now {m:AM} (h:S m):Ev C S m
 |step {m m':AM} (e:rl C m=.next m') (h:Ev C S m'):Ev C S m
 |alt {m:AM} {l:List AM} (e:rl C m=.alt l) (h:∀ m'∈l,Ev C S m'):Ev C S m
theorem Ev.bind{S S':AM→Prop}{m:AM}(h:Ev C S m)(hs:∀ m',S m'→Ev C S' m'):Ev C S' m:=by
 induction h with
 |now h=>exact hs _ h
 |step e _ ih=>exact .step e ih
 |alt e _ ih=>exact .alt e ih
theorem Ev.mono{S S':AM→Prop}{m:AM}(h:Ev C S m)(hs:∀ m',S m'→S' m'):Ev C S' m:=h.bind fun m' q=>.now (hs m' q)
theorem Ev.same{S:AM→Prop}{m m2:AM}(hs:rl C m=rl C m2)(hn:¬ S m2)(h:Ev C S m2):Ev C S m:=by
 cases h with
 |now h=>exact absurd h hn
 |step e h=>exact .step (hs.trans e) h
 |alt e h=>exact .alt (hs.trans e) h
theorem ajx(a b:Nat)(m m1:AM)(h:Tt C a m=.next m1):Tt C (a+b) m=Tt C b m1:=by
 induction a generalizing m with
 |zero=>
  have:SR.next m=SR.next m1:=h
  cases this;rw[Nat.zero_add]
 |succ a ih=>
  rw[IV] at h
  have e:a+1+b=(a+b)+1:=by omega
  rw[e,IV]
  cases hs:rl C m with
  |next m2=>rw[hs] at h;exact ih m2 h
  |done f v hh nx=>rw[hs] at h;cases h
  |alt l=>rw[hs] at h;cases h
  |pan v hh nx=>rw[hs] at h;cases h
  |bad k m=>rw[hs] at h;cases h
theorem Ev.ajy{S:AM→Prop}:∀ (n:Nat) {m m':AM},Tt C n m=.next m'→Ev C S m'→Ev C S m
 |0,m,m',h,q=>by
  have:SR.next m=SR.next m':=h
  cases this;exact q
 |n+1,m,m',h,q=>by
  rw[IV] at h
  cases hs:rl C m with
  |next m2=>rw[hs] at h;exact .step hs (Ev.ajy n h q)
  |done f v hh nx=>rw[hs] at h;cases h
  |alt l=>rw[hs] at h;cases h
  |pan v hh nx=>rw[hs] at h;cases h
  |bad k m=>rw[hs] at h;cases h
def To(C:cU)(m m':AM):Prop:=∃ n,Tt C n m=.next m'
theorem To.refl(m:AM):To C m m:=⟨0,rfl⟩
theorem To.head{m m1 m2:AM}(h:rl C m=.next m1)(h':To C m1 m2):To C m m2:=by
 obtain⟨n,hn⟩:=h'
 exact⟨n+1,by rw[IV,h];exact hn⟩
theorem To.one{m m1:AM}(h:rl C m=.next m1):To C m m1:=.head h (.refl _)
theorem To.trans{m m1 m2:AM}(h:To C m m1)(h':To C m1 m2):To C m m2:=by
 obtain⟨a,ha⟩:=h
 obtain⟨b,hb⟩:=h'
 exact⟨a+b,by rw[ajx a b m m1 ha];exact hb⟩
theorem To.ev{S:AM→Prop}{m m':AM}(h:To C m m')(q:Ev C S m'):Ev C S m:=by
 obtain⟨n,hn⟩:=h
 exact Ev.ajy n hn q
theorem Ev.sound(X:Ctx P ρ w0 C){S:AM→Prop}{rest:List Frame}{am:AM}(h:Ev C S am):∀ {fr:Frame} {cs:List Frame} {w:World},Yp P ρ C.orc w0 μ0 am fr cs w→
  ∃ am' ur IN w',S am'∧Steps P (lone fr (cs++rest) w) (lone ur (IN++rest) w')∧Yp P ρ C.orc w0 μ0 am' ur IN w':=by
 induction h with
 |now h=>intro fr cs w hm;exact⟨_,fr,cs,w,h,Steps.refl _ _,hm⟩
 |step e _ ih=>
  intro fr cs w hm
  have hg:=GK (rest:=rest) X hm
  rw[e] at hg
  obtain⟨ur,IN,w',s1,h2⟩:=hg
  obtain⟨am',fr2,mo,w2,q,s2,h3⟩:=ih h2
  exact⟨am',fr2,mo,w2,q,s1.trans s2,h3⟩
 |alt e _ ih=>
  intro fr cs w hm
  have hg:=GK (rest:=rest) X hm
  rw[e] at hg
  obtain⟨am1,oR,ur,IN,w',s1,h2⟩:=hg
  obtain⟨am',fr2,mo,w2,q,s2,h3⟩:=ih am1 oR h2
  exact⟨am',fr2,mo,w2,q,s1.trans s2,h3⟩
end
end Go.Sx
/-
 SX: a logic for the machine's code. No condition.
-/
namespace Go.Sx
open Go.RowKit
inductive Ex where
 |norm
 |ret
 |exit (id:Nat)
 |pan (a:AV)
def Aft(af:xC)(k:List fE):Ex→T AV→xC→Prop
 |.norm,tm,fr=>fr={af with tm:=tm,todo:=k}
 |.ret,tm,fr=>∃ t,fr={af with tm:=tm,todo:=t,mode:=.ret}
 |.exit id,tm,fr=>∃ k2,Ai id k2=Ai id k∧fr={af with tm:=tm,todo:=.code (.exit id) ::k2}
 |.pan a,tm,fr=>fr={af with tm:=tm,todo:=[],mode:=.pan a false}
abbrev bp:=Ex→T AV→T ab→Key→Prop
def Stop(Q:bp)(af:xC)(k:List fE)(cs:List xC)(m:AM):Prop:=∃ e tm' h' nx' fr,Q e tm' h' nx'∧Aft af k e tm' fr∧m=⟨fr,cs,h',nx'⟩
def WI(C:cU)(x:fE)(Q:bp)(tm:T AV)(h:T ab)(nx:Key):Prop:=
 ∀ (af:xC) (k:List fE) (cs:List xC),af.mode=.run→af.Ol=none→Ev C (Stop Q af k cs) ⟨{af with tm:=tm,todo:=x ::k},cs,h,nx⟩
abbrev W(C:cU)(c:U):bp→T AV→T ab→Key→Prop:=WI C (.code c)
section
variable{C:cU}{Q Q':bp}{tm:T AV}{h:T ab}{nx:Key}
theorem WI.mono{x:fE}(hw:WI C x Q tm h nx)(hq:∀ e tm h nx,Q e tm h nx→Q' e tm h nx):WI C x Q' tm h nx:=by
 intro af k cs h1 h2
 refine(hw af k cs h1 h2).mono ?_
 rintro m ⟨e,tm',h',nx',fr,q,a,t⟩
 exact⟨e,tm',h',nx',fr,hq _ _ _ _ q,a,t⟩
theorem eE{m:AM}{r:SR}(hm:m.fr.mode=.run)(hr:dX C m.fr m.cs m.h m.nx=r):rl C m=r:=by
 unfold rl;simp only[hm];exact hr
theorem Stop.not{y:fE}{af:xC}{k:List fE}{cs mo:List xC}(hy:∀ id,y≠.code (.exit id))(h1:af.mode=.run):¬ Stop Q af k cs ⟨{af with tm:=tm,todo:=y ::k},mo,h,nx⟩:=by
 rintro⟨e,tm',h',nx',fr,q,a,t⟩
 simp only[AM.mk.injEq] at t
 obtain⟨e0,_⟩:=t
 cases e with
 |norm=>cases a;simp at e0
 |ret=>obtain⟨_,rfl⟩:=a;simp[h1] at e0
 |exit id=>obtain⟨_,_,rfl⟩:=a;simp at e0;exact hy id e0.2.1
 |pan a'=>cases a;simp at e0
theorem WI.to{x y:fE}(hs:∀ (af:xC) (k:List fE) (cs:List xC),af.mode=.run→af.Ol=none→dX C {af with tm:=tm,todo:=x ::k} cs h nx=.next ⟨{af with tm:=tm,todo:=y ::k},cs,h,nx⟩)(hw:WI C y Q tm h nx):WI C x Q tm h nx:=by
 intro af k cs h1 h2
 exact .step (eE h1 (hs af k cs h1 h2)) (hw af k cs h1 h2)
theorem W.skip(hq:Q .norm tm h nx):W C .skip Q tm h nx:=by
 intro af k cs h1 h2
 exact .step (eE h1 rfl) (.now ⟨.norm,tm,h,nx,_,hq,rfl,rfl⟩)
theorem W.ret(hq:Q .ret tm h nx):W C .ret Q tm h nx:=by
 intro af k cs h1 h2
 refine .step (m':=⟨{af with tm:=tm,todo:=.code .ret ::k,mode:=.ret},cs,h,nx⟩) (eE h1 ?_) (.now ⟨.ret,tm,h,nx,_,hq,⟨.code .ret ::k,rfl⟩,rfl⟩)
 show Tz (some .ret) _ cs h nx=_
 unfold Tz
 simp only[h2]
theorem W.exit{id:Nat}(hq:Q (.exit id) tm h nx):W C (.exit id) Q tm h nx:=by
 intro af k cs h1 h2
 exact .now ⟨.exit id,tm,h,nx,_,hq,⟨k,rfl,rfl⟩,rfl⟩
theorem W.seq{a b:U}(hw:W C a (fun e tm h nx=>match e with|.norm=>W C b Q tm h nx|e=>Q e tm h nx) tm h nx):W C (.seq a b) Q tm h nx:=by
 intro af k cs h1 h2
 refine .step (m':=⟨{af with tm:=tm,todo:=.code a ::.code b ::k},cs,h,nx⟩) (eE h1 rfl) ((hw af (.code b ::k) cs h1 h2).bind ?_)
 rintro m ⟨e,tm',h',nx',fr,q,ha,rfl⟩
 cases e with
 |norm=>
  cases ha
  refine(q {af with tm:=tm'} k cs h1 h2).mono ?_
  rintro m ⟨e2,xD,hh2,aH,fr2,q2,a2,t2⟩
  refine⟨e2,xD,hh2,aH,fr2,q2,?_,t2⟩
  cases e2<;>exact a2
 |ret=>exact .now ⟨.ret,tm',h',nx',fr,q,ha,rfl⟩
 |exit id=>
  obtain⟨k2,e1,e2⟩:=ha
  exact .now ⟨.exit id,tm',h',nx',fr,q,⟨k2,e1,e2⟩,rfl⟩
 |pan a=>exact .now ⟨.pan a,tm',h',nx',fr,q,ha,rfl⟩
theorem W.cond{x:PX}{a b:U}{t:Bool}(hx:x.at tm=some (.bool t))(hw:W C (if t then a else b) Q tm h nx):W C (.cond x a b) Q tm h nx:=by
 refine WI.to (y:=.code (if t then a else b)) ?_ hw
 intro af k cs h1 h2
 simp only[dX,hx]
 cases t<;>rfl
theorem W.block{id:Nat}{c:U}(hw:W C c (fun e tm h nx=>match e with|.exit j=>if j=id then Q .norm tm h nx else Q (.exit j) tm h nx|e=>Q e tm h nx) tm h nx):W C (.block id c) Q tm h nx:=by
 intro af k cs h1 h2
 refine .step (m':=⟨{af with tm:=tm,todo:=.code c ::.inBlock id ::k},cs,h,nx⟩) (eE h1 rfl) ((hw af (.inBlock id ::k) cs h1 h2).bind ?_)
 rintro m ⟨e,tm',h',nx',fr,q,ha,rfl⟩
 cases e with
 |norm=>
  cases ha
  exact .step (eE h1 rfl) (.now ⟨.norm,tm',h',nx',_,q,rfl,rfl⟩)
 |ret=>exact .now ⟨.ret,tm',h',nx',fr,q,ha,rfl⟩
 |exit j=>
  obtain⟨k2,e1,rfl⟩:=ha
  by_cases hj:j=id
  ·subst hj
   simp only[if_true] at q
   refine .step (m':=⟨{af with tm:=tm',todo:=k},cs,h',nx'⟩) (eE h1 ?_) (.now ⟨.norm,tm',h',nx',_,q,rfl,rfl⟩)
   simp only[dX,e1,Ai,beqN_eq,decide_true,cond_true]
  ·simp only[if_neg hj] at q
   refine .now ⟨.exit j,tm',h',nx',_,q,⟨k2,?_,rfl⟩,rfl⟩
   rw[e1]
   simp only[Ai,beqN_eq,show ¬ id=j from fun e=>hj e.symm,decide_false,cond_false]
 |pan a=>exact .now ⟨.pan a,tm',h',nx',fr,q,ha,rfl⟩
theorem W.loop{c:U}(Inv:Nat→T AV→T ab→Key→Prop)
  (hw:∀ n tm h nx,Inv n tm h nx→W C c (fun e tm h nx=>match e with|.norm=>∃ m,m<n∧Inv m tm h nx|e=>Q e tm h nx) tm h nx) {n:Nat} (hi:Inv n tm h nx):W C (.loop c) Q tm h nx:=by
 have key:∀ (n:Nat) (tm:T AV) (h:T ab) (nx:Key),Inv n tm h nx→WI C (.inLoop c) Q tm h nx:=by
  intro n
  induction n using Nat.strongRecOn with
  |_ n ih=>
   intro tm h nx hi af k cs h1 h2
   refine .step (m':=⟨{af with tm:=tm,todo:=.code c ::.inLoop c ::k},cs,h,nx⟩) (eE h1 rfl) ((hw n tm h nx hi af (.inLoop c ::k) cs h1 h2).bind ?_)
   rintro m ⟨e,tm',h',nx',fr,q,ha,rfl⟩
   cases e with
   |norm=>
    cases ha
    obtain⟨m,hm,him⟩:=q
    refine(ih m hm tm' h' nx' him {af with tm:=tm'} k cs h1 h2).mono ?_
    rintro m ⟨e2,xD,hh2,aH,fr2,q2,a2,t2⟩
    refine⟨e2,xD,hh2,aH,fr2,q2,?_,t2⟩
    cases e2<;>exact a2
   |ret=>exact .now ⟨.ret,tm',h',nx',fr,q,ha,rfl⟩
   |exit id=>
    obtain⟨k2,e1,e2⟩:=ha
    exact .now ⟨.exit id,tm',h',nx',fr,q,⟨k2,e1,e2⟩,rfl⟩
   |pan a=>exact .now ⟨.pan a,tm',h',nx',fr,q,ha,rfl⟩
 intro af k cs h1 h2
 -- the aGL code and Ee item go the same way
 exact Ev.same (by rw[eE (m:=⟨{af with tm:=tm,todo:=.inLoop c ::k},cs,h,nx⟩) h1 rfl,eE (m:=⟨{af with tm:=tm,todo:=.code (.loop c) ::k},cs,h,nx⟩) h1 rfl];rfl)
  (Stop.not (fun id e=>by cases e) h1) (key n tm h nx hi af k cs h1 h2)
inductive Out where
 |ret (v:AV)
 |pan (a:AV)
noncomputable def OL(C:cU)(f:Nat):Option eG:=bif Nat.beq (Key.lZ 12 f).toNat f then aa (Key.lZ 12 f) C.fns else none
def Left(C:cU)(f:Nat)(fr:xC)(h1:T ab)(o:Out)(h':T ab):Prop:=fr.dfs=[]∧match o with
 |.ret v=>fr.mode=.ret∧∃ l,resultsA h1 fr.tm fr.res=some l∧v=vU (cW (C.IS f) l h1).1∧h'=(cW (C.IS f) l h1).2
 |.pan a=>fr.mode=.pan a false∧h'=h1
def aGM(C:cU)(f:Nat)(R:Out→T ab→Key→Prop)(cs:List xC)(m:AM):Prop:=∃ o h' nx' fr h1,R o h' nx'∧fr.fn=f∧fr.dfd=false∧Left C f fr h1 o h'∧m=⟨fr,cs,h1,nx'⟩
def aO(C:cU)(f:Nat)(l:List AV)(h:T ab)(nx:Key)(R:Out→T ab→Key→Prop):Prop:=
 (∃ v h' nx',C.sum f l h nx=some (v,h',nx')∧R (.ret v) h' nx')∨
 (C.sum f l h nx=none∧∃ p,OL C f=some p∧∀ cs,Ev C (aGM C f R cs) ⟨mn f p l,cs,h,nx⟩)
theorem aO.mono{f:Nat}{l:List AV}{R R':Out→T ab→Key→Prop}(hc:aO C f l h nx R)(hr:∀ o h nx,R o h nx→R' o h nx):aO C f l h nx R':=by
 rcases hc with⟨v,h',nx',h1,h2⟩|⟨h1,p,h2,h3⟩
 ·exact .inl ⟨v,h',nx',h1,hr _ _ _ h2⟩
 ·refine .inr ⟨h1,p,h2,fun cs=>(h3 cs).mono ?_⟩
  rintro m ⟨o,h',nx',fr,h1,q,r⟩
  exact⟨o,h',nx',fr,h1,hr _ _ _ q,r⟩
def I7(C:cU)(f:Nat)(res:List RV)(R:Out→T ab→Key→Prop):bp:=fun e tm h nx=>match e with
 |.norm|.ret=>∃ l,resultsA h tm res=some l∧R (.ret (vU (cW (C.IS f) l h).1)) (cW (C.IS f) l h).2 nx
 |.pan a=>R (.pan a) h nx
 |.exit _=>False
theorem aO.aGN{f:Nat}{p:eG}{l:List AV}{R:Out→T ab→Key→Prop}(hs:C.sum f l h nx=none)(hp:OL C f=some p)(hw:W C p.body (I7 C f p.res R) (ml l .z .nil) h nx):aO C f l h nx R:=by
 refine .inr ⟨hs,p,hp,fun cs=>(hw (mn f p l) [] cs rfl rfl).bind ?_⟩
 rintro m ⟨e,tm',h',nx',fr,q,ha,rfl⟩
 cases e with
 |norm=>
  cases ha
  obtain⟨l1,hl,hr⟩:=q
  exact .step (m':=⟨{mn f p l with tm:=tm',todo:=[],mode:=.ret},cs,h',nx'⟩) (eE rfl rfl) (.now ⟨_,_,nx',_,h',hr,rfl,rfl,⟨rfl,rfl,l1,hl,rfl,rfl⟩,rfl⟩)
 |ret=>
  obtain⟨t',rfl⟩:=ha
  obtain⟨l1,hl,hr⟩:=q
  exact .now ⟨_,_,nx',_,h',hr,rfl,rfl,⟨rfl,rfl,l1,hl,rfl,rfl⟩,rfl⟩
 |exit id=>exact q.elim
 |pan a=>
  cases ha
  exact .now ⟨.pan a,h',nx',_,h',q,rfl,rfl,⟨rfl,rfl,rfl⟩,rfl⟩
theorem W.ops{l:List J}(hw:WI C (.ops l) Q tm h nx):W C (.ops l) Q tm h nx:=
 WI.to (y:=.ops l) (fun _ _ _ _ _=>rfl) hw
theorem WI.anW{l:List J}{tm':T AV}{h':T ab}{nx':Key}(hr:pW C.orc l tm h nx=.fin tm' h' nx')(hq:Q .norm tm' h' nx'):WI C (.ops l) Q tm h nx:=by
 intro af k cs h1 h2
 refine .step (m':=⟨{af with tm:=tm',todo:=k},cs,h',nx'⟩) (eE h1 ?_) (.now ⟨.norm,tm',h',nx',_,hq,rfl,rfl⟩)
 simp only[dX,hr]
theorem abr{S:AM→Prop}{f:Nat}{args:List AV}{fr c:xC}{cs:List xC}{R:Out→T ab→Key→Prop}(hc:aO C f (cW (C.raw f) args h).1 (cW (C.raw f) args h).2 nx R)
  (ah4:∀ v,∃ ur,dN v fr=some ur) (KW:fr.mode=.run) {m:AM} (hm:rl C m=pV C (.call f args) fr c cs h nx)
  (aiO:∀ v h' nx' ur,R (.ret v) h' nx'→dN v fr=some ur→Ev C S ⟨ur,cs,h',nx'⟩)
  (aln:∀ a h' nx',R (.pan a) h' nx'→Ev C S ⟨{fr with mode:=.pan a false,todo:=[],tm:=(match fr.todo with|.staged _ d _ ::_=>Tf d.ds fr.tm (fun t=>t)|_=>fr.tm)},cs,h',nx'⟩):Ev C S m:=by
 rcases hc with⟨v,h',nx',hs,hr⟩|⟨hs,p,hp,fe⟩
 ·obtain⟨ur,hf⟩:=ah4 v
  refine .step (m':=⟨ur,cs,h',nx'⟩) ?_ (aiO v h' nx' ur hr hf)
  rw[hm]
  simp only[pV,IQ,hs,hf]
 ·have hen:rl C m=.next ⟨mn f p (cW (C.raw f) args h).1,fr ::cs,(cW (C.raw f) args h).2,nx⟩:=by
   rw[hm]
   simp only[pV,IQ,hs]
   unfold Td
   have V9:(bif Nat.beq (Key.lZ 12 f).toNat f then aa (Key.lZ 12 f) C.fns else none)=some p:=hp
   simp only[V9,Te]
   rfl
  refine .step hen ((fe (fr ::cs)).bind ?_)
  rintro m2 ⟨o,h',nx',fr2,h1,hr,Ui,hdf,⟨hd,hL⟩,rfl⟩
  cases o with
  |ret v=>
   obtain⟨Cr,l,hl,rfl,rfl⟩:=hL
   obtain⟨ur,hf⟩:=ah4 (vU (cW (C.IS f) l h1).1)
   refine .step (m':=⟨ur,cs,(cW (C.IS f) l h1).2,nx'⟩) ?_ (aiO _ _ nx' ur hr hf)
   unfold rl
   simp only[Cr]
   unfold Rp
   simp only[hd,Cr,hl,Ui,IQ]
   unfold XX
   simp only[hdf,cond_false,hf]
  |pan a=>
   obtain⟨Cr,rfl⟩:=hL
   refine .step ?_ (aln a h' nx' hr)
   unfold rl
   simp only[Cr]
   unfold Rp
   simp only[hd,Cr,KW]
   rfl
theorem WI.alo{l:List J}{f:Nat}{args:List AV}{o:J}{rest:List J}{jk:T AV}{h1:T ab}{aY:Key}{R:Out→T ab→Key→Prop}(hr:pW C.orc l tm h nx=.ev (.call f args) (o ::rest) jk h1 aY)
  (hc:aO C f (cW (C.raw f) args h1).1 (cW (C.raw f) args h1).2 aY R)
  (aiO:∀ v h2 aH,R (.ret v) h2 aH→WI C (.ops rest) Q (cx o.dst v jk) h2 aH)
  (aln:∀ a h2 aH,R (.pan a) h2 aH→Q (.pan a) jk h2 aH):WI C (.ops l) Q tm h nx:=by
 intro af k cs m1 m2
 have iZ:rl C ⟨{af with tm:=tm,todo:=.ops l ::k},cs,h,nx⟩=pV C (.call f args) {af with tm:=jk,todo:=.ops (o ::rest) ::k} {af with tm:=jk,todo:=[]} cs h1 aY:=by
  refine eE m1 ?_
  simp only[dX,hr]
 have hfe:∀ v,dN v {af with tm:=jk,todo:=.ops (o ::rest) ::k}=some {af with tm:=cx o.dst v jk,todo:=.ops rest ::k}:=fun v=>by simp only[dN,fj]
 refine abr (fr:={af with tm:=jk,todo:=.ops (o ::rest) ::k}) (c:={af with tm:=jk,todo:=[]}) (cs:=cs) hc (fun v=>⟨_,hfe v⟩) m1 iZ ?_ ?_
 ·intro v h' nx' ur hR hf
  rw[hfe] at hf
  cases hf
  refine(aiO v h' nx' hR {af with tm:=cx o.dst v jk} k cs m1 m2).mono ?_
  rintro m ⟨e2,xD,hh2,aH,fr2,q2,a2,t2⟩
  refine⟨e2,xD,hh2,aH,fr2,q2,?_,t2⟩
  cases e2<;>exact a2
 ·intro a h' nx' hR
  exact .now ⟨.pan a,jk,h',nx',_,aln a h' nx' hR,rfl,rfl⟩
theorem W.staged{l:List bx}{d:SD}(hw:WI C (.staged l d []) Q tm h nx):W C (.staged l d) Q tm h nx:=
 WI.to (y:=.staged l d []) (fun _ _ _ _ _=>rfl) hw
theorem WI.as2{l:List bx}{d:SD}{an:List (Nat×Key×ab)}{tm':T AV}{h':T ab}{nx':Key}(hr:mh C.orc d.mN l an tm h nx=.fin tm' h' nx')(hq:Q .norm tm' h' nx'):WI C (.staged l d an) Q tm h nx:=by
 intro af k cs h1 h2
 refine .step (m':=⟨{af with tm:=tm',todo:=k},cs,h',nx'⟩) (eE h1 ?_) (.now ⟨.norm,tm',h',nx',_,hq,rfl,rfl⟩)
 simp only[dX,hr]
theorem WI.anX{l:List bx}{d:SD}{an abt:List (Nat×Key×ab)}{f:Nat}{args:List AV}{i:Nat}{o:J}{ad:List Nat}{rest:List bx}{jk:T AV}{h1:T ab}{aY:Key}{R:Out→T ab→Key→Prop}
  (hr:mh C.orc d.mN l an tm h nx=.ev (.call f args) (.H i o ad ::rest) abt jk h1 aY)
  (hc:aO C f (cW (C.raw f) args h1).1 (cW (C.raw f) args h1).2 aY R)
  (aiO:∀ v h2 aH,R (.ret v) h2 aH→WI C (.staged rest d abt) Q (cx o.dst v jk) h2 aH)
  (aln:∀ a h2 aH,R (.pan a) h2 aH→Q (.pan a) (tV d.ds jk) h2 aH):WI C (.staged l d an) Q tm h nx:=by
 intro af k cs m1 m2
 have iZ:rl C ⟨{af with tm:=tm,todo:=.staged l d an ::k},cs,h,nx⟩=pV C (.call f args) {af with tm:=jk,todo:=.staged (.H i o ad ::rest) d abt ::k} {af with tm:=tV d.ds jk,todo:=[]} cs h1 aY:=by
  refine eE m1 ?_
  simp only[dX,hr,yA]
 have hfe:∀ v,dN v {af with tm:=jk,todo:=.staged (.H i o ad ::rest) d abt ::k}=some {af with tm:=cx o.dst v jk,todo:=.staged rest d abt ::k}:=fun v=>by simp only[dN,fj]
 refine abr (fr:={af with tm:=jk,todo:=.staged (.H i o ad ::rest) d abt ::k}) (c:={af with tm:=tV d.ds jk,todo:=[]}) (cs:=cs) hc (fun v=>⟨_,hfe v⟩) m1 iZ ?_ ?_
 ·intro v h' nx' ur hR hf
  rw[hfe] at hf
  cases hf
  refine(aiO v h' nx' hR {af with tm:=cx o.dst v jk} k cs m1 m2).mono ?_
  rintro m ⟨e2,xD,hh2,aH,fr2,q2,a2,t2⟩
  refine⟨e2,xD,hh2,aH,fr2,q2,?_,t2⟩
  cases e2<;>exact a2
 ·intro a h' nx' hR
  simp only[yA]
  exact .now ⟨.pan a,tV d.ds jk,h',nx',_,aln a h' nx' hR,rfl,rfl⟩
theorem WI.anY{l:List J}{la:List (AV×T ab)}{o:J}{rest:List J}{jk:T AV}{h1:T ab}{aY:Key}(hr:pW C.orc l tm h nx=.ev (.alt la) (o ::rest) jk h1 aY)
  (hw:∀ v h2,(v,h2)∈la→WI C (.ops rest) Q (cx o.dst v jk) h2 aY):WI C (.ops l) Q tm h nx:=by
 intro af k cs m1 m2
 have hfe:∀ v,dN v {af with tm:=jk,todo:=.ops (o ::rest) ::k}=some {af with tm:=cx o.dst v jk,todo:=.ops rest ::k}:=fun v=>by simp only[dN,fj]
 refine .alt (l:=ae2 {af with tm:=jk,todo:=.ops (o ::rest) ::k} cs aY la) (eE m1 (by simp only[dX,hr,pV,hfe])) ?_
 have key:∀ (q:List (AV×T ab)),(∀ x∈q,x∈la)→∀ m'∈ae2 {af with tm:=jk,todo:=.ops (o ::rest) ::k} cs aY q,Ev C (Stop Q af k cs) m':=by
  intro q
  induction q with
  |nil=>intro _ m' hm;cases hm
  |cons x q ih=>
   obtain⟨v,h2⟩:=x
   intro hq m' hm
   simp only[ae2,hfe] at hm
   rcases xH.1 hm with rfl|hm
   ·refine(hw v h2 (hq (v,h2) (by simp)) {af with tm:=cx o.dst v jk} k cs m1 m2).mono ?_
    rintro m ⟨e2,xD,hh2,aH,fr2,q2,a2,t2⟩
    refine⟨e2,xD,hh2,aH,fr2,q2,?_,t2⟩
    cases e2<;>exact a2
   ·exact ih (fun x hx=>hq x (by simp[hx])) m' hm
 exact key la (fun x hx=>hx)
theorem WI.anZ{l:List J}{a:AV}{rest:List J}{jk:T AV}{h1:T ab}{aY:Key}(hr:pW C.orc l tm h nx=.ev (.pan a) rest jk h1 aY)(hq:Q (.pan a) jk h1 aY):WI C (.ops l) Q tm h nx:=by
 intro af k cs m1 m2
 refine .step (m':=⟨{af with tm:=jk,todo:=[],mode:=.pan a false},cs,h1,aY⟩) (eE m1 ?_) (.now ⟨.pan a,jk,h1,aY,_,hq,rfl,rfl⟩)
 simp only[dX,hr,pV]
end
end Go.Sx
