/-
  SX: the model's own steps, one by one, for a single goroutine. No condition.
-/
import Derived.Test.YtdghbgpolijpcaaGreatDoorMEvents
import Derived.Recover
set_option linter.unusedSimpArgs false
set_option linter.unusedVariables false
set_option linter.unusedSectionVars false
namespace Go.Sx
open Go.RowKit

section
variable {P : Program} {fr : Frame} {cs : List Frame} {w w' : World} {k : List Item}

def G1 (fr : Frame) (cs : List Frame) : Goroutine := { frame := fr, callers := cs, status := .running, dying := none }

theorem stepG_run (hm : fr.mode = .run) : stepG P true (G1 fr cs) w = stepG.exec P true true fr cs none w := by
  simp [stepG, G1, hm]
theorem stepG_unwind (hm : fr.mode ≠ .run) : stepG P true (G1 fr cs) w = unwind P true fr cs none w := by
  cases h : fr.mode with
  | run => exact absurd h hm
  | returning => simp [stepG, G1, h]
  | panicking c => simp [stepG, G1, h]

theorem go_run {fr' : Frame} {cs' : List Frame} (hm : fr.mode = .run) (h : (stepG.exec P true true fr cs none w).bare = .go (G1 fr' cs') w') : step P (lone fr cs w) = .next (lone fr' cs' w') :=
  step_lone_go (by have := stepG_run (P := P) (cs := cs) (w := w) hm; simp only [G1] at this h; rw [this]; exact h)
theorem go_unwind {fr' : Frame} {cs' : List Frame} (hm : fr.mode ≠ .run) (h : (unwind P true fr cs none w).bare = .go (G1 fr' cs') w') : step P (lone fr cs w) = .next (lone fr' cs' w') :=
  step_lone_go (by have := stepG_unwind (P := P) (cs := cs) (w := w) hm; simp only [G1] at this h; rw [this]; exact h)

theorem st_skip (hm : fr.mode = .run) (ht : fr.todo = .code .skip :: k) : step P (lone fr cs w) = .next (lone { fr with todo := k } cs w) :=
  go_run hm (by simp [stepG.exec, ht, G1])
theorem st_seq {a b : Code} (hm : fr.mode = .run) (ht : fr.todo = .code (.seq a b) :: k) : step P (lone fr cs w) = .next (lone { fr with todo := .code a :: .code b :: k } cs w) :=
  go_run hm (by simp [stepG.exec, ht, G1])
theorem st_cond {c : Operand} {a b : Code} {t : Bool} (hm : fr.mode = .run) (ht : fr.todo = .code (.cond c a b) :: k) (hc : fr.eval c = .bool t) :
    step P (lone fr cs w) = .next (lone { fr with todo := .code (if t then a else b) :: k } cs w) :=
  go_run hm (by simp [stepG.exec, ht, G1, hc])
theorem st_block {id : Nat} {c : Code} (hm : fr.mode = .run) (ht : fr.todo = .code (.block id c) :: k) : step P (lone fr cs w) = .next (lone { fr with todo := .code c :: .inBlock id :: k } cs w) :=
  go_run hm (by simp [stepG.exec, ht, G1])
theorem st_inBlock {id : Nat} (hm : fr.mode = .run) (ht : fr.todo = .inBlock id :: k) : step P (lone fr cs w) = .next (lone { fr with todo := k } cs w) :=
  go_run hm (by simp [stepG.exec, ht, G1])
theorem st_loop {c : Code} (hm : fr.mode = .run) (ht : fr.todo = .code (.loop c) :: k) : step P (lone fr cs w) = .next (lone { fr with todo := .code c :: .inLoop c :: k } cs w) :=
  go_run hm (by simp [stepG.exec, ht, G1])
theorem st_inLoop {c : Code} (hm : fr.mode = .run) (ht : fr.todo = .inLoop c :: k) : step P (lone fr cs w) = .next (lone { fr with todo := .code c :: .inLoop c :: k } cs w) :=
  go_run hm (by simp [stepG.exec, ht, G1])
theorem st_exit {id : Nat} {k' : List Item} (hm : fr.mode = .run) (ht : fr.todo = .code (.exit id) :: k) (he : exitTo id k = some k') : step P (lone fr cs w) = .next (lone { fr with todo := k' } cs w) :=
  go_run hm (by simp [stepG.exec, ht, G1, he])
theorem st_region {id : Nat} {ops : Array Oper} (hm : fr.mode = .run) (ht : fr.todo = .code (.region id ops false) :: k) :
    step P (lone fr cs w) = .next (lone { fr with todo := .inRegion ops (List.range ops.size) :: k } cs w) :=
  go_run hm (by simp [stepG.exec, ht, G1])
theorem st_draw {id : Nat} {ops : Array Oper} (hm : fr.mode = .run) (ht : fr.todo = .code (.region id ops true) :: k) :
    ∃ t, step P (lone fr cs w) = .next (lone { fr with todo := .inRegion ops (Region.schedule (P.follows .mixedOrders) ops t) :: k } cs { w with drawn := w.drawn + 1 }) :=
  ⟨w.tape w.drawn (.order fr.fn id), go_run hm (by simp [stepG.exec, ht, G1, choose, Sem.run, Question.forced, Question.cut])⟩
theorem st_end_region {ops : Array Oper} (hm : fr.mode = .run) (ht : fr.todo = .inRegion ops [] :: k) : step P (lone fr cs w) = .next (lone { fr with todo := k } cs w) :=
  go_run hm (by simp [stepG.exec, ht, G1])
theorem st_end (hm : fr.mode = .run) (ht : fr.todo = []) (hr : fr.roundOf = none) : step P (lone fr cs w) = .next (lone { fr with mode := .returning } cs w) :=
  go_run hm (by simp [stepG.exec, ht, G1, hr])
theorem st_ret (hm : fr.mode = .run) (ht : fr.todo = .code .ret :: k) (hr : fr.roundOf = none) : step P (lone fr cs w) = .next (lone { fr with mode := .returning } cs w) :=
  go_run hm (by simp [stepG.exec, ht, G1, hr])

/- operations -/
variable {ops : Array Oper} {i : Nat} {rest : List Nat} {o : Oper}

theorem st_op_skip (hm : fr.mode = .run) (ht : fr.todo = .inRegion ops (i :: rest) :: k) (ho : ops[i]? = some o) (hw : Region.wanted o (yielded ops fr.tmps) = false) :
    step P (lone fr cs w) = .next (lone (fr.finish undef) cs w) :=
  go_run hm (by simp [stepG.exec, ht, G1, ho, hw])

def isDefer : Op → Bool
  | .defer _ => true
  | _ => false

theorem exec_op (ht : fr.todo = .inRegion ops (i :: rest) :: k) (ho : ops[i]? = some o) (hw : Region.wanted o (yielded ops fr.tmps) = true) (hd : fr.roundOf = none ∨ isDefer o.op = false) :
    stepG.exec P true true fr cs none w = stepG.apply P true fr cs none (Go.execOp fr.eval o) w := by
  simp only [stepG.exec, ht, ho, Option.map_some, Option.getD_some, hw, if_true, stepG.oper, Frame.oper?]
  cases hr : fr.roundOf with
  | none => rfl
  | some l =>
    rw [hr] at hd
    have hd : isDefer o.op = false := hd.resolve_left (by simp)
    cases hop : o.op <;> first | rfl | (rw [hop] at hd; cases hd)

theorem st_val {v : Value} (hm : fr.mode = .run) (ht : fr.todo = .inRegion ops (i :: rest) :: k) (ho : ops[i]? = some o) (hw : Region.wanted o (yielded ops fr.tmps) = true) (hd : fr.roundOf = none ∨ isDefer o.op = false)
    (h : (Go.execOp fr.eval o).run P w = .ok (.value v) w') : step P (lone fr cs w) = .next (lone (fr.finish v) cs w') :=
  go_run hm (by rw [exec_op ht ho hw hd]; simp [stepG.apply, h, G1])
theorem st_unit (hm : fr.mode = .run) (ht : fr.todo = .inRegion ops (i :: rest) :: k) (ho : ops[i]? = some o) (hw : Region.wanted o (yielded ops fr.tmps) = true) (hd : fr.roundOf = none ∨ isDefer o.op = false)
    (h : (Go.execOp fr.eval o).run P w = .ok .skip w') : step P (lone fr cs w) = .next (lone (fr.finish undef) cs w') :=
  go_run hm (by rw [exec_op ht ho hw hd]; simp [stepG.apply, h, G1])
theorem st_enter {f : FuncId} {args : Array Value} (hm : fr.mode = .run) (ht : fr.todo = .inRegion ops (i :: rest) :: k) (ho : ops[i]? = some o) (hw : Region.wanted o (yielded ops fr.tmps) = true) (hd : fr.roundOf = none ∨ isDefer o.op = false)
    (h : (Go.execOp fr.eval o).run P w = .ok (.enter f args) w') : step P (lone fr cs w) = .next (lone (Frame.enter P f args .normal) (fr :: cs) w') :=
  go_run hm (by rw [exec_op ht ho hw hd]; simp [stepG.apply, h, G1, ht])
theorem st_round {l : Nat} {f : FuncId} {tmps : Array Value} {as bd : Code} (hm : fr.mode = .run) (ht : fr.todo = .inRegion ops (i :: rest) :: k) (ho : ops[i]? = some o) (hw : Region.wanted o (yielded ops fr.tmps) = true) (hd : fr.roundOf = none ∨ isDefer o.op = false)
    (h : (Go.execOp fr.eval o).run P w = .ok (.round l f tmps as bd) w') : step P (lone fr cs w) = .next (lone (Frame.round l f tmps as bd .normal) (fr :: cs) w') :=
  go_run hm (by rw [exec_op ht ho hw hd]; simp [stepG.apply, h, G1])
theorem st_panic {v : Value} (hm : fr.mode = .run) (ht : fr.todo = .inRegion ops (i :: rest) :: k) (ho : ops[i]? = some o) (hw : Region.wanted o (yielded ops fr.tmps) = true) (hd : fr.roundOf = none ∨ isDefer o.op = false)
    (h : (Go.execOp fr.eval o).run P w = .halt (.panic v) w') : step P (lone fr cs w) = .next (lone { fr with mode := .panicking [{ v, recovered := false }] } cs w') :=
  go_run hm (by rw [exec_op ht ho hw hd]; simp [stepG.apply, h, G1, Frame.raise, hm])
theorem st_defer {d : Deferred} (hm : fr.mode = .run) (ht : fr.todo = .inRegion ops (i :: rest) :: k) (ho : ops[i]? = some o) (hw : Region.wanted o (yielded ops fr.tmps) = true) (hd : fr.roundOf = none ∨ isDefer o.op = false)
    (h : (Go.execOp fr.eval o).run P w = .ok (.defer d) w') : step P (lone fr cs w) = .next (lone ({ fr with defers := d :: fr.defers }.finish undef) cs w') :=
  go_run hm (by rw [exec_op ht ho hw hd]; simp [stepG.apply, h, G1])
theorem st_recover_some {v : Value} {cs' : List Frame} (hm : fr.mode = .run) (ht : fr.todo = .inRegion ops (i :: rest) :: k) (ho : ops[i]? = some o) (hw : Region.wanted o (yielded ops fr.tmps) = true) (hr : fr.roundOf = none)
    (h : (Go.execOp fr.eval o).run P w = .ok .recover w') (hrec : tryRecover fr cs = some (v, cs')) : step P (lone fr cs w) = .next (lone (fr.finish v) cs' w') :=
  go_run hm (by rw [exec_op ht ho hw (.inl hr)]; simp [stepG.apply, h, G1, hr, hrec])
theorem st_recover_none (hm : fr.mode = .run) (ht : fr.todo = .inRegion ops (i :: rest) :: k) (ho : ops[i]? = some o) (hw : Region.wanted o (yielded ops fr.tmps) = true) (hr : fr.roundOf = none)
    (h : (Go.execOp fr.eval o).run P w = .ok .recover w') (hrec : tryRecover fr cs = none) : step P (lone fr cs w) = .next (lone (fr.finish .nilIface) cs w') :=
  go_run hm (by rw [exec_op ht ho hw (.inl hr)]; simp [stepG.apply, h, G1, hr, hrec])
end
end Go.Sx
/-
  SX: the model's own steps: returns, panics, deferred calls, range over functions. No condition.
-/
namespace Go.Sx
open Go.RowKit

section
variable {P : Program} {fr c : Frame} {cs : List Frame} {w w' : World} {k : List Item} {fn : Func}

theorem st_return {v : Value} (hm : fr.mode = .returning) (hd : fr.defers = []) (hk : fr.kind = .normal) (hf : P.funcs[fr.fn]? = some fn) (hr : (results fn fr.tmps).run P w = .ok v w) :
    step P (lone fr (c :: cs) w) = .next (lone (c.finish v) cs w) :=
  go_unwind (by simp [hm]) (by simp [unwind, hd, hm, hf, hr, doReturn, hk, G1])
theorem st_return_deferred {v : Value} (hm : fr.mode = .returning) (hd : fr.defers = []) (hk : fr.kind = .deferred) (hf : P.funcs[fr.fn]? = some fn) (hr : (results fn fr.tmps).run P w = .ok v w) :
    step P (lone fr (c :: cs) w) = .next (lone { c with mode := settle c.mode } cs w) :=
  step_going_returned (fr := fr) hk ⟨hm, hd, fn, hf, hr⟩
theorem st_panic_up {chain : List PanicEntry} (hm : fr.mode = .panicking chain) (hd : fr.defers = []) (hf : P.funcs[fr.fn]? = some fn) :
    step P (lone fr (c :: cs) w) = .next (lone (c.raise chain) cs w) :=
  go_unwind (by simp [hm]) (by simp [unwind, hd, hm, Frame.catches, hf, G1])
theorem st_deferred {d : Deferred} {ds : List Deferred} {fv : Fn} {cap args : Array Value} {f : FuncId} (hm : fr.mode ≠ .run) (hd : fr.defers = d :: ds) (ht : d.target = .fn fv cap)
    (hi : (invoke d.target d.args).run P w = .ok (.enter f args) w) : step P (lone fr cs w) = .next (lone (Frame.enter P f args .deferred) ({ fr with defers := ds } :: cs) w) :=
  step_defer hm hd ht hi
theorem st_collected {b : Nat} {ds ds' : List Deferred} (hm : fr.mode ≠ .run) (hd : fr.defers = ⟨.collected b, #[]⟩ :: ds) (h : (Instr.takeDeferred b).run P w = .ok ds' w') :
    step P (lone fr cs w) = .next (lone { fr with defers := ds' ++ ds } cs w') :=
  go_unwind hm (by simp [unwind, hd, h, G1])

/- the end of a round -/
theorem st_leave_round {l : Nat} {v : Value} (hm : fr.mode = .run) (ht : fr.todo = []) (hr : fr.roundOf = some l) (hk : fr.kind = .normal) (h : (Instr.endRound l none).run P w = .ok v w') :
    step P (lone fr (c :: cs) w) = .next (lone (c.finish v) cs w') :=
  go_run hm (by simp [stepG.exec, ht, hr, h, doReturn, hk, G1])
theorem st_ret_round {l : Nat} {v : Value} (hm : fr.mode = .run) (ht : fr.todo = .code .ret :: k) (hr : fr.roundOf = some l) (hk : fr.kind = .normal) (h : (Instr.endRound l (some .ret)).run P w = .ok v w') :
    step P (lone fr (c :: cs) w) = .next (lone (c.finish v) cs w') :=
  go_run hm (by simp [stepG.exec, ht, hr, h, doReturn, hk, G1])
theorem st_exit_round {l id : Nat} {v : Value} (hm : fr.mode = .run) (ht : fr.todo = .code (.exit id) :: k) (he : exitTo id k = none) (hr : fr.roundOf = some l) (hk : fr.kind = .normal) (h : (Instr.endRound l (some (.exit id))).run P w = .ok v w') :
    step P (lone fr (c :: cs) w) = .next (lone (c.finish v) cs w') :=
  go_run hm (by simp [stepG.exec, ht, he, hr, h, doReturn, hk, G1])
theorem st_beginRound {l : Nat} (hm : fr.mode = .run) (ht : fr.todo = .beginRound :: k) (hr : fr.roundOf = some l) (h : (Instr.beginRound l).run P w = .ok () w') :
    step P (lone fr cs w) = .next (lone { fr with todo := k } cs w') :=
  go_run hm (by simp [stepG.exec, ht, hr, stepG.apply, h, G1, Frame.finish])
theorem st_endRF {l : Nat} {j : Option Code} (hm : fr.mode = .run) (ht : fr.todo = .endRangeFunc l :: k) (h : (Instr.endLoop l).run P w = .ok j w') :
    step P (lone fr cs w) = .next (lone { fr with todo := (j.map Item.code).toList ++ k } cs w') :=
  go_run hm (by simp [stepG.exec, ht, h, G1])
theorem run_res (ev : Operand → Value) {f : Operand} {g : FuncId} {first cap : Array Value} (hev : ev f = .func (.func g) first cap) {y : Value} (hy : ev (.const y) = y) {fn' : Func} (hf : P.funcs[g]? = some fn') (hb : fn'.body.isSome = true) (hn : fn'.name ≠ "runtime.NumGoroutine") :
    (do let d ← resolve ev { callee := .value f, args := #[.const y], argTypes := #[] } 0; invoke d.target d.args : Sem Next).run P w = .ok (.enter g (first ++ #[y] ++ cap)) w := by
  simp [resolve, hev, Deferred.ofValue, invoke, hy, run_callFunc hf hb hn]
theorem st_rangeFunc {f : Operand} {params : Array Tmp} {as bd : Code} {l : Nat} {mk : List Deferred} {w1 : World} {g : FuncId} {first cap : Array Value} {fn' : Func} (hm : fr.mode = .run) (ht : fr.todo = .code (.rangeFunc f params as bd) :: k) (hr : fr.roundOf = none)
    (h : (Instr.enterLoop fr.fn fr.tmps params as bd none).run P w = .ok (l, mk) w1) (hev : fr.eval f = .func (.func g) first cap)
    (hf : P.funcs[g]? = some fn') (hb : fn'.body.isSome = true) (hn : fn'.name ≠ "runtime.NumGoroutine") :
    step P (lone fr cs w) = .next (lone (Frame.enter P g (first ++ #[.func (.yield l) #[] #[]] ++ cap) .normal) ({ fr with todo := .inRangeFunc l :: k, defers := mk ++ fr.defers } :: cs) w1) := by
  obtain ⟨fn0, tmps0, todo0, defers0, mode0, kind0, round0⟩ := fr
  simp only at hm ht hr h hev
  subst hm ht hr
  refine go_run rfl ?_
  have hev' : ({ fn := fn0, tmps := tmps0, todo := Item.inRangeFunc l :: k, defers := mk ++ defers0, mode := .run, kind := kind0 } : Frame).eval f = .func (.func g) first cap := by
    rw [← hev]; cases f <;> rfl
  have hres := run_res (w := w1) ({ fn := fn0, tmps := tmps0, todo := Item.inRangeFunc l :: k, defers := mk ++ defers0, mode := .run, kind := kind0 } : Frame).eval hev' (y := .func (.yield l) #[] #[]) rfl hf hb hn
  simp only [stepG.exec, Sem.runT_eq, h, GStep.bare_after]
  simp only [stepG.apply, Sem.runT_eq, hres, GStep.bare_after]
  simp [G1]
end
end Go.Sx
