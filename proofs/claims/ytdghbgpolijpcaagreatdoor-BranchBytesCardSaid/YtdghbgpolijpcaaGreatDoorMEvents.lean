/-
  SX: operations that enter a function, panic, defer, recover. No condition.
-/
import Derived.Test.YtdghbgpolijpcaaGreatDoorMFrz
import Derived.Laws.IdiomRangeMap
import Derived.Orders
set_option linter.unusedSimpArgs false
set_option linter.unusedVariables false
set_option linter.unusedSectionVars false
namespace Go.Sx
open Go.RowKit

section
variable {P : Program} {ρ : Nat → Int} {w0 : W0} {w : World} {μ : Mu} {G : Key → Option Blk} {nx : Key} {orc : Orc} {nt : Nat} {tm : T AV} {H : T Blk} {ev : Operand → Value}

theorem aOp_light_val {op : POp} {r : OR} (h : aOp orc op tm H nx = r) (hl : aOp orc op tm H nx = okV H nx (lightOp orc op tm H)) : (∃ a H' nx', r = .val a H' nx') ∨ ∃ n, r = .bad n := by
  rw [hl] at h
  subst h
  cases lightOp orc op tm H with
  | none => exact .inr ⟨_, rfl⟩
  | some v => exact .inl ⟨_, _, _, rfl⟩

def IsVB (r : OR) : Prop := (∃ a H' nx', r = .val a H' nx') ∨ ∃ n, r = .bad n
def isEv : POp → Bool
  | .callF _ _ | .callV _ _ | .dfr _ _ | .panic _ | .recover | .nextM _ => true
  | _ => false

theorem putC_vb {α : Type} {vs : List α} {off : Nat} {l : List α} {bad : OR} {c : List α → OR} (hb : IsVB bad) (hc : ∀ l, IsVB (c l)) : IsVB (putC vs off l bad c) := by
  rw [putC_eq]; split
  · exact hc _
  · exact hb
theorem takeC_vb {α : Type} {n : Nat} {l : List α} {bad : OR} {c : List α → OR} (hb : IsVB bad) (hc : ∀ l, IsVB (c l)) : IsVB (takeC n l bad c) := by
  rw [takeC_eq]; split
  · exact hc _
  · exact hb
theorem vb_bad (n : Nat) : IsVB (.bad n) := .inr ⟨n, rfl⟩
theorem vb_val (a : AV) (H : T Blk) (nx : Key) : IsVB (.val a H nx) := .inl ⟨_, _, _, rfl⟩
theorem vb_new (f : Key → AV) (B : Blk) : IsVB (newB f B H nx) := by simp only [newB, T.setC_eq]; exact vb_val _ _ _
theorem vb_cond {b : Bool} {x y : OR} (hx : IsVB x) (hy : IsVB y) : IsVB (bif b then x else y) := by cases b <;> assumption

theorem appendTo_val (sz : Nat) (s : AV) (new : List AV) (m : Nat) : IsVB (appendTo sz s new m H nx) := by
  unfold appendTo
  split
  · refine vb_cond (vb_val _ _ _) (vb_cond ?_ (vb_bad _))
    rw [T.setC_eq]; exact vb_val _ _ _
  · refine vb_cond (vb_val _ _ _) (vb_cond ?_ (vb_bad _))
    split
    · exact vb_bad _
    · split
      · rw [appC_eq, T.setC_eq, T.setC_eq]; exact vb_val _ _ _
      · exact vb_bad _
  · refine vb_cond ?_ (vb_bad _)
    split
    · refine vb_cond (putC_vb (vb_bad _) fun _ => by rw [T.setC_eq]; exact vb_val _ _ _) (takeC_vb (vb_bad _) fun _ => ?_)
      rw [frzL_eq (frz_eq 8), appC_eq, T.setC_eq]; exact vb_val _ _ _
    · refine vb_cond (vb_bad _) (takeC_vb (vb_bad _) fun _ => ?_)
      rw [frzL_eq (frz_eq 8), appC_eq, T.setC_eq]; exact vb_val _ _ _
    · refine vb_cond (vb_val _ _ _) (vb_cond ?_ (vb_bad _))
      rw [appC_eq, T.setC_eq, T.setC_eq]; exact vb_val _ _ _
    · exact vb_bad _
  · exact vb_bad _

/- which operations come to an event -/
theorem aOp_vb {op : POp} (he : isEv op = false) : IsVB (aOp orc op tm H nx) := by
  cases op with
  | callF f' ps => cases he
  | callV pv ps => cases he
  | dfr v l => cases he
  | panic x => cases he
  | recover => cases he
  | nextM x => cases he
  | mapupdP p pm pk pv =>
    simp only [aOp]
    split
    · split
      · refine vb_cond ?_ (vb_bad _)
        split
        · rw [T.setC_eq]; exact vb_val _ _ _
        · exact vb_bad _
      · exact vb_bad _
    · exact vb_bad _
  | delP p pm pk =>
    simp only [aOp]
    split
    · split
      · refine vb_cond ?_ (vb_bad _)
        split
        · rw [T.setC_eq]; exact vb_val _ _ _
        · exact vb_bad _
      · exact vb_bad _
    · exact vb_bad _
  | rangeM x =>
    simp only [aOp]
    split
    · split
      · exact vb_new _ _
      · exact vb_bad _
    · exact vb_bad _
  | strb x =>
    simp only [aOp]
    split
    · exact vb_val _ _ _
    · exact vb_bad _
  | store n pa pv =>
    simp only [aOp]
    split
    · refine vb_cond ?_ (vb_bad _)
      split
      · exact vb_bad _
      · exact putC_vb (vb_bad _) fun _ => by rw [T.setC_eq]; exact vb_val _ _ _
      · exact vb_bad _
    · exact vb_bad _
  | mapupd sk pm pk pv =>
    simp only [aOp]
    split
    · split
      · split
        · rw [T.setC_eq]; exact vb_val _ _ _
        · exact vb_bad _
      · exact vb_bad _
    · exact vb_bad _
  | append sz ps px =>
    simp only [aOp]
    split
    · exact appendTo_val _ _ _ _
    · refine vb_cond ?_ (vb_bad _)
      split
      · exact takeC_vb (vb_bad _) fun _ => by rw [frzL_eq (frz_eq 8)]; exact appendTo_val _ _ _ _
      · exact vb_bad _
    · exact vb_cond (appendTo_val _ _ _ _) (vb_bad _)
    · exact vb_cond (appendTo_val _ _ _ _) (vb_bad _)
    · exact vb_bad _
  | new zs => simp only [aOp]; split; exact vb_new _ _; exact vb_bad _
  | box x => simp only [aOp]; split; exact vb_new _ _; exact vb_bad _
  | bslice sz len zs ps => simp only [aOp]; split; exact vb_new _ _; exact vb_bad _
  | mkmap => simp only [aOp]; split; exact vb_new _ _; exact vb_bad _
  | mkslice sz zs l c => simp only [aOp]; split; exact vb_new _ _; exact vb_bad _
  | _ => exact aOp_light_val rfl rfl

theorem next_is {x : PX} {r : OR} (h : aOp orc (.nextM x) tm H nx = r) : (∃ l, r = .alt l) ∨ ∃ n, r = .bad n := by
  simp only [aOp] at h
  split at h
  · split at h
    · split at h
      · rename_i m n seen _ _ L c _
        cases hb : (Nat.beq c n && underL n L) with
        | false => rw [hb] at h; exact .inr ⟨_, h.symm⟩
        | true =>
          rw [hb] at h
          simp only [cond_true] at h
          split at h
          · exact .inl ⟨_, h.symm⟩
          · exact .inl ⟨_, h.symm⟩
      · exact .inr ⟨_, h.symm⟩
    · exact .inr ⟨_, h.symm⟩
  · exact .inr ⟨_, h.symm⟩

theorem isEv_of {op : POp} {r : OR} (h : aOp orc op tm H nx = r) (hr : ¬ IsVB r) : isEv op = true := by
  cases he : isEv op with
  | true => rfl
  | false => exact absurd (h ▸ aOp_vb (orc := orc) (tm := tm) (H := H) (nx := nx) he) hr

theorem fn_of {f : Nat} {first cap : List AV} {v : Value} (h : VRel ρ μ (.fn f first cap) v) : ∃ vs ws, v = .func (.func f) vs ws ∧ VRels ρ μ first vs.toList ∧ VRels ρ μ cap ws.toList := by
  cases h with | fn _ _ _ vs ws h h' => exact ⟨vs, ws, rfl, h, h'⟩

theorem run_callFunc {f : Nat} {fn : Func} (hf : P.funcs[f]? = some fn) (hb : fn.body.isSome = true) (hn : fn.name ≠ "runtime.NumGoroutine") (args : Array Value) : (callFunc f args).run P w = .ok (.enter f args) w := by
  have h1 : fn.body.isNone = false := by cases h : fn.body <;> simp_all
  have h2 : (fn.name == "runtime.NumGoroutine") = false := by simpa using hn
  simp only [callFunc, Sem.run_bind, run_program, Result.andThen_ok, hf, h2, h1, Bool.false_eq_true, if_false, Sem.run_pure]

/- a call -/
theorem call_sound {o : Oper} {op : POp} (hp : pOp P nt o = some op) (hE : ERel P ρ μ nt o.op.operands.toList tm ev) {f : Nat} {l : List AV} (h : aOp orc op tm H nx = .call f l)
    {fn : Func} (hf : P.funcs[f]? = some fn) (hb : fn.body.isSome = true) (hn : fn.name ≠ "runtime.NumGoroutine") :
    ∃ args, (Go.execOp ev o).run P w = .ok (.enter f args) w ∧ VRels ρ μ l args.toList := by
  have he := isEv_of h (by rintro (⟨_, _, _, e⟩ | ⟨_, e⟩) <;> cases e)
  obtain ⟨dst, cop, ty, pos, after, guard⟩ := o
  cases op <;> first | (cases he; done) | skip
  · rcases next_is h with ⟨_, e⟩ | ⟨_, e⟩ <;> cases e
  · rename_i f' ps
    obtain ⟨c, fn', e0, hc, hargs, _⟩ := pOp_shape hp
    obtain ⟨callee, args, argTypes⟩ := c
    simp only at e0 hc hargs
    subst e0 hc
    simp only [aOp] at h
    split at h
    · rename_i l' hl'
      simp only [OR.call.injEq] at h
      obtain ⟨rfl, rfl⟩ := h
      have hv : VRel ρ μ (.fn f' [] []) (ev (.func f')) := hE (.func f') (by simp [Op.operands, Call.operands]) _ _ rfl rfl
      obtain ⟨vs, ws, e1, h1, h2⟩ := fn_of hv
      have hvs : vs = #[] := by apply Array.ext'; generalize vs.toList = x at h1; cases h1; rfl
      have hws : ws = #[] := by apply Array.ext'; generalize ws.toList = x at h2; cases h2; rfl
      subst hvs hws
      refine ⟨args.map ev, ?_, ?_⟩
      · simp [Go.execOp, resolve, e1, Deferred.ofValue, invoke, run_callFunc hf hb hn]
      · have := atAll_sound (ev := ev) hargs hl' (hE.sub fun y hy => by simp [Op.operands, Call.operands] at hy ⊢; exact .inr hy)
        simpa using this
    · cases h
  · rename_i pv ps
    obtain ⟨c, x, e0, hc, hx, hargs⟩ := pOp_shape hp
    obtain ⟨callee, args, argTypes⟩ := c
    simp only at e0 hc hargs
    subst e0 hc
    simp only [aOp] at h
    split at h
    · rename_i f' first cap l' hv' hl'
      simp only [OR.call.injEq] at h
      obtain ⟨rfl, rfl⟩ := h
      have hv := hE x (by simp [Op.operands, Call.operands]) pv _ hx hv'
      obtain ⟨vs, ws, e1, h1, h2⟩ := fn_of hv
      refine ⟨vs ++ args.map ev ++ ws, ?_, ?_⟩
      · simp [Go.execOp, resolve, e1, Deferred.ofValue, invoke, run_callFunc hf hb hn]
      · have := atAll_sound (ev := ev) hargs hl' (hE.sub fun y hy => by simp [Op.operands, Call.operands] at hy ⊢; exact .inr hy)
        have h3 : VRels ρ μ l' (args.map ev).toList := by simpa using this
        simpa using (h1.append h3).append h2
    · cases h
    · cases h
  · rename_i v l'; simp only [aOp] at h; split at h <;> cases h
  · rename_i x; simp only [aOp] at h; split at h <;> cases h
  · cases h

/- a call of a loop's body -/
theorem yld_sound {o : Oper} {op : POp} (hp : pOp P nt o = some op) (hE : ERel P ρ μ nt o.op.operands.toList tm ev) {k : Key} {l : List AV} (h : aOp orc op tm H nx = .yld k l) :
    ∃ args lc, μ k = some lc ∧ (Go.execOp ev o).run P w = (Instr.yield lc.c args).run P w ∧ VRels ρ μ l args.toList := by
  have he := isEv_of h (by rintro (⟨_, _, _, e⟩ | ⟨_, e⟩) <;> cases e)
  obtain ⟨dst, cop, ty, pos, after, guard⟩ := o
  cases op <;> first | (cases he; done) | skip
  · rcases next_is h with ⟨_, e⟩ | ⟨_, e⟩ <;> cases e
  · simp only [aOp] at h; split at h <;> cases h
  · rename_i pv ps
    obtain ⟨c, x, e0, hc, hx, hargs⟩ := pOp_shape hp
    obtain ⟨callee, args, argTypes⟩ := c
    simp only at e0 hc hargs
    subst e0 hc
    simp only [aOp] at h
    split at h
    · cases h
    · rename_i k' l' hv' hl'
      simp only [OR.yld.injEq] at h
      obtain ⟨rfl, rfl⟩ := h
      have hv := hE x (by simp [Op.operands, Call.operands]) pv _ hx hv'
      generalize hxx : ev x = xx at hv
      cases hv with | yld _ lc r hm hr =>
      subst hr
      refine ⟨args.map ev, lc, hm, ?_, ?_⟩
      · simp [Go.execOp, resolve, hxx, Deferred.ofValue, invoke]
      · have := atAll_sound (ev := ev) hargs hl' (hE.sub fun y hy => by simp [Op.operands, Call.operands] at hy ⊢; exact .inr hy)
        simpa using this
    · cases h
  · simp only [aOp] at h; split at h <;> cases h
  · simp only [aOp] at h; split at h <;> cases h
  · cases h

/- a panic -/
theorem pan_sound {o : Oper} {op : POp} (hp : pOp P nt o = some op) (hE : ERel P ρ μ nt o.op.operands.toList tm ev) {a : AV} (h : aOp orc op tm H nx = .pan a) :
    ∃ v, (Go.execOp ev o).run P w = .halt (.panic v) w ∧ VRel ρ μ a v := by
  have he := isEv_of h (by rintro (⟨_, _, _, e⟩ | ⟨_, e⟩) <;> cases e)
  obtain ⟨dst, cop, ty, pos, after, guard⟩ := o
  cases op <;> first | (cases he; done) | skip
  · rcases next_is h with ⟨_, e⟩ | ⟨_, e⟩ <;> cases e
  · simp only [aOp] at h; split at h <;> cases h
  · simp only [aOp] at h; split at h <;> cases h
  · simp only [aOp] at h; split at h <;> cases h
  · rename_i px
    obtain ⟨x, e0, hx⟩ := pOp_shape hp
    simp only at e0
    subst e0
    simp only [aOp] at h
    split at h
    · rename_i t u hu
      simp only [OR.pan.injEq] at h; subst h
      have hv := hE x (by simp [Op.operands]) px _ hx hu
      refine ⟨ev x, ?_, hv⟩
      generalize hxx : ev x = xx at hv
      cases hv
      simp [Go.execOp, hxx, Instr.panic]
    · cases h
  · cases h

/- a deferred call -/
theorem dfr_sound {o : Oper} {op : POp} (hp : pOp P nt o = some op) (hE : ERel P ρ μ nt o.op.operands.toList tm ev) {f : Nat} {l : List AV} (h : aOp orc op tm H nx = .dfr f l) :
    ∃ c ws vs, o.op = .defer c ∧ (resolve ev c o.type).run P w = .ok ⟨.fn (.func f) ws, vs⟩ w ∧ (Go.execOp ev o).run P w = .ok (.defer ⟨.fn (.func f) ws, vs⟩) w ∧ VRels ρ μ l (vs ++ ws).toList := by
  have he := isEv_of h (by rintro (⟨_, _, _, e⟩ | ⟨_, e⟩) <;> cases e)
  obtain ⟨dst, cop, ty, pos, after, guard⟩ := o
  cases op <;> first | (cases he; done) | skip
  · rcases next_is h with ⟨_, e⟩ | ⟨_, e⟩ <;> cases e
  · simp only [aOp] at h; split at h <;> cases h
  · simp only [aOp] at h; split at h <;> cases h
  · rename_i pv ps
    obtain ⟨c, x, e0, hc, hx, hargs⟩ := pOp_shape hp
    obtain ⟨callee, args, argTypes⟩ := c
    simp only at e0 hc hargs
    subst e0 hc
    simp only [aOp] at h
    split at h
    · rename_i f' first cap l' hv' hl'
      simp only [OR.dfr.injEq] at h
      obtain ⟨rfl, rfl⟩ := h
      have hv := hE x (by simp [Op.operands, Call.operands]) pv _ hx hv'
      obtain ⟨vs, ws, e1, h1, h2⟩ := fn_of hv
      refine ⟨_, ws, vs ++ args.map ev, rfl, ?_, ?_, ?_⟩
      · simp [resolve, e1, Deferred.ofValue]
      · simp [Go.execOp, resolve, e1, Deferred.ofValue]
      · have := atAll_sound (ev := ev) hargs hl' (hE.sub fun y hy => by simp [Op.operands, Call.operands] at hy ⊢; exact .inr hy)
        have h3 : VRels ρ μ l' (args.map ev).toList := by simpa using this
        simpa using (h1.append h3).append h2
    · cases h
  · simp only [aOp] at h; split at h <;> cases h
  · cases h

theorem recover_sound {o : Oper} {op : POp} (hp : pOp P nt o = some op) (h : aOp orc op tm H nx = .recover) : (Go.execOp ev o).run P w = .ok .recover w := by
  have he := isEv_of h (by rintro (⟨_, _, _, e⟩ | ⟨_, e⟩) <;> cases e)
  obtain ⟨dst, cop, ty, pos, after, guard⟩ := o
  cases op <;> first | (cases he; done) | skip
  · rcases next_is h with ⟨_, e⟩ | ⟨_, e⟩ <;> cases e
  · simp only [aOp] at h; split at h <;> cases h
  · simp only [aOp] at h; split at h <;> cases h
  · simp only [aOp] at h; split at h <;> cases h
  · simp only [aOp] at h; split at h <;> cases h
  · obtain ⟨c, e0, hc, hargs⟩ := pOp_shape hp
    obtain ⟨callee, args, argTypes⟩ := c
    simp only at e0 hc hargs
    subst e0 hc hargs
    simp [Go.execOp, resolve, invoke, Go.builtin]
end
end Go.Sx
/-
  SX: the next entry of a range over a map. No condition.
-/
namespace Go.Sx
open Go.RowKit

section
variable {P : Program} {ρ : Nat → Int} {w0 : W0} {w : World} {μ : Mu} {G : Key → Option Blk} {nx : Key} {orc : Orc} {nt : Nat} {tm : T AV} {H : T Blk} {ev : Operand → Value}

theorem memS_eq (i : Nat) : ∀ (l : List Nat), memS i l = l.contains i
  | [] => rfl
  | j :: l => by
    simp only [memS, beqN_eq, memS_eq i l, List.contains_cons]
    by_cases h : i = j
    · subst h; simp
    · have : (i == j) = false := by simpa using h
      simp [h, this]
theorem left_rel {seen : List Nat} : ∀ {L : List (Nat × AV × AV)} {es : List MapEntry}, PairsS ρ μ L es → PairsS ρ μ (leftL seen L) (es.filter fun e => !seen.contains e.born)
  | [], [], _ => trivial
  | (s, k, a) :: l, e :: es, h => by
    obtain ⟨h0, h1, h2, h3⟩ := h
    subst h0
    simp only [leftL, memS_eq, List.filter_cons]
    cases hc : seen.contains e.born with
    | true => simp only [cond_true, Bool.not_true, Bool.false_eq_true, if_false]; exact left_rel h3
    | false => simp only [cond_false, Bool.not_false, if_true]; exact ⟨rfl, h1, h2, left_rel h3⟩
  | [], _ :: _, h => h.elim
  | (_, _, _) :: _, [], h => h.elim
theorem under_born {n : Nat} : ∀ {L : List (Nat × AV × AV)} {es : List MapEntry}, PairsS ρ μ L es → underL n L = true → ∀ e ∈ es, e.born < n
  | [], [], _, _, e, he => by cases he
  | (s, k, a) :: l, e :: es, h, hu, x, hx => by
    obtain ⟨h0, h1, h2, h3⟩ := h
    simp only [underL, Bool.and_eq_true, bltN_eq, decide_eq_true_eq] at hu
    rcases List.mem_cons.1 hx with rfl | hx
    · omega
    · exact under_born h3 hu.2 x hx
  | [], _ :: _, h, _, _, _ => h.elim
  | (_, _, _) :: _, [], h, _, _, _ => h.elim
theorem PairsS.get : ∀ {L : List (Nat × AV × AV)} {es : List MapEntry} {t : Nat} {e : MapEntry}, PairsS ρ μ L es → es[t]? = some e → ∃ s k a, (s, k, a) ∈ L ∧ e.born = s ∧ VRel ρ μ k e.key ∧ VRel ρ μ a e.val
  | [], [], t, e, _, h => by simp at h
  | (s, k, a) :: l, x :: es, t, e, hp, h => by
    obtain ⟨h0, h1, h2, h3⟩ := hp
    cases t with
    | zero => simp at h; subst h; exact ⟨s, k, a, by simp, h0, h1, h2⟩
    | succ t =>
      obtain ⟨s', k', a', q, r⟩ := PairsS.get h3 (t := t) (by simpa using h)
      exact ⟨s', k', a', by simp [q], r⟩
  | [], _ :: _, _, _, h, _ => h.elim
  | (_, _, _) :: _, [], _, _, h, _ => h.elim
theorem altsL_mem {b m : Key} {n : Nat} {seen : List Nat} {s : Nat} {k v : AV} : ∀ {L : List (Nat × AV × AV)}, (s, k, v) ∈ L → (AV.tuple [.bool true, k, v], T.set b (some (.iter m n (seen ++ [s]))) H) ∈ altsL b m n seen H L
  | [], h => by cases h
  | (s', k', v') :: l, h => by
    simp only [altsL, T.setC_eq]
    rcases List.mem_cons.1 h with e | h
    · cases e; simp
    · exact List.mem_cons_of_mem _ (altsL_mem h)

theorem run_next_at (ty : TypeId) {r bm n : Nat} {seen : Array Nat} {es : Array MapEntry} (hi : w.heap[r]? = some (.mapIter (some bm) n seen n)) (hb : w.heap[bm]? = some (.map es n)) (hold : ∀ x ∈ es.toList, x.born < n) :
    ((leftOf es seen).size = 0 ∧ (Instr.next (.pointer (some ⟨r, 0, none⟩)) false ty).run P w = .ok (.tuple #[.bool false]) w) ∨
    ∃ e ∈ (leftOf es seen).toList, ∃ d : Nat, w.drawn ≤ d ∧ (Instr.next (.pointer (some ⟨r, 0, none⟩)) false ty).run P w = .ok (.tuple #[.bool true, e.key, e.val]) { w with drawn := d, heap := w.heap.setIfInBounds r (.mapIter (some bm) n (seen.push e.born) n) } := by
  simp only [Instr.next, getObj, Sem.run_bind, Sem.run, hi, hb, Result.andThen, next_test_false seen es n n hold (Nat.le_refl _), Bool.false_eq_true, if_false]
  unfold leftOf
  have hmem : ∀ x ∈ (Array.filter (fun e => !seen.contains e.born) es).toList, x.born < n := fun x hx => hold x (by simp at hx ⊢; exact hx.1)
  generalize Array.filter (fun e => !seen.contains e.born) es = L at hmem ⊢
  have e1 : L.filter (fun x => decide (x.born < n)) = L := Array.filter_eq_self.2 (fun x hx => by simpa using hmem x (by simpa using hx))
  have e2 : L.filter (fun x => decide (x.born ≥ n)) = #[] := by
    rw [Array.filter_eq_empty_iff]
    intro x hx
    have := hmem x (by simpa using hx)
    simp
    omega
  simp only [e1, e2, Array.append_empty]
  by_cases h0 : L.size = 0
  · left
    have : L = #[] := Array.eq_empty_of_size_eq_zero h0
    subst this
    refine ⟨rfl, ?_⟩
    simp [choose, Sem.run, Question.forced]
  · right
    have hne : L.isEmpty = false := by simp [Array.isEmpty, h0]
    simp only [hne, Bool.false_eq_true, if_false, Array.empty_append, Array.size_map]
    have hch : ∃ (j d : Nat), j < L.size ∧ w.drawn ≤ d ∧ (choose (Question.mapNext L.size)).run P w = .ok j { w with drawn := d } := by
      by_cases hf : L.size ≤ 1
      · exact ⟨0, w.drawn, by omega, Nat.le_refl _, by simp [choose, Sem.run, Question.forced, hf]⟩
      · exact ⟨_, w.drawn + 1, Nat.mod_lt _ (by omega), Nat.le_succ _, by
          simp only [choose, Sem.run, Question.forced, decide_eq_true_eq, hf, if_false, Question.cut]
          rfl⟩
    obtain ⟨j, d, hj, hd, hrun⟩ := hch
    refine ⟨L[j], by simp, d, hd, ?_⟩
    simp only [hrun, Result.andThen]
    have hget : (L.map some)[j]? = some (some L[j]) := by simp [hj]
    simp only [hget]
    simp [setObj, Sem.run, hi, Result.andThen]

theorem alt_sound (hM : MRel P ρ w0 μ G nx.toNat w) (hH : HSub H G) {o : Oper} {op : POp} (hp : pOp P nt o = some op) (hE : ERel P ρ μ nt o.op.operands.toList tm ev) {alts : List (AV × T Blk)} (h : aOp orc op tm H nx = .alt alts) :
    ∃ a H' v w' μ' G', (a, H') ∈ alts ∧ (Go.execOp ev o).run P w = .ok (.value v) w' ∧ VRel ρ μ' a v ∧ μ.le μ' ∧ MRel P ρ w0 μ' G' nx.toNat w' ∧ HSub H' G' ∧ Kept H H' nx nx μ μ' G G' := by
  have he := isEv_of h (by rintro (⟨_, _, _, e⟩ | ⟨_, e⟩) <;> cases e)
  obtain ⟨dst, cop, ty, pos, after, guard⟩ := o
  cases op <;> first | (cases he; done) | skip
  · rename_i px
    obtain ⟨x, e0, hx⟩ := pOp_shape hp
    simp only at e0
    subst e0
    simp only [aOp] at h
    split at h
    · rename_i b hb
      split at h
      · rename_i m n seen hit
        split at h
        · rename_i L c hst
          cases hbb : (Nat.beq c n && underL n L) with
          | false => rw [hbb] at h; cases h
          | true =>
            rw [hbb] at h
            simp only [cond_true] at h
            simp only [Bool.and_eq_true] at hbb
            obtain ⟨hcn, hun⟩ := hbb
            have hcn := Nat.eq_of_beq_eq_true hcn
            subst hcn
            have hv := hE x (by simp [Op.operands]) px _ hx hb
            generalize hxx : ev x = xx at hv
            cases hv with | ptr _ _ l a hmu ha =>
            subst ha
            have hg := hH _ _ hit
            obtain ⟨l', o', h1, h2, h3⟩ := hM.blk b _ hg
            rw [hmu] at h1; cases h1
            cases h3 with | iter _ _ _ _ lm sa hmm hsa hzero =>
            obtain ⟨B, l2, es, hB, k1, k2, hpairs, hown2, hlo2⟩ := stamped_spec hM hH hst
            rw [hmm] at k1; cases k1
            subst hsa
            have hbase : (⟨l.c, l.base + 0, none⟩ : Addr) = ⟨l.c, l.base, none⟩ := rfl
            have hown : w0.heap.size ≤ l.c := (hM.own b _ l hg hmu).resolve_left (by simp [Blk.ro])
            have hcs : l.c < w.heap.size := hM.bnd b l hmu
            have hex : ∀ v w', (Instr.next (ev x) false ty).run P w = .ok v w' → (Go.execOp ev ⟨dst, .next x false, ty, pos, after, guard⟩).run P w = .ok (.value v) w' := fun v w' hr => run_v hr
            have hleft := left_rel (seen := sa.toList) hpairs
            have hlo : (leftOf es sa).toList = es.toList.filter fun e => !sa.toList.contains e.born := by
              simp [leftOf]
            rw [← hlo] at hleft
            rcases run_next_at (P := P) (w := w) ty h2 k2 (under_born hpairs hun) with ⟨hz, hr⟩ | ⟨e, hmem, d, hd, hr⟩
            · have hnil : leftL sa.toList L = [] := by
                have h0 : (leftOf es sa).toList = [] := by simpa using hz
                rw [h0] at hleft
                cases hl : leftL sa.toList L with
                | nil => rfl
                | cons y r => rw [hl] at hleft; obtain ⟨_, _, _⟩ := y; exact hleft.elim
              rw [hnil] at h
              simp only [OR.alt.injEq] at h
              subst h
              refine ⟨.tuple [.bool false], H, .tuple #[.bool false], w, μ, G, by simp, hex _ _ (by rw [hxx, hzero]; exact hr), .tuple _ _ (.one (.bool _)), μ.le_refl, hM, hH, Kept.refl _ _ _ _⟩
            · obtain ⟨t, ht⟩ := List.getElem?_of_mem hmem
              obtain ⟨s, k, a, q1, q2, q3, q4⟩ := hleft.get ht
              have hal : alts = altsL b m c sa.toList H (leftL sa.toList L) := by
                cases hl : leftL sa.toList L with
                | nil => rw [hl] at q1; cases q1
                | cons y r => rw [hl] at h; simp only [OR.alt.injEq] at h; exact h.symm
              have hMd := hM.drawn d hd
              have hle' : μ.le (μ.put b l) := Mu.le_put (.inr hmu)
              obtain ⟨g1, g2⟩ := hMd.put (w' := { w with drawn := d, heap := w.heap.setIfInBounds l.c (.mapIter (some lm.c) c (sa.push e.born) c) }) b (.iter m c (sa.toList ++ [s])) l (.mapIter (some lm.c) c (sa.push e.born) c) (.inr hmu)
                ⟨rfl, rfl, rfl, by simp, fun j hj _ => by show (w.heap.setIfInBounds l.c _)[j]? = _; rw [Array.getElem?_setIfInBounds_ne (Ne.symm hj)], Nat.le_refl _⟩
                (by show (w.heap.setIfInBounds l.c _)[l.c]? = _; simp [hcs]) (.iter m c _ l lm _ (hle'.l _ _ hmm) (by simp [q2]) hzero) (fun b' B' l' g m' ne => hM.sep b' b B' _ l' l g hg m' hmu ne) hown (Nat.le_refl _) (hM.new b l hmu) (hM.lo0 hg hmu rfl)
              refine ⟨.tuple [.bool true, k, a], T.set b (some (.iter m c (sa.toList ++ [s]))) H, .tuple #[.bool true, e.key, e.val], _, _, _, by rw [hal]; exact altsL_mem q1, hex _ _ (by rw [hxx, hzero]; exact hr), .tuple _ _ (.cons _ _ _ _ (.bool _) (.cons _ _ _ _ (q3.mono hle') (.one (q4.mono hle')))), g1, g2, hH.set b _, keeps_upd hit hmu _ _⟩
        · cases h
      · cases h
    · cases h
  all_goals (simp only [aOp] at h; repeat' (first | (cases h; done) | split at h))
end
end Go.Sx
/-
  SX: the orders that a region may draw. No condition.
-/
namespace Go.Sx
open Go.RowKit

/- a list that lists what is not yet listed, each behind its predecessors -/
def VOrd (ops : Array Oper) : (Nat → Bool) → List Nat → Prop
  | D, [] => ∀ i, i < ops.size → D i = true
  | D, i :: r => i < ops.size ∧ D i = false ∧ (∀ o, ops[i]? = some o → ∀ e ∈ o.after.toList, Region.binds .any e = true → D e.on = true) ∧ VOrd ops (fun j => D j || j == i) r

theorem VOrd.congr {ops : Array Oper} : ∀ {l : List Nat} {D D' : Nat → Bool}, (∀ i, i < ops.size → D i = D' i) → (∀ (i : Nat) (o : Oper), ops[i]? = some o → ∀ e ∈ o.after.toList, Region.binds .any e = true → e.on < ops.size) → VOrd ops D l → VOrd ops D' l
  | [], D, D', h, _, hv => fun i hi => by rw [← h i hi]; exact hv i hi
  | i :: r, D, D', h, he, hv => by
    obtain ⟨h1, h2, h3, h4⟩ := hv
    refine ⟨h1, by rw [← h i h1]; exact h2, fun o ho e hm hb => ?_, VOrd.congr (fun j hj => by rw [h j hj]) he h4⟩
    rw [← h e.on (he i o ho e hm hb)]; exact h3 o ho e hm hb

def EdgesDown (ops : Array Oper) : Prop := ∀ (i : Nat) (o : Oper), ops[i]? = some o → ∀ e ∈ o.after.toList, Region.binds .any e = true → e.on < i

def unl (n : Nat) (listed : Array Bool) : Nat := (List.range n).countP fun i => !listed.getD i true

theorem unl_set {n : Nat} {listed : Array Bool} (hs : listed.size = n) {i : Nat} (hi : i < n) (hf : listed.getD i true = false) : unl n listed = unl n (listed.setIfInBounds i true) + 1 := by
  unfold unl
  have key : ∀ (l : List Nat), l.Nodup → (∀ j ∈ l, j < n) → l.countP (fun j => !listed.getD j true) = l.countP (fun j => !(listed.setIfInBounds i true).getD j true) + (if i ∈ l then 1 else 0) := by
    intro l
    induction l with
    | nil => intro _ _; simp
    | cons x l ih =>
      intro hnd hlt
      have hnd' := List.nodup_cons.1 hnd
      rw [List.countP_cons, List.countP_cons, ih hnd'.2 (fun j hj => hlt j (by simp [hj]))]
      by_cases hx : x = i
      · subst hx
        have h1 : (listed.setIfInBounds x true).getD x true = true := by
          simp [Array.getD, hs, hi]
        simp only [hf, h1, hnd'.1, if_false, List.mem_cons, true_or, if_true]
        simp
      · have h1 : (listed.setIfInBounds i true).getD x true = listed.getD x true := by
          simp only [Array.getD_eq_getD_getElem?]
          rw [Array.getElem?_setIfInBounds_ne (fun e => hx e.symm)]
        have h2 : (i ∈ x :: l) ↔ i ∈ l := by simp [Ne.symm hx]
        simp only [h1, h2]
        omega
  rw [key _ List.nodup_range (fun j hj => by simpa using hj), if_pos (by simpa using hi)]

theorem unl_pos {n : Nat} {listed : Array Bool} (h : 0 < unl n listed) : ∃ i, i < n ∧ listed.getD i true = false ∧ ∀ j, j < i → listed.getD j true = true := by
  unfold unl at h
  rw [List.countP_pos_iff] at h
  obtain ⟨a, ha, hb⟩ := h
  have ha : a < n := by simpa using ha
  have hb : listed.getD a true = false := by simpa using hb
  induction a using Nat.strongRecOn with
  | _ a ih =>
    by_cases hall : ∀ j, j < a → listed.getD j true = true
    · exact ⟨a, ha, hb, hall⟩
    · simp only [Classical.not_forall] at hall
      obtain ⟨j, hj, hjf⟩ := hall
      exact ih j hj (by simpa using Nat.lt_trans hj ha) (by simpa using hjf) (Nat.lt_trans hj ha) (by simpa using hjf)

theorem linearise_go {ops : Array Oper} (hd : EdgesDown ops) : ∀ (fuel t : Nat) (listed : Array Bool) (acc : List Nat), listed.size = ops.size → unl ops.size listed = fuel →
    ∃ r, Region.linearise.go .any ops fuel t listed acc = acc.reverse ++ r ∧ VOrd ops (fun i => listed.getD i true) r
  | 0, t, listed, acc, hs, hu => by
    refine ⟨[], by simp [Region.linearise.go], fun i hi => ?_⟩
    show listed.getD i true = true
    cases h : listed.getD i true with
    | true => rfl
    | false => have := unl_set hs hi h; omega
  | fuel + 1, t, listed, acc, hs, hu => by
    obtain ⟨i0, hi0, hf0, hmin⟩ := unl_pos (n := ops.size) (listed := listed) (by omega)
    simp only [Region.linearise.go]
    generalize hrs : (List.range ops.size).filter (fun i => !listed.getD i true && ((ops[i]?).map (·.after.all fun e => !Region.binds .any e || listed.getD e.on false)).getD false) = rs
    have hmem : ∀ i, i ∈ rs ↔ i < ops.size ∧ listed.getD i true = false ∧ ∀ o, ops[i]? = some o → ∀ e ∈ o.after.toList, Region.binds .any e = true → listed.getD e.on false = true := by
      intro i
      rw [← hrs, List.mem_filter]
      constructor
      · rintro ⟨h1, h2⟩
        have hi : i < ops.size := by simpa using h1
        simp only [Bool.and_eq_true, Bool.not_eq_true'] at h2
        refine ⟨hi, h2.1, fun o ho e he hb => ?_⟩
        have h3 := h2.2
        rw [ho] at h3
        simp only [Option.map_some, Option.getD_some, Array.all_eq_true_iff_forall_mem] at h3
        have := h3 e (by simpa using he)
        simpa [hb] using this
      · rintro ⟨hi, h1, h2⟩
        refine ⟨by simpa using hi, ?_⟩
        simp only [Bool.and_eq_true, Bool.not_eq_true']
        refine ⟨h1, ?_⟩
        have ho : ops[i]? = some ops[i] := by simp [hi]
        rw [ho]
        simp only [Option.map_some, Option.getD_some, Array.all_eq_true_iff_forall_mem]
        intro e he
        cases hb : Region.binds .any e with
        | false => rfl
        | true => simpa using h2 _ ho e (by simpa using he) hb
    have hne : i0 ∈ rs := by
      rw [hmem]
      refine ⟨hi0, hf0, fun o ho e he hb => ?_⟩
      have hlt := hd i0 o ho e he hb
      have h1 := hmin e.on hlt
      have : e.on < listed.size := by omega
      simp only [Array.getD_eq_getD_getElem?, this, getElem?_pos, Option.getD_some] at h1 ⊢
      exact h1
    have hlen : 0 < rs.length := List.length_pos_of_mem hne
    have hlt : t % rs.length < rs.length := Nat.mod_lt _ hlen
    have hget : rs[t % rs.length]? = some rs[t % rs.length] := by simp [hlt]
    rw [hget]
    have hin : rs[t % rs.length] ∈ rs := List.getElem_mem hlt
    generalize rs[t % rs.length] = i at hin
    obtain ⟨hi, hf, hpre⟩ := (hmem i).1 hin
    have hun := unl_set hs hi hf
    obtain ⟨r, hr, hv⟩ := linearise_go hd fuel (t / rs.length) (listed.setIfInBounds i true) (i :: acc) (by simp [hs]) (by omega)
    refine ⟨i :: r, ?_, hi, hf, fun o ho e he hb => ?_, ?_⟩
    · show Region.linearise.go _ _ _ _ _ _ = _
      rw [hr]; simp
    · have h1 := hpre o ho e he hb
      have hlt := hd i o ho e he hb
      have : e.on < listed.size := by omega
      simp only [Array.getD_eq_getD_getElem?, this, getElem?_pos, Option.getD_some] at h1 ⊢
      exact h1
    · refine VOrd.congr ?_ (fun j o ho e he hb => ?_) hv
      · intro j hj
        by_cases hji : j = i
        · subst hji
          have : j < listed.size := by omega
          simp [Array.getD, this]
        · simp only [Array.getD_eq_getD_getElem?]
          rw [Array.getElem?_setIfInBounds_ne (fun e => hji e.symm)]
          simp [hji]
      · have h1 := hd j o ho e he hb
        have : j < ops.size := by
          rcases Nat.lt_or_ge j ops.size with h' | h'
          · exact h'
          · rw [Array.getElem?_eq_none h'] at ho; cases ho
        omega

theorem schedule_valid {ops : Array Oper} (hd : EdgesDown ops) (t : Nat) : VOrd ops (fun _ => false) (Region.schedule true ops t) := by
  have hu : unl ops.size (Array.replicate ops.size false) = ops.size := by
    unfold unl
    rw [List.countP_eq_length.2 (fun a ha => by
      have : a < ops.size := by simpa using ha
      simp [Array.getD, this])]
    simp
  obtain ⟨r, hr, hv⟩ := linearise_go hd ops.size t (Array.replicate ops.size false) [] (by simp) hu
  have : Region.schedule true ops t = r := by simp [Region.schedule, Region.linearise, hr]
  rw [this]
  refine VOrd.congr (fun i hi => by simp [Array.getD, hi]) (fun j o ho e he hb => ?_) hv
  have h1 := hd j o ho e he hb
  have : j < ops.size := by
    rcases Nat.lt_or_ge j ops.size with h' | h'
    · exact h'
    · rw [Array.getElem?_eq_none h'] at ho; cases ho
  omega
end Go.Sx
