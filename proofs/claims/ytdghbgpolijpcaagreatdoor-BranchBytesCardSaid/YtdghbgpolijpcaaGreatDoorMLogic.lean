/-
  SX: a logic for the machine's code. No condition.
-/
import Derived.Test.YtdghbgpolijpcaaGreatDoorMSim
set_option linter.unusedSimpArgs false
set_option linter.unusedVariables false
set_option linter.unusedSectionVars false
namespace Go.Sx
open Go.RowKit

inductive Ex where
  | norm
  | ret
  | exit (id : Nat)
  | pan (a : AV)

def Aft (af : AFr) (k : List AItem) : Ex → T AV → AFr → Prop
  | .norm, tm, fr => fr = { af with tm := tm, todo := k }
  | .ret, tm, fr => ∃ t, fr = { af with tm := tm, todo := t, mode := .ret }
  | .exit id, tm, fr => ∃ k2, exitToA id k2 = exitToA id k ∧ fr = { af with tm := tm, todo := .code (.exit id) :: k2 }
  | .pan a, tm, fr => fr = { af with tm := tm, todo := [], mode := .pan a false }

abbrev Post := Ex → T AV → T Blk → Key → Prop

/- where an item may leave its frame -/
def Stop (Q : Post) (af : AFr) (k : List AItem) (cs : List AFr) (m : AM) : Prop := ∃ e tm' h' nx' fr, Q e tm' h' nx' ∧ Aft af k e tm' fr ∧ m = ⟨fr, cs, h', nx'⟩
/- an item, put in front of whatever a frame has to do, comes to an exit that Q allows -/
def WI (C : Cfg) (x : AItem) (Q : Post) (tm : T AV) (h : T Blk) (nx : Key) : Prop :=
  ∀ (af : AFr) (k : List AItem) (cs : List AFr), af.mode = .run → af.rnd = none → Ev C (Stop Q af k cs) ⟨{ af with tm := tm, todo := x :: k }, cs, h, nx⟩
abbrev W (C : Cfg) (c : PCode) : Post → T AV → T Blk → Key → Prop := WI C (.code c)

section
variable {C : Cfg} {Q Q' : Post} {tm : T AV} {h : T Blk} {nx : Key}

theorem WI.mono {x : AItem} (hw : WI C x Q tm h nx) (hq : ∀ e tm h nx, Q e tm h nx → Q' e tm h nx) : WI C x Q' tm h nx := by
  intro af k cs h1 h2
  refine (hw af k cs h1 h2).mono ?_
  rintro m ⟨e, tm', h', nx', fr, q, a, t⟩
  exact ⟨e, tm', h', nx', fr, hq _ _ _ _ q, a, t⟩

theorem step_run {m : AM} {r : SR} (hm : m.fr.mode = .run) (hr : stepRun C m.fr m.cs m.h m.nx = r) : stepA C m = r := by
  unfold stepA; simp only [hm]; exact hr

/- a frame whose first item is no exit has not stopped -/
theorem Stop.not {y : AItem} {af : AFr} {k : List AItem} {cs cs2 : List AFr} (hy : ∀ id, y ≠ .code (.exit id)) (h1 : af.mode = .run) : ¬ Stop Q af k cs ⟨{ af with tm := tm, todo := y :: k }, cs2, h, nx⟩ := by
  rintro ⟨e, tm', h', nx', fr, q, a, t⟩
  simp only [AM.mk.injEq] at t
  obtain ⟨e0, _⟩ := t
  cases e with
  | norm => cases a; simp at e0
  | ret => obtain ⟨_, rfl⟩ := a; simp [h1] at e0
  | exit id => obtain ⟨_, _, rfl⟩ := a; simp at e0; exact hy id e0.2.1
  | pan a' => cases a; simp at e0

/- one step to another item -/
theorem WI.to {x y : AItem} (hs : ∀ (af : AFr) (k : List AItem) (cs : List AFr), af.mode = .run → af.rnd = none → stepRun C { af with tm := tm, todo := x :: k } cs h nx = .next ⟨{ af with tm := tm, todo := y :: k }, cs, h, nx⟩) (hw : WI C y Q tm h nx) : WI C x Q tm h nx := by
  intro af k cs h1 h2
  exact .step (step_run h1 (hs af k cs h1 h2)) (hw af k cs h1 h2)

theorem W.skip (hq : Q .norm tm h nx) : W C .skip Q tm h nx := by
  intro af k cs h1 h2
  exact .step (step_run h1 rfl) (.now ⟨.norm, tm, h, nx, _, hq, rfl, rfl⟩)
theorem W.ret (hq : Q .ret tm h nx) : W C .ret Q tm h nx := by
  intro af k cs h1 h2
  refine .step (m' := ⟨{ af with tm := tm, todo := .code .ret :: k, mode := .ret }, cs, h, nx⟩) (step_run h1 ?_) (.now ⟨.ret, tm, h, nx, _, hq, ⟨.code .ret :: k, rfl⟩, rfl⟩)
  show leaveA (some .ret) _ cs h nx = _
  unfold leaveA
  simp only [h2]
theorem W.exit {id : Nat} (hq : Q (.exit id) tm h nx) : W C (.exit id) Q tm h nx := by
  intro af k cs h1 h2
  exact .now ⟨.exit id, tm, h, nx, _, hq, ⟨k, rfl, rfl⟩, rfl⟩

theorem W.seq {a b : PCode} (hw : W C a (fun e tm h nx => match e with | .norm => W C b Q tm h nx | e => Q e tm h nx) tm h nx) : W C (.seq a b) Q tm h nx := by
  intro af k cs h1 h2
  refine .step (m' := ⟨{ af with tm := tm, todo := .code a :: .code b :: k }, cs, h, nx⟩) (step_run h1 rfl) ((hw af (.code b :: k) cs h1 h2).bind ?_)
  rintro m ⟨e, tm', h', nx', fr, q, ha, rfl⟩
  cases e with
  | norm =>
    cases ha
    refine (q { af with tm := tm' } k cs h1 h2).mono ?_
    rintro m ⟨e2, tm2, hh2, nx2, fr2, q2, a2, t2⟩
    refine ⟨e2, tm2, hh2, nx2, fr2, q2, ?_, t2⟩
    cases e2 <;> exact a2
  | ret => exact .now ⟨.ret, tm', h', nx', fr, q, ha, rfl⟩
  | exit id =>
    obtain ⟨k2, e1, e2⟩ := ha
    exact .now ⟨.exit id, tm', h', nx', fr, q, ⟨k2, e1, e2⟩, rfl⟩
  | pan a => exact .now ⟨.pan a, tm', h', nx', fr, q, ha, rfl⟩

theorem W.cond {x : PX} {a b : PCode} {t : Bool} (hx : x.at tm = some (.bool t)) (hw : W C (if t then a else b) Q tm h nx) : W C (.cond x a b) Q tm h nx := by
  refine WI.to (y := .code (if t then a else b)) ?_ hw
  intro af k cs h1 h2
  simp only [stepRun, hx]
  cases t <;> rfl

theorem W.block {id : Nat} {c : PCode} (hw : W C c (fun e tm h nx => match e with | .exit j => if j = id then Q .norm tm h nx else Q (.exit j) tm h nx | e => Q e tm h nx) tm h nx) : W C (.block id c) Q tm h nx := by
  intro af k cs h1 h2
  refine .step (m' := ⟨{ af with tm := tm, todo := .code c :: .inBlock id :: k }, cs, h, nx⟩) (step_run h1 rfl) ((hw af (.inBlock id :: k) cs h1 h2).bind ?_)
  rintro m ⟨e, tm', h', nx', fr, q, ha, rfl⟩
  cases e with
  | norm =>
    cases ha
    exact .step (step_run h1 rfl) (.now ⟨.norm, tm', h', nx', _, q, rfl, rfl⟩)
  | ret => exact .now ⟨.ret, tm', h', nx', fr, q, ha, rfl⟩
  | exit j =>
    obtain ⟨k2, e1, rfl⟩ := ha
    by_cases hj : j = id
    · subst hj
      simp only [if_true] at q
      refine .step (m' := ⟨{ af with tm := tm', todo := k }, cs, h', nx'⟩) (step_run h1 ?_) (.now ⟨.norm, tm', h', nx', _, q, rfl, rfl⟩)
      simp only [stepRun, e1, exitToA, beqN_eq, decide_true, cond_true]
    · simp only [if_neg hj] at q
      refine .now ⟨.exit j, tm', h', nx', _, q, ⟨k2, ?_, rfl⟩, rfl⟩
      rw [e1]
      simp only [exitToA, beqN_eq, show ¬ id = j from fun e => hj e.symm, decide_false, cond_false]
  | pan a => exact .now ⟨.pan a, tm', h', nx', fr, q, ha, rfl⟩

/- a loop with what holds at its head, and a measure -/
theorem W.loop {c : PCode} (Inv : Nat → T AV → T Blk → Key → Prop)
    (hw : ∀ n tm h nx, Inv n tm h nx → W C c (fun e tm h nx => match e with | .norm => ∃ m, m < n ∧ Inv m tm h nx | e => Q e tm h nx) tm h nx) {n : Nat} (hi : Inv n tm h nx) : W C (.loop c) Q tm h nx := by
  have key : ∀ (n : Nat) (tm : T AV) (h : T Blk) (nx : Key), Inv n tm h nx → WI C (.inLoop c) Q tm h nx := by
    intro n
    induction n using Nat.strongRecOn with
    | _ n ih =>
      intro tm h nx hi af k cs h1 h2
      refine .step (m' := ⟨{ af with tm := tm, todo := .code c :: .inLoop c :: k }, cs, h, nx⟩) (step_run h1 rfl) ((hw n tm h nx hi af (.inLoop c :: k) cs h1 h2).bind ?_)
      rintro m ⟨e, tm', h', nx', fr, q, ha, rfl⟩
      cases e with
      | norm =>
        cases ha
        obtain ⟨m, hm, him⟩ := q
        refine (ih m hm tm' h' nx' him { af with tm := tm' } k cs h1 h2).mono ?_
        rintro m ⟨e2, tm2, hh2, nx2, fr2, q2, a2, t2⟩
        refine ⟨e2, tm2, hh2, nx2, fr2, q2, ?_, t2⟩
        cases e2 <;> exact a2
      | ret => exact .now ⟨.ret, tm', h', nx', fr, q, ha, rfl⟩
      | exit id =>
        obtain ⟨k2, e1, e2⟩ := ha
        exact .now ⟨.exit id, tm', h', nx', fr, q, ⟨k2, e1, e2⟩, rfl⟩
      | pan a => exact .now ⟨.pan a, tm', h', nx', fr, q, ha, rfl⟩
  intro af k cs h1 h2
  -- the loop's code and its item go the same way
  exact Ev.same (by rw [step_run (m := ⟨{ af with tm := tm, todo := .inLoop c :: k }, cs, h, nx⟩) h1 rfl, step_run (m := ⟨{ af with tm := tm, todo := .code (.loop c) :: k }, cs, h, nx⟩) h1 rfl]; rfl)
    (Stop.not (fun id e => by cases e) h1) (key n tm h nx hi af k cs h1 h2)

/- ---------- calls ---------- -/
inductive Out where
  | ret (v : AV)
  | pan (a : AV)

noncomputable def getFn (C : Cfg) (f : Nat) : Option PFn := bif Nat.beq (Key.ofNatF 12 f).toNat f then T.get (Key.ofNatF 12 f) C.fns else none

/- how a function's frame is left -/
def Left (C : Cfg) (f : Nat) (fr : AFr) (h1 : T Blk) (o : Out) (h' : T Blk) : Prop := fr.dfs = [] ∧ match o with
  | .ret v => fr.mode = .ret ∧ ∃ l, resultsA h1 fr.tm fr.res = some l ∧ v = tupled (frzIfA (C.rawR f) l h1).1 ∧ h' = (frzIfA (C.rawR f) l h1).2
  | .pan a => fr.mode = .pan a false ∧ h' = h1

/- how a call is left -/
def Gone (C : Cfg) (f : Nat) (R : Out → T Blk → Key → Prop) (cs : List AFr) (m : AM) : Prop := ∃ o h' nx' fr h1, R o h' nx' ∧ fr.fn = f ∧ fr.dfd = false ∧ Left C f fr h1 o h' ∧ m = ⟨fr, cs, h1, nx'⟩
/- a call (its arguments are made fast already) -/
def CallA (C : Cfg) (f : Nat) (l : List AV) (h : T Blk) (nx : Key) (R : Out → T Blk → Key → Prop) : Prop :=
  (∃ v h' nx', C.sum f l h nx = some (v, h', nx') ∧ R (.ret v) h' nx') ∨
  (C.sum f l h nx = none ∧ ∃ p, getFn C f = some p ∧ ∀ cs, Ev C (Gone C f R cs) ⟨enterFr f p l, cs, h, nx⟩)

theorem CallA.mono {f : Nat} {l : List AV} {R R' : Out → T Blk → Key → Prop} (hc : CallA C f l h nx R) (hr : ∀ o h nx, R o h nx → R' o h nx) : CallA C f l h nx R' := by
  rcases hc with ⟨v, h', nx', h1, h2⟩ | ⟨h1, p, h2, h3⟩
  · exact .inl ⟨v, h', nx', h1, hr _ _ _ h2⟩
  · refine .inr ⟨h1, p, h2, fun cs => (h3 cs).mono ?_⟩
    rintro m ⟨o, h', nx', fr, h1, q, r⟩
    exact ⟨o, h', nx', fr, h1, hr _ _ _ q, r⟩

/- a function's body -/
def BodyPost (C : Cfg) (f : Nat) (res : List RV) (R : Out → T Blk → Key → Prop) : Post := fun e tm h nx => match e with
  | .norm | .ret => ∃ l, resultsA h tm res = some l ∧ R (.ret (tupled (frzIfA (C.rawR f) l h).1)) (frzIfA (C.rawR f) l h).2 nx
  | .pan a => R (.pan a) h nx
  | .exit _ => False

theorem CallA.of_W {f : Nat} {p : PFn} {l : List AV} {R : Out → T Blk → Key → Prop} (hs : C.sum f l h nx = none) (hp : getFn C f = some p) (hw : W C p.body (BodyPost C f p.res R) (paramsT l .z .nil) h nx) : CallA C f l h nx R := by
  refine .inr ⟨hs, p, hp, fun cs => (hw (enterFr f p l) [] cs rfl rfl).bind ?_⟩
  rintro m ⟨e, tm', h', nx', fr, q, ha, rfl⟩
  cases e with
  | norm =>
    cases ha
    obtain ⟨l1, hl, hr⟩ := q
    exact .step (m' := ⟨{ enterFr f p l with tm := tm', todo := [], mode := .ret }, cs, h', nx'⟩) (step_run rfl rfl) (.now ⟨_, _, nx', _, h', hr, rfl, rfl, ⟨rfl, rfl, l1, hl, rfl, rfl⟩, rfl⟩)
  | ret =>
    obtain ⟨t', rfl⟩ := ha
    obtain ⟨l1, hl, hr⟩ := q
    exact .now ⟨_, _, nx', _, h', hr, rfl, rfl, ⟨rfl, rfl, l1, hl, rfl, rfl⟩, rfl⟩
  | exit id => exact q.elim
  | pan a =>
    cases ha
    exact .now ⟨.pan a, h', nx', _, h', q, rfl, rfl, ⟨rfl, rfl, rfl⟩, rfl⟩

/- ---------- operations ---------- -/
theorem W.ops {l : List POper} (hw : WI C (.ops l) Q tm h nx) : W C (.ops l) Q tm h nx :=
  WI.to (y := .ops l) (fun _ _ _ _ _ => rfl) hw
theorem WI.ops_fin {l : List POper} {tm' : T AV} {h' : T Blk} {nx' : Key} (hr : runOps C.orc l tm h nx = .fin tm' h' nx') (hq : Q .norm tm' h' nx') : WI C (.ops l) Q tm h nx := by
  intro af k cs h1 h2
  refine .step (m' := ⟨{ af with tm := tm', todo := k }, cs, h', nx'⟩) (step_run h1 ?_) (.now ⟨.norm, tm', h', nx', _, hq, rfl, rfl⟩)
  simp only [stepRun, hr]

/- the caller goes on, or is left by a panic -/
theorem call_goes {S : AM → Prop} {f : Nat} {args : List AV} {fr c : AFr} {cs : List AFr} {R : Out → T Blk → Key → Prop} (hc : CallA C f (frzIfA (C.raw f) args h).1 (frzIfA (C.raw f) args h).2 nx R)
    (hfin : ∀ v, ∃ fr', finishA v fr = some fr') (hmode : fr.mode = .run) {m : AM} (hm : stepA C m = eventA C (.call f args) fr c cs h nx)
    (hret : ∀ v h' nx' fr', R (.ret v) h' nx' → finishA v fr = some fr' → Ev C S ⟨fr', cs, h', nx'⟩)
    (hpan : ∀ a h' nx', R (.pan a) h' nx' → Ev C S ⟨{ fr with mode := .pan a false, todo := [], tm := (match fr.todo with | .staged _ d _ :: _ => eraseC d.ds fr.tm (fun t => t) | _ => fr.tm) }, cs, h', nx'⟩) : Ev C S m := by
  rcases hc with ⟨v, h', nx', hs, hr⟩ | ⟨hs, p, hp, hrun⟩
  · obtain ⟨fr', hf⟩ := hfin v
    refine .step (m' := ⟨fr', cs, h', nx'⟩) ?_ (hret v h' nx' fr' hr hf)
    rw [hm]
    simp only [eventA, frzIf_eq, hs, hf]
  · have hen : stepA C m = .next ⟨enterFr f p (frzIfA (C.raw f) args h).1, fr :: cs, (frzIfA (C.raw f) args h).2, nx⟩ := by
      rw [hm]
      simp only [eventA, frzIf_eq, hs]
      unfold enterA
      have hp' : (bif Nat.beq (Key.ofNatF 12 f).toNat f then T.get (Key.ofNatF 12 f) C.fns else none) = some p := hp
      simp only [hp', paramsC_eq]
      rfl
    refine .step hen ((hrun (fr :: cs)).bind ?_)
    rintro m2 ⟨o, h', nx', fr2, h1, hr, hfn, hdf, ⟨hd, hL⟩, rfl⟩
    cases o with
    | ret v =>
      obtain ⟨hm2, l, hl, rfl, rfl⟩ := hL
      obtain ⟨fr', hf⟩ := hfin (tupled (frzIfA (C.rawR f) l h1).1)
      refine .step (m' := ⟨fr', cs, (frzIfA (C.rawR f) l h1).2, nx'⟩) ?_ (hret _ _ nx' fr' hr hf)
      unfold stepA
      simp only [hm2]
      unfold unwindA
      simp only [hd, hm2, hl, hfn, frzIf_eq]
      unfold returnA
      simp only [hdf, cond_false, hf]
    | pan a =>
      obtain ⟨hm2, rfl⟩ := hL
      refine .step ?_ (hpan a h' nx' hr)
      unfold stepA
      simp only [hm2]
      unfold unwindA
      simp only [hd, hm2, hmode]
      rfl

theorem WI.ops_call {l : List POper} {f : Nat} {args : List AV} {o : POper} {rest : List POper} {tm1 : T AV} {h1 : T Blk} {nx1 : Key} {R : Out → T Blk → Key → Prop} (hr : runOps C.orc l tm h nx = .ev (.call f args) (o :: rest) tm1 h1 nx1)
    (hc : CallA C f (frzIfA (C.raw f) args h1).1 (frzIfA (C.raw f) args h1).2 nx1 R)
    (hret : ∀ v h2 nx2, R (.ret v) h2 nx2 → WI C (.ops rest) Q (putTm o.dst v tm1) h2 nx2)
    (hpan : ∀ a h2 nx2, R (.pan a) h2 nx2 → Q (.pan a) tm1 h2 nx2) : WI C (.ops l) Q tm h nx := by
  intro af k cs m1 m2
  have hst : stepA C ⟨{ af with tm := tm, todo := .ops l :: k }, cs, h, nx⟩ = eventA C (.call f args) { af with tm := tm1, todo := .ops (o :: rest) :: k } { af with tm := tm1, todo := [] } cs h1 nx1 := by
    refine step_run m1 ?_
    simp only [stepRun, hr]
  have hfe : ∀ v, finishA v { af with tm := tm1, todo := .ops (o :: rest) :: k } = some { af with tm := putTm o.dst v tm1, todo := .ops rest :: k } := fun v => by simp only [finishA, putT_eq]
  refine call_goes (fr := { af with tm := tm1, todo := .ops (o :: rest) :: k }) (c := { af with tm := tm1, todo := [] }) (cs := cs) hc (fun v => ⟨_, hfe v⟩) m1 hst ?_ ?_
  · intro v h' nx' fr' hR hf
    rw [hfe] at hf
    cases hf
    refine (hret v h' nx' hR { af with tm := putTm o.dst v tm1 } k cs m1 m2).mono ?_
    rintro m ⟨e2, tm2, hh2, nx2, fr2, q2, a2, t2⟩
    refine ⟨e2, tm2, hh2, nx2, fr2, q2, ?_, t2⟩
    cases e2 <;> exact a2
  · intro a h' nx' hR
    exact .now ⟨.pan a, tm1, h', nx', _, hpan a h' nx' hR, rfl, rfl⟩

/- regions that draw their order -/
theorem W.staged {l : List SItem} {d : SD} (hw : WI C (.staged l d []) Q tm h nx) : W C (.staged l d) Q tm h nx :=
  WI.to (y := .staged l d []) (fun _ _ _ _ _ => rfl) hw
theorem WI.st_fin {l : List SItem} {d : SD} {pend : List (Nat × Key × Blk)} {tm' : T AV} {h' : T Blk} {nx' : Key} (hr : runSt C.orc d.ads l pend tm h nx = .fin tm' h' nx') (hq : Q .norm tm' h' nx') : WI C (.staged l d pend) Q tm h nx := by
  intro af k cs h1 h2
  refine .step (m' := ⟨{ af with tm := tm', todo := k }, cs, h', nx'⟩) (step_run h1 ?_) (.now ⟨.norm, tm', h', nx', _, hq, rfl, rfl⟩)
  simp only [stepRun, hr]
theorem WI.st_call {l : List SItem} {d : SD} {pend pend1 : List (Nat × Key × Blk)} {f : Nat} {args : List AV} {i : Nat} {o : POper} {ad : List Nat} {rest : List SItem} {tm1 : T AV} {h1 : T Blk} {nx1 : Key} {R : Out → T Blk → Key → Prop}
    (hr : runSt C.orc d.ads l pend tm h nx = .ev (.call f args) (.H i o ad :: rest) pend1 tm1 h1 nx1)
    (hc : CallA C f (frzIfA (C.raw f) args h1).1 (frzIfA (C.raw f) args h1).2 nx1 R)
    (hret : ∀ v h2 nx2, R (.ret v) h2 nx2 → WI C (.staged rest d pend1) Q (putTm o.dst v tm1) h2 nx2)
    (hpan : ∀ a h2 nx2, R (.pan a) h2 nx2 → Q (.pan a) (eraseT d.ds tm1) h2 nx2) : WI C (.staged l d pend) Q tm h nx := by
  intro af k cs m1 m2
  have hst : stepA C ⟨{ af with tm := tm, todo := .staged l d pend :: k }, cs, h, nx⟩ = eventA C (.call f args) { af with tm := tm1, todo := .staged (.H i o ad :: rest) d pend1 :: k } { af with tm := eraseT d.ds tm1, todo := [] } cs h1 nx1 := by
    refine step_run m1 ?_
    simp only [stepRun, hr, eraseC_eq]
  have hfe : ∀ v, finishA v { af with tm := tm1, todo := .staged (.H i o ad :: rest) d pend1 :: k } = some { af with tm := putTm o.dst v tm1, todo := .staged rest d pend1 :: k } := fun v => by simp only [finishA, putT_eq]
  refine call_goes (fr := { af with tm := tm1, todo := .staged (.H i o ad :: rest) d pend1 :: k }) (c := { af with tm := eraseT d.ds tm1, todo := [] }) (cs := cs) hc (fun v => ⟨_, hfe v⟩) m1 hst ?_ ?_
  · intro v h' nx' fr' hR hf
    rw [hfe] at hf
    cases hf
    refine (hret v h' nx' hR { af with tm := putTm o.dst v tm1 } k cs m1 m2).mono ?_
    rintro m ⟨e2, tm2, hh2, nx2, fr2, q2, a2, t2⟩
    refine ⟨e2, tm2, hh2, nx2, fr2, q2, ?_, t2⟩
    cases e2 <;> exact a2
  · intro a h' nx' hR
    simp only [eraseC_eq]
    exact .now ⟨.pan a, eraseT d.ds tm1, h', nx', _, hpan a h' nx' hR, rfl, rfl⟩

/- the next entry of a range over a map -/
theorem WI.ops_alt {l : List POper} {la : List (AV × T Blk)} {o : POper} {rest : List POper} {tm1 : T AV} {h1 : T Blk} {nx1 : Key} (hr : runOps C.orc l tm h nx = .ev (.alt la) (o :: rest) tm1 h1 nx1)
    (hw : ∀ v h2, (v, h2) ∈ la → WI C (.ops rest) Q (putTm o.dst v tm1) h2 nx1) : WI C (.ops l) Q tm h nx := by
  intro af k cs m1 m2
  have hfe : ∀ v, finishA v { af with tm := tm1, todo := .ops (o :: rest) :: k } = some { af with tm := putTm o.dst v tm1, todo := .ops rest :: k } := fun v => by simp only [finishA, putT_eq]
  refine .alt (l := altM { af with tm := tm1, todo := .ops (o :: rest) :: k } cs nx1 la) (step_run m1 (by simp only [stepRun, hr, eventA, hfe])) ?_
  have key : ∀ (q : List (AV × T Blk)), (∀ x ∈ q, x ∈ la) → ∀ m' ∈ altM { af with tm := tm1, todo := .ops (o :: rest) :: k } cs nx1 q, Ev C (Stop Q af k cs) m' := by
    intro q
    induction q with
    | nil => intro _ m' hm; cases hm
    | cons x q ih =>
      obtain ⟨v, h2⟩ := x
      intro hq m' hm
      simp only [altM, hfe] at hm
      rcases List.mem_cons.1 hm with rfl | hm
      · refine (hw v h2 (hq (v, h2) (by simp)) { af with tm := putTm o.dst v tm1 } k cs m1 m2).mono ?_
        rintro m ⟨e2, tm2, hh2, nx2, fr2, q2, a2, t2⟩
        refine ⟨e2, tm2, hh2, nx2, fr2, q2, ?_, t2⟩
        cases e2 <;> exact a2
      · exact ih (fun x hx => hq x (by simp [hx])) m' hm
  exact key la (fun x hx => hx)

/- a panic -/
theorem WI.ops_pan {l : List POper} {a : AV} {rest : List POper} {tm1 : T AV} {h1 : T Blk} {nx1 : Key} (hr : runOps C.orc l tm h nx = .ev (.pan a) rest tm1 h1 nx1) (hq : Q (.pan a) tm1 h1 nx1) : WI C (.ops l) Q tm h nx := by
  intro af k cs m1 m2
  refine .step (m' := ⟨{ af with tm := tm1, todo := [], mode := .pan a false }, cs, h1, nx1⟩) (step_run m1 ?_) (.now ⟨.pan a, tm1, h1, nx1, _, hq, rfl, rfl⟩)
  simp only [stepRun, hr, eventA]
end
end Go.Sx
/-
  SX: how rows of operations are worked out, for data that are not known. No condition.
-/
namespace Go.Sx

/- slots by number -/
def K (n : Nat) : Key := bif Nat.blt n 4095 then Key.ofNatF 12 n else Key.ofNatF n n
theorem ofNatF_toNat : ∀ (f n : Nat), n + 1 < 2 ^ (f + 1) → (Key.ofNatF f n).toNat = n
  | 0, n, h => by
    have : n = 0 := by omega
    subst this; rfl
  | f + 1, n, h => by
    unfold Key.ofNatF
    have hp : 2 ^ (f + 1 + 1) = 2 * 2 ^ (f + 1) := by rw [Nat.pow_succ, Nat.mul_comm]
    cases h0 : Nat.beq n 0 with
    | true => have := Nat.eq_of_beq_eq_true h0; subst this; rfl
    | false =>
      have hn : n ≠ 0 := by intro e; subst e; cases h0
      simp only [cond_false]
      cases h1 : Nat.beq (n % 2) 1 with
      | true =>
        have h1 := Nat.eq_of_beq_eq_true h1
        simp only [cond_true, Key.toNat, ofNatF_toNat f (n / 2) (by omega)]
        omega
      | false =>
        have h1 : n % 2 ≠ 1 := by intro e; rw [e] at h1; cases h1
        simp only [cond_false, Key.toNat, ofNatF_toNat f (n / 2 - 1) (by omega)]
        omega
theorem K_toNat (n : Nat) : (K n).toNat = n := by
  unfold K
  cases h : Nat.blt n 4095 with
  | true =>
    rw [bltN_eq, decide_eq_true_eq] at h
    exact ofNatF_toNat 12 n (by omega)
  | false =>
    refine ofNatF_toNat n n ?_
    have : n + 1 < 2 ^ (n + 1) := Nat.lt_two_pow_self
    exact this
theorem K_inj {i j : Nat} (h : K i = K j) : i = j := by rw [← K_toNat i, ← K_toNat j, h]
theorem K_succ (n : Nat) : (K n).succ = K (n + 1) := Key.toNat_inj (by rw [Key.toNat_succ, K_toNat, K_toNat])
theorem z_K : Key.z = K 0 := rfl
theorem get_set_K {α : Type} (i j : Nat) (v : Option α) (t : T α) : T.get (K i) (T.set (K j) v t) = if i = j then v else T.get (K i) t := by
  by_cases h : i = j
  · subst h; rw [if_pos rfl, T.get_set_same]
  · rw [if_neg h, T.get_set_ne _ _ _ _ (fun e => h (K_inj e))]

section
variable {orc : Orc} {tm : T AV} {h : T Blk} {nx : Key}
theorem at_t (k : Key) : (PX.t k).at tm = T.get k tm := rfl
theorem at_v (a : AV) : (PX.v a).at tm = some a := rfl
theorem runOps_nil : runOps orc [] tm h nx = .fin tm h nx := rfl
theorem putTm_some (k : Key) (v : AV) : putTm (some k) v tm = T.set k (some v) tm := rfl
theorem putTm_none (v : AV) : putTm none v tm = tm := rfl
theorem wants_none : wantsP none tm = some true := rfl
theorem wants_some (k : Key) (b : Bool) : wantsP (some (k, b)) tm = match T.get k tm with
    | some (.bool c) => some (c == b)
    | some (.tuple []) => some false
    | _ => none := rfl
theorem ltI_dec (a b : Int) : ltI a b = decide (a < b) := ltI_eq a b
theorem wrap_id {n : Int} (h1 : -9223372036854775808 ≤ n) (h2 : n < 9223372036854775808) : wrapF .i64 n = n := by
  rw [wrapF_eq]
  have : IntKind.wrap .i64 n = n := by
    rw [← wrapF_eq]
    simp only [wrapF, full, half, ltI_eq]
    have h3 : Int.emod n 18446744073709551616 = n % 18446744073709551616 := rfl
    rw [h3]
    by_cases h0 : 0 ≤ n
    · rw [show n % 18446744073709551616 = n by omega]
      have : decide (n < 9223372036854775808) = true := by simpa using h2
      rw [this]; rfl
    · rw [show n % 18446744073709551616 = n + 18446744073709551616 by omega]
      have : decide (n + 18446744073709551616 < 9223372036854775808) = false := by simp; omega
      rw [this]
      show n + 18446744073709551616 - 18446744073709551616 = n
      omega
  exact this
end
end Go.Sx
/-
  SX: what must hold ahead of code, reckoned by program. No condition.
-/
namespace Go.Sx
open Go.RowKit

def wpG (t : Option Bool) (A B : Prop) : Prop := match t with
  | none => False
  | some t => (t = true → A) ∧ (t = false → B)

noncomputable def wpO (C : Cfg) (Q : Post) : List POper → T AV → T Blk → Key → Prop
  | [], tm, h, nx => Q .norm tm h nx
  | o :: l, tm, h, nx => wpG (wantsP o.guard tm)
      (match aOp C.orc o.op tm h nx with
      | .val v h nx => wpO C Q l (putTm o.dst v tm) h nx
      | .call f args => CallA C f (frzIfA (C.raw f) args h).1 (frzIfA (C.raw f) args h).2 nx (fun out h nx => match out with
        | .ret v => wpO C Q l (putTm o.dst v tm) h nx
        | .pan a => Q (.pan a) tm h nx)
      | .pan a => Q (.pan a) tm h nx
      | .alt la => ∀ v h2, (v, h2) ∈ la → wpO C Q l (putTm o.dst v tm) h2 nx
      | _ => False)
      (wpO C Q l (putTm o.dst (.tuple []) tm) h nx)

noncomputable def wpS (C : Cfg) (Q : Post) (d : SD) : List SItem → List (Nat × Key × Blk) → T AV → T Blk → Key → Prop
  | [], pend, tm, h, nx => Q .norm tm (adoptH pend h) nx
  | .L i o :: l, pend, tm, h, nx => wpG (wantsP o.guard tm)
      (match lightOp C.orc o.op tm (viewH (adAt i d.ads) pend h) with
      | some v => wpS C Q d l pend (putTm o.dst v tm) h nx
      | none => False)
      (wpS C Q d l pend (putTm o.dst (.tuple []) tm) h nx)
  | .A i o :: l, pend, tm, h, nx => wpG (wantsP o.guard tm)
      (match allocOp o.op tm with
      | some (v, b) => wpS C Q d l ((i, nx, b) :: pend) (putTm o.dst (v nx) tm) h nx.succ
      | none => False)
      (wpS C Q d l pend (putTm o.dst (.tuple []) tm) h nx)
  | .H i o ad :: l, pend, tm, h, nx => wpG (wantsP o.guard tm)
      (match aOp C.orc o.op tm (adoptH (pend.filter fun x => memN x.1 ad) h) nx with
      | .val v h nx => wpS C Q d l (pend.filter fun x => !(memN x.1 ad)) (putTm o.dst v tm) h nx
      | .call f args => CallA C f (frzIfA (C.raw f) args (adoptH (pend.filter fun x => memN x.1 ad) h)).1 (frzIfA (C.raw f) args (adoptH (pend.filter fun x => memN x.1 ad) h)).2 nx (fun out h nx => match out with
        | .ret v => wpS C Q d l (pend.filter fun x => !(memN x.1 ad)) (putTm o.dst v tm) h nx
        | .pan a => Q (.pan a) (eraseT d.ds tm) h nx)
      | .pan a => Q (.pan a) (eraseT d.ds tm) (adoptH (pend.filter fun x => memN x.1 ad) h) nx
      | _ => False)
      (wpS C Q d l (pend.filter fun x => !(memN x.1 ad)) (putTm o.dst (.tuple []) tm) (adoptH (pend.filter fun x => memN x.1 ad) h) nx)
  | .R os :: l, pend, tm, h, nx => recheck C.orc d.ads pend tm h os = true ∧ wpS C Q d l pend tm h nx

def seqPost (W : T AV → T Blk → Key → Prop) (Q : Post) : Post := fun e tm h nx => match e with
  | .norm => W tm h nx
  | e => Q e tm h nx
def blockPost (id : Nat) (Q : Post) : Post := fun e tm h nx => match e with
  | .exit j => if j = id then Q .norm tm h nx else Q (.exit j) tm h nx
  | e => Q e tm h nx

noncomputable def wpC (C : Cfg) : PCode → Post → T AV → T Blk → Key → Prop
  | .skip, Q, tm, h, nx => Q .norm tm h nx
  | .ops l, Q, tm, h, nx => wpO C Q l tm h nx
  | .staged l d, Q, tm, h, nx => wpS C Q d l [] tm h nx
  | .seq a b, Q, tm, h, nx => wpC C a (seqPost (wpC C b Q) Q) tm h nx
  | .cond x a b, Q, tm, h, nx => match x.at tm with
    | some (.bool t) => (t = true → wpC C a Q tm h nx) ∧ (t = false → wpC C b Q tm h nx)
    | _ => False
  | .block id c, Q, tm, h, nx => wpC C c (blockPost id Q) tm h nx
  | .loop c, Q, tm, h, nx => W C (.loop c) Q tm h nx
  | .rangeF f ps a b, Q, tm, h, nx => W C (.rangeF f ps a b) Q tm h nx
  | .exit id, Q, tm, h, nx => Q (.exit id) tm h nx
  | .ret, Q, tm, h, nx => Q .ret tm h nx

section
variable {C : Cfg} {Q : Post}

/- two items that step to the same -/
theorem WI.same {x y : AItem} {tm tm2 : T AV} {h h2 : T Blk} {nx nx2 : Key} (hy : ∀ id, y ≠ .code (.exit id)) (hs : ∀ (af : AFr) (k : List AItem) (cs : List AFr), af.mode = .run → stepRun C { af with tm := tm, todo := x :: k } cs h nx = stepRun C { af with tm := tm2, todo := y :: k } cs h2 nx2)
    (hw : WI C y Q tm2 h2 nx2) : WI C x Q tm h nx := by
  intro af k cs h1 h2'
  exact Ev.same (by rw [step_run (m := ⟨{ af with tm := tm2, todo := y :: k }, cs, h2, nx2⟩) h1 rfl, step_run (m := ⟨{ af with tm := tm, todo := x :: k }, cs, h, nx⟩) h1 rfl]; exact hs af k cs h1)
    (Stop.not hy h1) (hw af k cs h1 h2')

theorem wpO_sound : ∀ {l : List POper} {tm : T AV} {h : T Blk} {nx : Key}, wpO C Q l tm h nx → WI C (.ops l) Q tm h nx
  | [], tm, h, nx, hw => WI.ops_fin runOps_nil hw
  | o :: l, tm, h, nx, hw => by
    unfold wpO at hw
    cases hg : wantsP o.guard tm with
    | none => rw [hg] at hw; exact hw.elim
    | some t =>
      rw [hg] at hw
      have hcong : ∀ {tm2 : T AV} {h2 : T Blk} {nx2 : Key}, runOps C.orc (o :: l) tm h nx = runOps C.orc l tm2 h2 nx2 → wpO C Q l tm2 h2 nx2 → WI C (.ops (o :: l)) Q tm h nx := by
        intro tm2 h2 nx2 he hw2
        refine WI.same (y := .ops l) (fun id e => by cases e) ?_ (wpO_sound hw2)
        intro af k cs _
        show (match runOps C.orc (o :: l) tm h nx with | .fin tm h nx => _ | .ev r rest tm h nx => _) = (match runOps C.orc l tm2 h2 nx2 with | .fin tm h nx => _ | .ev r rest tm h nx => _)
        rw [he]
      cases t with
      | false =>
        refine hcong ?_ (hw.2 rfl)
        rw [runOps_cons, hg]
        simp only [putT_eq]
      | true =>
        have hw := hw.1 rfl
        cases ha : aOp C.orc o.op tm h nx with
        | val v h' nx' =>
          rw [ha] at hw
          refine hcong ?_ hw
          rw [runOps_cons, hg, ha]
          simp only [putT_eq]
        | call f args =>
          rw [ha] at hw
          refine WI.ops_call (by rw [runOps_cons, hg, ha]) hw (fun v h2 nx2 hr => wpO_sound hr) (fun a h2 nx2 hr => hr)
        | pan a =>
          rw [ha] at hw
          exact WI.ops_pan (by rw [runOps_cons, hg, ha]) hw
        | alt la =>
          rw [ha] at hw
          exact WI.ops_alt (by rw [runOps_cons, hg, ha]) (fun v h2 hm => wpO_sound (hw v h2 hm))
        | yld k args => rw [ha] at hw; exact hw.elim
        | dfr f args => rw [ha] at hw; exact hw.elim
        | recover => rw [ha] at hw; exact hw.elim
        | bad n => rw [ha] at hw; exact hw.elim

theorem wpS_sound {d : SD} : ∀ {l : List SItem} {pend : List (Nat × Key × Blk)} {tm : T AV} {h : T Blk} {nx : Key}, wpS C Q d l pend tm h nx → WI C (.staged l d pend) Q tm h nx
  | [], pend, tm, h, nx, hw => WI.st_fin (by show adoptAll pend h (fun h => RS.fin tm h nx) = _; rw [adoptAll_eq]) hw
  | x :: l, pend, tm, h, nx, hw => by
    have hcong : ∀ {pend2 : List (Nat × Key × Blk)} {tm2 : T AV} {h2 : T Blk} {nx2 : Key}, runSt C.orc d.ads (x :: l) pend tm h nx = runSt C.orc d.ads l pend2 tm2 h2 nx2 → wpS C Q d l pend2 tm2 h2 nx2 → WI C (.staged (x :: l) d pend) Q tm h nx := by
      intro pend2 tm2 h2 nx2 he hw2
      refine WI.same (y := .staged l d pend2) (fun id e => by cases e) ?_ (wpS_sound hw2)
      intro af k cs _
      show (match runSt C.orc d.ads (x :: l) pend tm h nx with | .fin tm h nx => _ | .ev r rest pend tm h nx => _) = (match runSt C.orc d.ads l pend2 tm2 h2 nx2 with | .fin tm h nx => _ | .ev r rest pend tm h nx => _)
      rw [he]
    cases x with
    | L i o =>
      unfold wpS at hw
      cases hg : wantsP o.guard tm with
      | none => rw [hg] at hw; exact hw.elim
      | some t =>
        rw [hg] at hw
        cases t with
        | false =>
          refine hcong ?_ (hw.2 rfl)
          rw [runSt_L, hg]
          simp only [putT_eq]
        | true =>
          have hw := hw.1 rfl
          cases hl : lightOp C.orc o.op tm (viewH (adAt i d.ads) pend h) with
          | none => rw [hl] at hw; exact hw.elim
          | some v =>
            rw [hl] at hw
            refine hcong ?_ hw
            rw [runSt_L, hg, hl]
            simp only [putT_eq]
    | A i o =>
      unfold wpS at hw
      cases hg : wantsP o.guard tm with
      | none => rw [hg] at hw; exact hw.elim
      | some t =>
        rw [hg] at hw
        cases t with
        | false =>
          refine hcong ?_ (hw.2 rfl)
          rw [runSt_A, hg]
          simp only [putT_eq]
        | true =>
          have hw := hw.1 rfl
          cases hl : allocOp o.op tm with
          | none => rw [hl] at hw; exact hw.elim
          | some vb =>
            obtain ⟨v, b⟩ := vb
            rw [hl] at hw
            refine hcong ?_ hw
            rw [runSt_A, hg, hl]
            simp only [putT_eq]
    | H i o ad =>
      unfold wpS at hw
      cases hg : wantsP o.guard tm with
      | none => rw [hg] at hw; exact hw.elim
      | some t =>
        rw [hg] at hw
        cases t with
        | false =>
          refine hcong ?_ (hw.2 rfl)
          rw [runSt_H, adopt_eq, hg]
          simp only [putT_eq]
        | true =>
          have hw := hw.1 rfl
          have hrun : runSt C.orc d.ads (.H i o ad :: l) pend tm h nx = (match aOp C.orc o.op tm (adoptH (pend.filter fun x => memN x.1 ad) h) nx with
              | .val v h nx => putT o.dst (some v) tm fun tm => runSt C.orc d.ads l (pend.filter fun x => !(memN x.1 ad)) tm h nx
              | r => .ev r (.H i o ad :: l) (pend.filter fun x => !(memN x.1 ad)) tm (adoptH (pend.filter fun x => memN x.1 ad) h) nx) := by
            rw [runSt_H, adopt_eq, hg]
            rfl
          cases ha : aOp C.orc o.op tm (adoptH (pend.filter fun x => memN x.1 ad) h) nx with
          | val v h' nx' =>
            rw [ha] at hw hrun
            refine hcong ?_ hw
            rw [hrun]
            simp only [putT_eq]
          | call f args =>
            rw [ha] at hw hrun
            exact WI.st_call hrun hw (fun v h2 nx2 hr => wpS_sound hr) (fun a h2 nx2 hr => hr)
          | pan a =>
            rw [ha] at hw hrun
            intro af k cs m1 m2
            refine .step (m' := ⟨{ af with tm := eraseT d.ds tm, todo := [], mode := .pan a false }, cs, _, nx⟩) (step_run m1 ?_) (.now ⟨.pan a, eraseT d.ds tm, _, nx, _, hw, rfl, rfl⟩)
            simp only [stepRun, hrun, eraseC_eq, eventA]
          | alt la => rw [ha] at hw; exact hw.elim
          | yld k args => rw [ha] at hw; exact hw.elim
          | dfr f args => rw [ha] at hw; exact hw.elim
          | recover => rw [ha] at hw; exact hw.elim
          | bad n => rw [ha] at hw; exact hw.elim
    | R os =>
      unfold wpS at hw
      refine hcong ?_ hw.2
      rw [runSt_R, hw.1]
      rfl

theorem wpC_sound : ∀ {c : PCode} {Q : Post} {tm : T AV} {h : T Blk} {nx : Key}, wpC C c Q tm h nx → W C c Q tm h nx
  | .skip, Q, tm, h, nx, hw => W.skip hw
  | .ops l, Q, tm, h, nx, hw => W.ops (wpO_sound hw)
  | .staged l d, Q, tm, h, nx, hw => W.staged (wpS_sound hw)
  | .seq a b, Q, tm, h, nx, hw => by
    have hw : wpC C a (seqPost (wpC C b Q) Q) tm h nx := hw
    refine W.seq ((wpC_sound hw).mono fun e tm h nx hq => ?_)
    cases e with
    | norm => exact wpC_sound hq
    | _ => exact hq
  | .cond x a b, Q, tm, h, nx, hw => by
    unfold wpC at hw
    split at hw
    · rename_i t hx
      refine W.cond hx ?_
      cases t with
      | true => exact wpC_sound (hw.1 rfl)
      | false => exact wpC_sound (hw.2 rfl)
    · exact hw.elim
  | .block id c, Q, tm, h, nx, hw => by
    have hw : wpC C c (blockPost id Q) tm h nx := hw
    refine W.block ((wpC_sound hw).mono fun e tm h nx hq => ?_)
    cases e with
    | exit j => exact hq
    | _ => exact hq
  | .loop c, Q, tm, h, nx, hw => hw
  | .rangeF f ps a b, Q, tm, h, nx, hw => hw
  | .exit id, Q, tm, h, nx, hw => W.exit hw
  | .ret, Q, tm, h, nx, hw => W.ret hw

/- a call by the reckoning of its body -/
theorem CallA.of_wp {f : Nat} {p : PFn} {l : List AV} {h : T Blk} {nx : Key} {R : Out → T Blk → Key → Prop} (hs : C.sum f l h nx = none) (hp : getFn C f = some p) (hw : wpC C p.body (BodyPost C f p.res R) (paramsT l .z .nil) h nx) : CallA C f l h nx R :=
  CallA.of_W hs hp (wpC_sound hw)

/- the loop's body by reckoning -/
theorem W.loop_wp {c : PCode} (Inv : Nat → T AV → T Blk → Key → Prop) (hw : ∀ n tm h nx, Inv n tm h nx → wpC C c (seqPost (fun tm h nx => ∃ m, m < n ∧ Inv m tm h nx) Q) tm h nx) {n : Nat} {tm : T AV} {h : T Blk} {nx : Key} (hi : Inv n tm h nx) : W C (.loop c) Q tm h nx :=
  W.loop Inv (fun n tm h nx hi => (wpC_sound (hw n tm h nx hi)).mono fun e tm h nx hq => by cases e <;> exact hq) hi
end
end Go.Sx
/-
  SX: rules by which 'simp' works code out. No condition.
-/
namespace Go.Sx

/- blocks made one behind the other -/
noncomputable def A (b : Key) : Nat → Key
  | 0 => b
  | i + 1 => (A b i).succ
theorem A_toNat (b : Key) : ∀ i, (A b i).toNat = b.toNat + i
  | 0 => rfl
  | i + 1 => by simp only [A, Key.toNat_succ, A_toNat b i]; omega
theorem A_zero (b : Key) : A b 0 = b := rfl
@[simp] theorem A_succ (b : Key) (i : Nat) : (A b i).succ = A b (i + 1) := rfl
theorem A_A (b : Key) (i j : Nat) : A (A b i) j = A b (i + j) := Key.toNat_inj (by simp only [A_toNat]; omega)
@[simp] theorem get_set_A {α : Type} (b : Key) (i j : Nat) (v : Option α) (t : T α) : T.get (A b i) (T.set (A b j) v t) = if i = j then v else T.get (A b i) t := by
  by_cases h : i = j
  · subst h; rw [if_pos rfl, T.get_set_same]
  · rw [if_neg h, T.get_set_ne]
    intro e
    have := congrArg Key.toNat e
    simp only [A_toNat] at this
    omega
/- a block that was there -/
theorem get_set_old {α : Type} {b : Key} {c : Key} (v : Option α) (t : T α) (h : b.toNat < c.toNat) : T.get b (T.set c v t) = T.get b t :=
  T.get_set_ne _ _ _ _ (fun e => by rw [e] at h; exact absurd h (Nat.lt_irrefl _))

attribute [simp] get_set_K at_t at_v putTm_some putTm_none wants_none wants_some okV T.setC_eq
@[simp] theorem seqPost_norm (W : T AV → T Blk → Key → Prop) (Q : Post) (tm : T AV) (h : T Blk) (nx : Key) : seqPost W Q .norm tm h nx = W tm h nx := propext Iff.rfl
@[simp] theorem seqPost_ret (W : T AV → T Blk → Key → Prop) (Q : Post) (tm : T AV) (h : T Blk) (nx : Key) : seqPost W Q .ret tm h nx = Q .ret tm h nx := propext Iff.rfl
@[simp] theorem seqPost_exit (W : T AV → T Blk → Key → Prop) (Q : Post) (i : Nat) (tm : T AV) (h : T Blk) (nx : Key) : seqPost W Q (.exit i) tm h nx = Q (.exit i) tm h nx := propext Iff.rfl
@[simp] theorem seqPost_pan (W : T AV → T Blk → Key → Prop) (Q : Post) (a : AV) (tm : T AV) (h : T Blk) (nx : Key) : seqPost W Q (.pan a) tm h nx = Q (.pan a) tm h nx := propext Iff.rfl
@[simp] theorem blockPost_norm (j : Nat) (Q : Post) (tm : T AV) (h : T Blk) (nx : Key) : blockPost j Q .norm tm h nx = Q .norm tm h nx := propext Iff.rfl
@[simp] theorem blockPost_ret (j : Nat) (Q : Post) (tm : T AV) (h : T Blk) (nx : Key) : blockPost j Q .ret tm h nx = Q .ret tm h nx := propext Iff.rfl
@[simp] theorem blockPost_exit (j : Nat) (Q : Post) (i : Nat) (tm : T AV) (h : T Blk) (nx : Key) : blockPost j Q (.exit i) tm h nx = if i = j then Q .norm tm h nx else Q (.exit i) tm h nx := propext Iff.rfl
@[simp] theorem blockPost_pan (j : Nat) (Q : Post) (a : AV) (tm : T AV) (h : T Blk) (nx : Key) : blockPost j Q (.pan a) tm h nx = Q (.pan a) tm h nx := propext Iff.rfl
theorem hid {p q : Prop} (h : p ↔ q) : p = q := propext h
section
variable (C : Cfg) (Q : Post) (tm : T AV) (h : T Blk) (nx : Key) (d : SD) (pend : List (Nat × Key × Blk))
@[simp] theorem wpG_some (t : Bool) (A B : Prop) : wpG (some t) A B = ((t = true → A) ∧ (t = false → B)) := hid Iff.rfl
@[simp] theorem wpG_none (A B : Prop) : wpG none A B = False := hid Iff.rfl
@[simp] theorem wpC_skip : wpC C .skip Q tm h nx = Q .norm tm h nx := hid Iff.rfl
@[simp] theorem wpC_ops (l : List POper) : wpC C (.ops l) Q tm h nx = wpO C Q l tm h nx := hid Iff.rfl
@[simp] theorem wpC_staged (l : List SItem) (d : SD) : wpC C (.staged l d) Q tm h nx = wpS C Q d l [] tm h nx := hid Iff.rfl
@[simp] theorem wpC_seq (a b : PCode) : wpC C (.seq a b) Q tm h nx = wpC C a (seqPost (wpC C b Q) Q) tm h nx := hid Iff.rfl
@[simp] theorem wpC_cond (x : PX) (a b : PCode) : wpC C (.cond x a b) Q tm h nx = (match x.at tm with
    | some (.bool t) => (t = true → wpC C a Q tm h nx) ∧ (t = false → wpC C b Q tm h nx)
    | _ => False) := hid Iff.rfl
@[simp] theorem wpC_block (id : Nat) (c : PCode) : wpC C (.block id c) Q tm h nx = wpC C c (blockPost id Q) tm h nx := hid Iff.rfl
@[simp] theorem wpC_loop (c : PCode) : wpC C (.loop c) Q tm h nx = W C (.loop c) Q tm h nx := hid Iff.rfl
@[simp] theorem wpC_exit (id : Nat) : wpC C (.exit id) Q tm h nx = Q (.exit id) tm h nx := hid Iff.rfl
@[simp] theorem wpC_ret : wpC C .ret Q tm h nx = Q .ret tm h nx := hid Iff.rfl
@[simp] theorem wpO_nil : wpO C Q [] tm h nx = Q .norm tm h nx := hid Iff.rfl
/- what is left behind a call -/
def KO (o : POper) (l : List POper) : Out → T Blk → Key → Prop := fun out h nx => match out with
  | .ret v => wpO C Q l (putTm o.dst v tm) h nx
  | .pan a => Q (.pan a) tm h nx
def KS (o : POper) (l : List SItem) : Out → T Blk → Key → Prop := fun out h nx => match out with
  | .ret v => wpS C Q d l pend (putTm o.dst v tm) h nx
  | .pan a => Q (.pan a) (eraseT d.ds tm) h nx
@[simp] theorem KO_ret (o : POper) (l : List POper) (v : AV) : KO C Q tm o l (.ret v) h nx = wpO C Q l (putTm o.dst v tm) h nx := hid Iff.rfl
@[simp] theorem KO_pan (o : POper) (l : List POper) (a : AV) : KO C Q tm o l (.pan a) h nx = Q (.pan a) tm h nx := hid Iff.rfl
@[simp] theorem KS_ret (o : POper) (l : List SItem) (v : AV) : KS C Q tm d pend o l (.ret v) h nx = wpS C Q d l pend (putTm o.dst v tm) h nx := hid Iff.rfl
@[simp] theorem KS_pan (o : POper) (l : List SItem) (a : AV) : KS C Q tm d pend o l (.pan a) h nx = Q (.pan a) (eraseT d.ds tm) h nx := hid Iff.rfl
def wpGo (o : POper) (l : List POper) (t : Option Bool) : Prop := wpG t
      (match aOp C.orc o.op tm h nx with
      | .val v h nx => wpO C Q l (putTm o.dst v tm) h nx
      | .call f args => CallA C f (frzIfA (C.raw f) args h).1 (frzIfA (C.raw f) args h).2 nx (KO C Q tm o l)
      | .pan a => Q (.pan a) tm h nx
      | .alt la => ∀ v h2, (v, h2) ∈ la → wpO C Q l (putTm o.dst v tm) h2 nx
      | _ => False)
      (wpO C Q l (putTm o.dst (.tuple []) tm) h nx)
@[simp] theorem wpO_cons (o : POper) (l : List POper) : wpO C Q (o :: l) tm h nx = wpGo C Q tm h nx o l (wantsP o.guard tm) := hid (by rw [wpO]; exact Iff.rfl)
@[simp] theorem wpGo_true (o : POper) (l : List POper) : wpGo C Q tm h nx o l (some true) = (match aOp C.orc o.op tm h nx with
      | .val v h nx => wpO C Q l (putTm o.dst v tm) h nx
      | .call f args => CallA C f (frzIfA (C.raw f) args h).1 (frzIfA (C.raw f) args h).2 nx (KO C Q tm o l)
      | .pan a => Q (.pan a) tm h nx
      | .alt la => ∀ v h2, (v, h2) ∈ la → wpO C Q l (putTm o.dst v tm) h2 nx
      | _ => False) := by simp [wpGo]
@[simp] theorem wpGo_false (o : POper) (l : List POper) : wpGo C Q tm h nx o l (some false) = wpO C Q l (putTm o.dst (.tuple []) tm) h nx := by simp [wpGo]
@[simp] theorem wpGo_none (o : POper) (l : List POper) : wpGo C Q tm h nx o l none = False := by simp [wpGo]
@[simp low] theorem wpGo_sym (o : POper) (l : List POper) (t : Bool) : wpGo C Q tm h nx o l (some t) = ((t = true → wpGo C Q tm h nx o l (some true)) ∧ (t = false → wpGo C Q tm h nx o l (some false))) := by
  cases t <;> simp
@[simp] theorem wpS_nil : wpS C Q d [] pend tm h nx = Q .norm tm (adoptH pend h) nx := hid Iff.rfl
def wpGl (i : Nat) (o : POper) (l : List SItem) (t : Option Bool) : Prop := wpG t
      (match lightOp C.orc o.op tm (viewH (adAt i d.ads) pend h) with
      | some v => wpS C Q d l pend (putTm o.dst v tm) h nx
      | none => False)
      (wpS C Q d l pend (putTm o.dst (.tuple []) tm) h nx)
@[simp] theorem wpS_L (i : Nat) (o : POper) (l : List SItem) : wpS C Q d (.L i o :: l) pend tm h nx = wpGl C Q tm h nx d pend i o l (wantsP o.guard tm) := hid (by rw [wpS]; exact Iff.rfl)
@[simp] theorem wpGl_true (i : Nat) (o : POper) (l : List SItem) : wpGl C Q tm h nx d pend i o l (some true) = (match lightOp C.orc o.op tm (viewH (adAt i d.ads) pend h) with
      | some v => wpS C Q d l pend (putTm o.dst v tm) h nx
      | none => False) := by simp [wpGl]
@[simp] theorem wpGl_false (i : Nat) (o : POper) (l : List SItem) : wpGl C Q tm h nx d pend i o l (some false) = wpS C Q d l pend (putTm o.dst (.tuple []) tm) h nx := by simp [wpGl]
@[simp] theorem wpGl_none (i : Nat) (o : POper) (l : List SItem) : wpGl C Q tm h nx d pend i o l none = False := by simp [wpGl]
@[simp low] theorem wpGl_sym (i : Nat) (o : POper) (l : List SItem) (t : Bool) : wpGl C Q tm h nx d pend i o l (some t) = ((t = true → wpGl C Q tm h nx d pend i o l (some true)) ∧ (t = false → wpGl C Q tm h nx d pend i o l (some false))) := by
  cases t <;> simp
def wpGa (i : Nat) (o : POper) (l : List SItem) (t : Option Bool) : Prop := wpG t
      (match allocOp o.op tm with
      | some (v, b) => wpS C Q d l ((i, nx, b) :: pend) (putTm o.dst (v nx) tm) h nx.succ
      | none => False)
      (wpS C Q d l pend (putTm o.dst (.tuple []) tm) h nx)
@[simp] theorem wpS_A (i : Nat) (o : POper) (l : List SItem) : wpS C Q d (.A i o :: l) pend tm h nx = wpGa C Q tm h nx d pend i o l (wantsP o.guard tm) := hid (by rw [wpS]; exact Iff.rfl)
@[simp] theorem wpGa_true (i : Nat) (o : POper) (l : List SItem) : wpGa C Q tm h nx d pend i o l (some true) = (match allocOp o.op tm with
      | some (v, b) => wpS C Q d l ((i, nx, b) :: pend) (putTm o.dst (v nx) tm) h nx.succ
      | none => False) := by simp [wpGa]
@[simp] theorem wpGa_false (i : Nat) (o : POper) (l : List SItem) : wpGa C Q tm h nx d pend i o l (some false) = wpS C Q d l pend (putTm o.dst (.tuple []) tm) h nx := by simp [wpGa]
@[simp] theorem wpGa_none (i : Nat) (o : POper) (l : List SItem) : wpGa C Q tm h nx d pend i o l none = False := by simp [wpGa]
@[simp low] theorem wpGa_sym (i : Nat) (o : POper) (l : List SItem) (t : Bool) : wpGa C Q tm h nx d pend i o l (some t) = ((t = true → wpGa C Q tm h nx d pend i o l (some true)) ∧ (t = false → wpGa C Q tm h nx d pend i o l (some false))) := by
  cases t <;> simp
def wpGh (o : POper) (ad : List Nat) (l : List SItem) (t : Option Bool) : Prop := wpG t
      (match aOp C.orc o.op tm (adoptH (pend.filter fun x => memN x.1 ad) h) nx with
      | .val v h nx => wpS C Q d l (pend.filter fun x => !(memN x.1 ad)) (putTm o.dst v tm) h nx
      | .call f args => CallA C f (frzIfA (C.raw f) args (adoptH (pend.filter fun x => memN x.1 ad) h)).1 (frzIfA (C.raw f) args (adoptH (pend.filter fun x => memN x.1 ad) h)).2 nx (KS C Q tm d (pend.filter fun x => !(memN x.1 ad)) o l)
      | .pan a => Q (.pan a) (eraseT d.ds tm) (adoptH (pend.filter fun x => memN x.1 ad) h) nx
      | _ => False)
      (wpS C Q d l (pend.filter fun x => !(memN x.1 ad)) (putTm o.dst (.tuple []) tm) (adoptH (pend.filter fun x => memN x.1 ad) h) nx)
@[simp] theorem wpS_H (i : Nat) (o : POper) (ad : List Nat) (l : List SItem) : wpS C Q d (.H i o ad :: l) pend tm h nx = wpGh C Q tm h nx d pend o ad l (wantsP o.guard tm) := hid (by rw [wpS]; exact Iff.rfl)
@[simp] theorem wpGh_true (o : POper) (ad : List Nat) (l : List SItem) : wpGh C Q tm h nx d pend o ad l (some true) = (match aOp C.orc o.op tm (adoptH (pend.filter fun x => memN x.1 ad) h) nx with
      | .val v h nx => wpS C Q d l (pend.filter fun x => !(memN x.1 ad)) (putTm o.dst v tm) h nx
      | .call f args => CallA C f (frzIfA (C.raw f) args (adoptH (pend.filter fun x => memN x.1 ad) h)).1 (frzIfA (C.raw f) args (adoptH (pend.filter fun x => memN x.1 ad) h)).2 nx (KS C Q tm d (pend.filter fun x => !(memN x.1 ad)) o l)
      | .pan a => Q (.pan a) (eraseT d.ds tm) (adoptH (pend.filter fun x => memN x.1 ad) h) nx
      | _ => False) := by unfold wpGh; simp only [wpG_some, true_implies, Bool.true_eq_false, false_implies, and_true]
@[simp] theorem wpGh_false (o : POper) (ad : List Nat) (l : List SItem) : wpGh C Q tm h nx d pend o ad l (some false) = wpS C Q d l (pend.filter fun x => !(memN x.1 ad)) (putTm o.dst (.tuple []) tm) (adoptH (pend.filter fun x => memN x.1 ad) h) nx := by unfold wpGh; simp only [wpG_some, true_implies, Bool.false_eq_true, false_implies, true_and]
@[simp] theorem wpGh_none (o : POper) (ad : List Nat) (l : List SItem) : wpGh C Q tm h nx d pend o ad l none = False := by simp [wpGh]
@[simp low] theorem wpGh_sym (o : POper) (ad : List Nat) (l : List SItem) (t : Bool) : wpGh C Q tm h nx d pend o ad l (some t) = ((t = true → wpGh C Q tm h nx d pend o ad l (some true)) ∧ (t = false → wpGh C Q tm h nx d pend o ad l (some false))) := by
  cases t <;> simp only [true_implies, Bool.true_eq_false, Bool.false_eq_true, false_implies, and_true, true_and]
@[simp] theorem wpS_R (os : List (Nat × POper)) (l : List SItem) : wpS C Q d (.R os :: l) pend tm h nx = (recheck C.orc d.ads pend tm h os = true ∧ wpS C Q d l pend tm h nx) := hid (by rw [wpS])
@[simp] theorem adoptH_nil : adoptH [] h = h := rfl
@[simp] theorem adoptH_cons (x : Nat × Key × Blk) (p : List (Nat × Key × Blk)) : adoptH (x :: p) h = adoptH p (T.set x.2.1 (some x.2.2) h) := rfl
@[simp] theorem recheck_nil (orc : Orc) (ads : List (Nat × List Nat)) : recheck orc ads pend tm h [] = true := rfl
@[simp] theorem recheck_cons (orc : Orc) (ads : List (Nat × List Nat)) (i : Nat) (o : POper) (l : List (Nat × POper)) : recheck orc ads pend tm h ((i, o) :: l) = (match wantsP o.guard tm with
    | some false => match o.dst with
      | none => false
      | some d => match T.get d tm with
        | some (.tuple []) => recheck orc ads pend tm h l
        | _ => false
    | some true => match o.dst with
      | none => false
      | some d => match T.get d tm, lightOp orc o.op tm (viewH (adAt i ads) pend h) with
        | some v, some u => bif AV.beq v u then recheck orc ads pend tm h l else false
        | _, _ => false
    | none => false) := rfl
end
attribute [simp] memN

/- a body whose results are made fast -/
def BodyP (res : List RV) (R : Out → T Blk → Key → Prop) : Post := fun e tm h nx => match e with
  | .norm | .ret => ∃ l, resultsA h tm res = some l ∧ R (.ret (tupled (frzLA (frzA 8) l h).1)) (frzLA (frzA 8) l h).2 nx
  | .pan a => R (.pan a) h nx
  | .exit _ => False
theorem CallA.of {C : Cfg} {f : Nat} {p : PFn} {l : List AV} {h : T Blk} {nx : Key} {R : Out → T Blk → Key → Prop} (hs : C.sum f l h nx = none) (hp : getFn C f = some p) (hr : C.rawR f = false) (hw : wpC C p.body (BodyP p.res R) (paramsT l (K 0) .nil) h nx) : CallA C f l h nx R := by
  refine CallA.of_wp hs hp ?_
  have e : BodyPost C f p.res R = BodyP p.res R := by
    funext e tm h nx
    cases e <;> simp only [BodyPost, BodyP, hr] <;> rfl
  rw [e]
  exact hw
section
variable (res : List RV) (R : Out → T Blk → Key → Prop) (tm : T AV) (h : T Blk) (nx : Key)
@[simp] theorem bodyP_ret : BodyP res R .ret tm h nx = ∃ l, resultsA h tm res = some l ∧ R (.ret (tupled (frzLA (frzA 8) l h).1)) (frzLA (frzA 8) l h).2 nx := hid Iff.rfl
@[simp] theorem bodyP_norm : BodyP res R .norm tm h nx = ∃ l, resultsA h tm res = some l ∧ R (.ret (tupled (frzLA (frzA 8) l h).1)) (frzLA (frzA 8) l h).2 nx := hid Iff.rfl
@[simp] theorem bodyP_pan (a : AV) : BodyP res R (.pan a) tm h nx = R (.pan a) h nx := hid Iff.rfl
end
attribute [simp] aOp lightOp allocOp newB atAll loadB isCmp beqKind arith
attribute [simp] nth_eq dropL_eq takeC_eq putC_eq appC_eq lenL_eq beqN_eq bltN_eq ltI_dec eqI_eq
@[simp] theorem bleN_eq (a b : Nat) : Nat.ble a b = decide (a ≤ b) := by rw [Bool.eq_iff_iff]; simp
@[simp] theorem int_add (a b : Int) : Int.add a b = a + b := rfl
@[simp] theorem int_sub (a b : Int) : Int.sub a b = a - b := rfl
@[simp] theorem int_mul (a b : Int) : Int.mul a b = a * b := rfl
@[simp] theorem natOf_coe (k : IntKind) (m : Nat) : natOf (.int k (.lit (m : Int))) = some m := rfl
@[simp] theorem natOf_zero (k : IntKind) : natOf (.int k (.lit 0)) = some 0 := rfl
@[simp] theorem natOf_one (k : IntKind) : natOf (.int k (.lit 1)) = some 1 := rfl
@[simp] theorem natOf_lit (k : IntKind) (n : Nat) : natOf (.int k (.lit (OfNat.ofNat (n + 2) : Int))) = some (n + 2) := rfl
theorem natOf_nonneg (k : IntKind) {i : Int} (h : 0 ≤ i) : natOf (.int k (.lit i)) = some i.toNat := by
  obtain ⟨m, rfl⟩ := Int.eq_ofNat_of_zero_le h
  rfl
@[simp] theorem bound_none (tm : T AV) (d : Nat) : boundOf tm d none = some d := rfl
@[simp] theorem bound_some (tm : T AV) (d : Nat) (x : PX) : boundOf tm d (some x) = match x.at tm with | none => none | some v => natOf v := rfl
@[simp] theorem cmp_lit (orc : Orc) (op : BinOp) (x y : Int) : cmpI orc op (.lit x) (.lit y) = (match op with
    | .eql => some (x == y)
    | .neq => some (!(x == y))
    | .lss => some (decide (x < y))
    | .leq => some (!(decide (y < x)))
    | .gtr => some (decide (y < x))
    | .geq => some (!(decide (x < y)))
    | _ => none) := by
  cases op <;> simp [cmpI]
@[simp] theorem fill_nil (tm : T AV) (cs : List AV) : fillP tm [] cs = some cs := rfl
@[simp] theorem fill_cons (tm : T AV) (off size : Nat) (x : PX) (r : List (Nat × Nat × PX)) (cs : List AV) : fillP tm ((off, size, x) :: r) cs =
    (match x.at tm with
    | none => none
    | some v => bif Nat.beq (lenL v.cells) size then putC v.cells off cs none (fun cs => fillP tm r cs) else none) := rfl
@[simp] theorem part_true (off n : Nat) (l : List AV) : partV true off n l = if n ≤ (l.drop off).length then some (.agg ((l.drop off).take n)) else none := by
  simp [partV]
@[simp] theorem part_false (off n : Nat) (l : List AV) : partV false off n l = l[off]? := by
  simp [partV]
@[simp] theorem isCell_bool (b : Bool) : AV.isCell (.bool b) = true := rfl
@[simp] theorem cells_bool (b : Bool) : AV.cells (.bool b) = [.bool b] := rfl
@[simp] theorem isCell_int (k : IntKind) (n : SI) : AV.isCell (.int k n) = true := rfl
@[simp] theorem cells_int (k : IntKind) (n : SI) : AV.cells (.int k n) = [.int k n] := rfl
@[simp] theorem isCell_str (n c : Nat) : AV.isCell (.str n c) = true := rfl
@[simp] theorem cells_str (n c : Nat) : AV.cells (.str n c) = [.str n c] := rfl
@[simp] theorem isCell_ptr (b : Key) (off : Nat) : AV.isCell (.ptr b off) = true := rfl
@[simp] theorem cells_ptr (b : Key) (off : Nat) : AV.cells (.ptr b off) = [.ptr b off] := rfl
@[simp] theorem isCell_nilp  : AV.isCell (.nilp) = true := rfl
@[simp] theorem cells_nilp  : AV.cells (.nilp) = [.nilp] := rfl
@[simp] theorem isCell_slice (b : Key) (off len sz : Nat) : AV.isCell (.slice b off len sz) = true := rfl
@[simp] theorem cells_slice (b : Key) (off len sz : Nat) : AV.cells (.slice b off len sz) = [.slice b off len sz] := rfl
@[simp] theorem isCell_nils  : AV.isCell (.nils) = true := rfl
@[simp] theorem cells_nils  : AV.cells (.nils) = [.nils] := rfl
@[simp] theorem isCell_map (b : Key) : AV.isCell (.map b) = true := rfl
@[simp] theorem cells_map (b : Key) : AV.cells (.map b) = [.map b] := rfl
@[simp] theorem isCell_nilm  : AV.isCell (.nilm) = true := rfl
@[simp] theorem cells_nilm  : AV.cells (.nilm) = [.nilm] := rfl
@[simp] theorem isCell_fn (f : Nat) (first cap : List AV) : AV.isCell (.fn f first cap) = true := rfl
@[simp] theorem cells_fn (f : Nat) (first cap : List AV) : AV.cells (.fn f first cap) = [.fn f first cap] := rfl
@[simp] theorem isCell_nilf  : AV.isCell (.nilf) = true := rfl
@[simp] theorem cells_nilf  : AV.cells (.nilf) = [.nilf] := rfl
@[simp] theorem isCell_iface (t : Nat) (v : AV) : AV.isCell (.iface t v) = true := rfl
@[simp] theorem cells_iface (t : Nat) (v : AV) : AV.cells (.iface t v) = [.iface t v] := rfl
@[simp] theorem isCell_nili  : AV.isCell (.nili) = true := rfl
@[simp] theorem cells_nili  : AV.cells (.nili) = [.nili] := rfl
@[simp] theorem isCell_sl (l : List AV) (len sz : Nat) (fl : SF) : AV.isCell (.sl l len sz fl) = true := rfl
@[simp] theorem cells_sl (l : List AV) (len sz : Nat) (fl : SF) : AV.cells (.sl l len sz fl) = [.sl l len sz fl] := rfl
@[simp] theorem isCell_cref (l : List AV) : AV.isCell (.cref l) = true := rfl
@[simp] theorem cells_cref (l : List AV) : AV.cells (.cref l) = [.cref l] := rfl
@[simp] theorem isCell_agg (l : List AV) : AV.isCell (.agg l) = false := rfl
@[simp] theorem cells_agg (l : List AV) : AV.cells (.agg l) = l := rfl
@[simp] theorem frzIfA_false (l : List AV) (h : T Blk) : frzIfA false l h = frzLA (frzA 8) l h := rfl
@[simp] theorem frzIfA_true (l : List AV) (h : T Blk) : frzIfA true l h = (l, h) := rfl
@[simp] theorem frzLA_nil (g : AV → T Blk → AV × T Blk) (h : T Blk) : frzLA g [] h = ([], h) := rfl
@[simp] theorem frzLA_cons (g : AV → T Blk → AV × T Blk) (v : AV) (l : List AV) (h : T Blk) : frzLA g (v :: l) h = ((g v h).1 :: (frzLA g l (g v h).2).1, (frzLA g l (g v h).2).2) := rfl
section
variable (n : Nat) (h : T Blk)
@[simp] theorem frzA_int (k : IntKind) (i : SI) : frzA n (.int k i) h = (.int k i, h) := by cases n <;> rfl
@[simp] theorem frzA_bool (b : Bool) : frzA n (.bool b) h = (.bool b, h) := by cases n <;> rfl
@[simp] theorem frzA_str (a b : Nat) : frzA n (.str a b) h = (.str a b, h) := by cases n <;> rfl
@[simp] theorem frzA_ptr (b : Key) (o : Nat) : frzA n (.ptr b o) h = (.ptr b o, h) := by cases n <;> rfl
@[simp] theorem frzA_nilp : frzA n .nilp h = (.nilp, h) := by cases n <;> rfl
@[simp] theorem frzA_nils : frzA n .nils h = (.nils, h) := by cases n <;> rfl
@[simp] theorem frzA_map (b : Key) : frzA n (.map b) h = (.map b, h) := by cases n <;> rfl
@[simp] theorem frzA_nilm : frzA n .nilm h = (.nilm, h) := by cases n <;> rfl
@[simp] theorem frzA_fn (f : Nat) (a c : List AV) : frzA n (.fn f a c) h = (.fn f a c, h) := by cases n <;> rfl
@[simp] theorem frzA_nilf : frzA n .nilf h = (.nilf, h) := by cases n <;> rfl
@[simp] theorem frzA_iface (t : Nat) (v : AV) : frzA n (.iface t v) h = (.iface t v, h) := by cases n <;> rfl
@[simp] theorem frzA_nili : frzA n .nili h = (.nili, h) := by cases n <;> rfl
@[simp] theorem frzA_cref (l : List AV) : frzA n (.cref l) h = (.cref l, h) := by cases n <;> rfl
@[simp] theorem frzA_tuple (l : List AV) : frzA n (.tuple l) h = (.tuple l, h) := by cases n <;> rfl
@[simp] theorem frzA_sl (l : List AV) (m z : Nat) (f : SF) : frzA (n + 1) (.sl l m z f) h = (.sl l m z .any, h) := rfl
@[simp] theorem frzA_sl8 (l : List AV) (m z : Nat) (f : SF) : frzA 8 (.sl l m z f) h = (.sl l m z .any, h) := rfl
@[simp] theorem frzA_sl7 (l : List AV) (m z : Nat) (f : SF) : frzA 7 (.sl l m z f) h = (.sl l m z .any, h) := rfl
@[simp] theorem frzA_agg8 (l : List AV) : frzA 8 (.agg l) h = (.agg (frzLA (frzA 7) l h).1, (frzLA (frzA 7) l h).2) := rfl
end
theorem params0 (l : List AV) : paramsT l .z .nil = paramsT l (K 0) .nil := rfl
@[simp] theorem paramsT_nil (k : Key) (tm : T AV) : paramsT [] k tm = tm := rfl
@[simp] theorem paramsT_cons (v : AV) (l : List AV) (i : Nat) (tm : T AV) : paramsT (v :: l) (K i) tm = paramsT l (K (i + 1)) (T.set (K i) (some v) tm) := by
  simp only [paramsT, K_succ]
@[simp] theorem tupled_one (v : AV) : tupled [v] = v := rfl
@[simp] theorem tupled_two (v u : AV) (l : List AV) : tupled (v :: u :: l) = .tuple (v :: u :: l) := rfl
attribute [simp] resultsA
@[simp] theorem AV.all_nil : ([] : List AV).all AV.isCell = true := rfl

attribute [simp] T.get_set_same setK findK keyEq Key.toNat_succ
theorem get_lt {α : Type} {b c : Key} {v : Option α} {t : T α} (h : b.toNat < c.toNat) : T.get b (T.set c v t) = T.get b t := get_set_old v t h
theorem get_gt {α : Type} {b c : Key} {v : Option α} {t : T α} (h : c.toNat < b.toNat) : T.get b (T.set c v t) = T.get b t :=
  T.get_set_ne _ _ _ _ (fun e => by rw [e] at h; exact absurd h (Nat.lt_irrefl _))
@[simp] theorem set_set {α : Type} (k : Key) (v u : Option α) : ∀ (t : T α), T.set k v (T.set k u t) = T.set k v t := by
  induction k with
  | z => intro t; cases t <;> rfl
  | o k ih => intro t; cases t <;> simp only [T.set_o, T.set_o_nil, ih]
  | e k ih => intro t; cases t <;> simp only [T.set_e, T.set_e_nil, ih]

/- only new blocks -/
structure Ext (h : T Blk) (nx : Key) (h' : T Blk) (nx' : Key) : Prop where
  n : nx.toNat ≤ nx'.toNat
  g : ∀ b : Key, b.toNat < nx.toNat → T.get b h' = T.get b h
theorem Ext.refl (h : T Blk) (nx : Key) : Ext h nx h nx := ⟨Nat.le_refl _, fun _ _ => rfl⟩
theorem Ext.trans {h1 h2 h3 : T Blk} {n1 n2 n3 : Key} (a : Ext h1 n1 h2 n2) (b : Ext h2 n2 h3 n3) : Ext h1 n1 h3 n3 :=
  ⟨Nat.le_trans a.n b.n, fun k hk => (b.g k (Nat.lt_of_lt_of_le hk a.n)).trans (a.g k hk)⟩

/- a call that only makes memory of its own -/
def Pure (C : Cfg) (f : Nat) (l : List AV) (v : AV) : Prop := ∀ h nx, CallA C f l h nx (fun o h' nx' => o = .ret v ∧ Ext h nx h' nx')
@[simp] theorem beqAV_bool (a b : Bool) : AV.beq (.bool a) (.bool b) = (a == b) := rfl
@[simp] theorem eq_bool (orc : Orc) (a b : Bool) : eqV orc .bool (.bool a) (.bool b) = some (a == b) := by simp [eqV]
@[simp] theorem eq_int (orc : Orc) (k : IntKind) (a b : SI) : eqV orc .int (.int k a) (.int k b) = cmpI orc .eql a b := by cases k <;> simp [eqV]
@[simp] theorem eq_parts (orc : Orc) (l : List (Nat × EqP)) (a b : List AV) : eqV orc (.parts l) (.agg a) (.agg b) = eqParts orc l a b := by simp [eqV]
@[simp] theorem eqParts_nil (orc : Orc) (a b : List AV) : eqParts orc [] a b = some true := by simp [eqParts]
@[simp] theorem eqParts_cons (orc : Orc) (off : Nat) (p : EqP) (l : List (Nat × EqP)) (a b : List AV) : eqParts orc ((off, p) :: l) a b = (match nth off a, nth off b with
    | some x, some y => match eqV orc p x y with
      | some true => eqParts orc l a b
      | some false => some false
      | none => none
    | _, _ => none) := by rw [eqParts]; rfl

/- ---------- longer code, in pieces ---------- -/
section
variable {C : Cfg} {Q : Post} {tm : T AV} {h : T Blk} {nx : Key}
theorem CallA.ofW {f : Nat} {p : PFn} {l : List AV} {R : Out → T Blk → Key → Prop} (hs : C.sum f l h nx = none) (hp : getFn C f = some p) (hr : C.rawR f = false) (hw : W C p.body (BodyP p.res R) (paramsT l (K 0) .nil) h nx) : CallA C f l h nx R := by
  refine CallA.of_W hs hp ?_
  have e : BodyPost C f p.res R = BodyP p.res R := by
    funext e tm h nx
    cases e <;> simp only [BodyPost, BodyP, hr] <;> rfl
  rw [e]
  exact hw
theorem W.seqM {a b : PCode} (M : T AV → T Blk → Key → Prop) (h1 : W C a (seqPost M Q) tm h nx) (h2 : ∀ tm h nx, M tm h nx → W C b Q tm h nx) : W C (.seq a b) Q tm h nx := by
  refine W.seq (WI.mono h1 fun e tm h nx hq => ?_)
  cases e with
  | norm => exact h2 _ _ _ hq
  | _ => exact hq
theorem W.seqW {a b : PCode} (h1 : W C a (seqPost (W C b Q) Q) tm h nx) : W C (.seq a b) Q tm h nx := W.seqM _ h1 (fun _ _ _ h => h)
theorem W.blockM {id : Nat} {c : PCode} (h1 : W C c (blockPost id Q) tm h nx) : W C (.block id c) Q tm h nx := by
  refine W.block (WI.mono h1 fun e tm h nx hq => ?_)
  cases e <;> exact hq
theorem W.loopM {c : PCode} (Inv : Nat → T AV → T Blk → Key → Prop) {n : Nat} (hi : Inv n tm h nx) (hw : ∀ n tm h nx, Inv n tm h nx → W C c (seqPost (fun tm h nx => ∃ m, m < n ∧ Inv m tm h nx) Q) tm h nx) : W C (.loop c) Q tm h nx :=
  W.loop Inv (fun n tm h nx hi => WI.mono (hw n tm h nx hi) fun e tm h nx hq => by cases e <;> exact hq) hi
theorem W.unroll {c : PCode} (h1 : W C c (seqPost (W C (.loop c) Q) Q) tm h nx) : W C (.loop c) Q tm h nx := by
  intro af k cs m1 m2
  refine .step (m' := ⟨{ af with tm := tm, todo := .code c :: .inLoop c :: k }, cs, h, nx⟩) (step_run m1 rfl) ((h1 af (.inLoop c :: k) cs m1 m2).bind ?_)
  rintro m ⟨e, tm', h', nx', fr, q, ha, rfl⟩
  cases e with
  | norm =>
    cases ha
    have q2 : WI C (.inLoop c) Q tm' h' nx' := WI.same (y := .code (.loop c)) (fun id e => by cases e) (fun _ _ _ _ => rfl) q
    refine (q2 { af with tm := tm' } k cs m1 m2).mono ?_
    rintro m ⟨e2, tm2, hh2, nx2, fr2, q2, a2, t2⟩
    refine ⟨e2, tm2, hh2, nx2, fr2, q2, ?_, t2⟩
    cases e2 <;> exact a2
  | ret => exact .now ⟨.ret, tm', h', nx', fr, q, ha, rfl⟩
  | exit id =>
    obtain ⟨k2, e1, e2⟩ := ha
    exact .now ⟨.exit id, tm', h', nx', fr, q, ⟨k2, e1, e2⟩, rfl⟩
  | pan a => exact .now ⟨.pan a, tm', h', nx', fr, q, ha, rfl⟩
theorem W.of {c : PCode} (h1 : wpC C c Q tm h nx) : W C c Q tm h nx := wpC_sound h1
end

@[simp] theorem frzL_frz {R : Type} (l : List AV) (h : T Blk) (c : List AV → T Blk → R) : frzL (frz 8) l h c = c (frzLA (frzA 8) l h).1 (frzLA (frzA 8) l h).2 := frzL_eq (frz_eq 8) l h c
attribute [simp] appendTo repL_eq

@[simp] theorem adAt_nil (i : Nat) : adAt i [] = [] := rfl
@[simp] theorem adAt_cons (i j : Nat) (l : List Nat) (r : List (Nat × List Nat)) : adAt i ((j, l) :: r) = if i = j then l else adAt i r := by simp [adAt]
@[simp] theorem viewH_nil (p : List (Nat × Key × Blk)) (h : T Blk) : viewH [] p h = h := rfl
@[simp] theorem viewH_cons (a : Nat) (l : List Nat) (p : List (Nat × Key × Blk)) (h : T Blk) : viewH (a :: l) p h = adoptH (p.filter fun x => memN x.1 (a :: l)) h := by
  show adopt (a :: l) p h (fun _ h => h) = _
  rw [adopt_eq]
end Go.Sx
/-
  SX: slots by name. No condition.
-/
namespace Go.Sx
theorem mkK {k : Key} {n : Nat} (h : Key.beq k (K n) = true) : k = K n := Key.eq_of_beq h
def k0 : Key := .z
def k1 : Key := .o k0
def k2 : Key := .e k0
def k3 : Key := .o k1
def k4 : Key := .e k1
def k5 : Key := .o k2
def k6 : Key := .e k2
def k7 : Key := .o k3
def k8 : Key := .e k3
def k9 : Key := .o k4
def k10 : Key := .e k4
def k11 : Key := .o k5
def k12 : Key := .e k5
def k13 : Key := .o k6
def k14 : Key := .e k6
def k15 : Key := .o k7
def k16 : Key := .e k7
def k17 : Key := .o k8
def k18 : Key := .e k8
def k19 : Key := .o k9
def k20 : Key := .e k9
def k21 : Key := .o k10
def k22 : Key := .e k10
def k23 : Key := .o k11
def k24 : Key := .e k11
def k25 : Key := .o k12
def k26 : Key := .e k12
def k27 : Key := .o k13
def k28 : Key := .e k13
def k29 : Key := .o k14
def k30 : Key := .e k14
def k31 : Key := .o k15
def k32 : Key := .e k15
def k33 : Key := .o k16
def k34 : Key := .e k16
def k35 : Key := .o k17
def k36 : Key := .e k17
def k37 : Key := .o k18
def k38 : Key := .e k18
def k39 : Key := .o k19
def k40 : Key := .e k19
def k41 : Key := .o k20
def k42 : Key := .e k20
def k43 : Key := .o k21
def k44 : Key := .e k21
def k45 : Key := .o k22
def k46 : Key := .e k22
def k47 : Key := .o k23
def k48 : Key := .e k23
def k49 : Key := .o k24
def k50 : Key := .e k24
def k51 : Key := .o k25
def k52 : Key := .e k25
def k53 : Key := .o k26
def k54 : Key := .e k26
def k55 : Key := .o k27
def k56 : Key := .e k27
def k57 : Key := .o k28
def k58 : Key := .e k28
def k59 : Key := .o k29
def k60 : Key := .e k29
def k61 : Key := .o k30
def k62 : Key := .e k30
def k63 : Key := .o k31
def k64 : Key := .e k31
def k65 : Key := .o k32
def k66 : Key := .e k32
def k67 : Key := .o k33
def k68 : Key := .e k33
def k69 : Key := .o k34
def k70 : Key := .e k34
def k71 : Key := .o k35
def k72 : Key := .e k35
def k73 : Key := .o k36
def k74 : Key := .e k36
def k75 : Key := .o k37
def k76 : Key := .e k37
def k77 : Key := .o k38
def k78 : Key := .e k38
def k79 : Key := .o k39
def k80 : Key := .e k39
def k81 : Key := .o k40
def k82 : Key := .e k40
def k83 : Key := .o k41
def k84 : Key := .e k41
def k85 : Key := .o k42
def k86 : Key := .e k42
def k87 : Key := .o k43
def k88 : Key := .e k43
def k89 : Key := .o k44
def k90 : Key := .e k44
def k91 : Key := .o k45
def k92 : Key := .e k45
def k93 : Key := .o k46
def k94 : Key := .e k46
def k95 : Key := .o k47
def k96 : Key := .e k47
def k97 : Key := .o k48
def k98 : Key := .e k48
def k99 : Key := .o k49
def k100 : Key := .e k49
def k101 : Key := .o k50
def k102 : Key := .e k50
def k103 : Key := .o k51
def k104 : Key := .e k51
def k105 : Key := .o k52
def k106 : Key := .e k52
def k107 : Key := .o k53
def k108 : Key := .e k53
def k109 : Key := .o k54
def k110 : Key := .e k54
def k111 : Key := .o k55
def k112 : Key := .e k55
def k113 : Key := .o k56
def k114 : Key := .e k56
def k115 : Key := .o k57
def k116 : Key := .e k57
def k117 : Key := .o k58
def k118 : Key := .e k58
def k119 : Key := .o k59
def k120 : Key := .e k59
def k121 : Key := .o k60
def k122 : Key := .e k60
def k123 : Key := .o k61
def k124 : Key := .e k61
def k125 : Key := .o k62
def k126 : Key := .e k62
def k127 : Key := .o k63
def k128 : Key := .e k63
def k129 : Key := .o k64
def k130 : Key := .e k64
def k131 : Key := .o k65
def k132 : Key := .e k65
def k133 : Key := .o k66
def k134 : Key := .e k66
def k135 : Key := .o k67
def k136 : Key := .e k67
def k137 : Key := .o k68
def k138 : Key := .e k68
def k139 : Key := .o k69
def k140 : Key := .e k69
def k141 : Key := .o k70
def k142 : Key := .e k70
def k143 : Key := .o k71
def k144 : Key := .e k71
def k145 : Key := .o k72
def k146 : Key := .e k72
def k147 : Key := .o k73
def k148 : Key := .e k73
def k149 : Key := .o k74
def k150 : Key := .e k74
def k151 : Key := .o k75
def k152 : Key := .e k75
def k153 : Key := .o k76
def k154 : Key := .e k76
def k155 : Key := .o k77
def k156 : Key := .e k77
def k157 : Key := .o k78
def k158 : Key := .e k78
def k159 : Key := .o k79
def k160 : Key := .e k79
def k161 : Key := .o k80
def k162 : Key := .e k80
def k163 : Key := .o k81
def k164 : Key := .e k81
def k165 : Key := .o k82
def k166 : Key := .e k82
def k167 : Key := .o k83
def k168 : Key := .e k83
def k169 : Key := .o k84
def k170 : Key := .e k84
def k171 : Key := .o k85
def k172 : Key := .e k85
def k173 : Key := .o k86
def k174 : Key := .e k86
def k175 : Key := .o k87
def k176 : Key := .e k87
def k177 : Key := .o k88
def k178 : Key := .e k88
def k179 : Key := .o k89
def k180 : Key := .e k89
def k181 : Key := .o k90
def k182 : Key := .e k90
def k183 : Key := .o k91
def k184 : Key := .e k91
def k185 : Key := .o k92
def k186 : Key := .e k92
def k187 : Key := .o k93
def k188 : Key := .e k93
def k189 : Key := .o k94
def k190 : Key := .e k94
def k191 : Key := .o k95
def k192 : Key := .e k95
def k193 : Key := .o k96
def k194 : Key := .e k96
def k195 : Key := .o k97
def k196 : Key := .e k97
def k197 : Key := .o k98
def k198 : Key := .e k98
def k199 : Key := .o k99
def k200 : Key := .e k99
def k201 : Key := .o k100
def k202 : Key := .e k100
def k203 : Key := .o k101
def k204 : Key := .e k101
def k205 : Key := .o k102
def k206 : Key := .e k102
def k207 : Key := .o k103
def k208 : Key := .e k103
def k209 : Key := .o k104
def k210 : Key := .e k104
def k211 : Key := .o k105
def k212 : Key := .e k105
def k213 : Key := .o k106
def k214 : Key := .e k106
def k215 : Key := .o k107
def k216 : Key := .e k107
def k217 : Key := .o k108
def k218 : Key := .e k108
def k219 : Key := .o k109
def k220 : Key := .e k109
def k221 : Key := .o k110
def k222 : Key := .e k110
def k223 : Key := .o k111
def k224 : Key := .e k111
def k225 : Key := .o k112
def k226 : Key := .e k112
def k227 : Key := .o k113
def k228 : Key := .e k113
def k229 : Key := .o k114
def k230 : Key := .e k114
def k231 : Key := .o k115
def k232 : Key := .e k115
def k233 : Key := .o k116
def k234 : Key := .e k116
def k235 : Key := .o k117
def k236 : Key := .e k117
def k237 : Key := .o k118
def k238 : Key := .e k118
def k239 : Key := .o k119
def k240 : Key := .e k119
def k241 : Key := .o k120
def k242 : Key := .e k120
def k243 : Key := .o k121
def k244 : Key := .e k121
def k245 : Key := .o k122
def k246 : Key := .e k122
def k247 : Key := .o k123
def k248 : Key := .e k123
def k249 : Key := .o k124
def k250 : Key := .e k124
def k251 : Key := .o k125
def k252 : Key := .e k125
def k253 : Key := .o k126
def k254 : Key := .e k126
def k255 : Key := .o k127
def k256 : Key := .e k127
def k257 : Key := .o k128
def k258 : Key := .e k128
def k259 : Key := .o k129
def k260 : Key := .e k129
def k261 : Key := .o k130
def k262 : Key := .e k130
def k263 : Key := .o k131
def k264 : Key := .e k131
def k265 : Key := .o k132
def k266 : Key := .e k132
def k267 : Key := .o k133
def k268 : Key := .e k133
def k269 : Key := .o k134
def k270 : Key := .e k134
def k271 : Key := .o k135
def k272 : Key := .e k135
def k273 : Key := .o k136
def k274 : Key := .e k136
def k275 : Key := .o k137
def k276 : Key := .e k137
def k277 : Key := .o k138
def k278 : Key := .e k138
def k279 : Key := .o k139
def k280 : Key := .e k139
def k281 : Key := .o k140
def k282 : Key := .e k140
def k283 : Key := .o k141
def k284 : Key := .e k141
def k285 : Key := .o k142
def k286 : Key := .e k142
def k287 : Key := .o k143
def k288 : Key := .e k143
def k289 : Key := .o k144
def k290 : Key := .e k144
def k291 : Key := .o k145
def k292 : Key := .e k145
def k293 : Key := .o k146
def k294 : Key := .e k146
def k295 : Key := .o k147
def k296 : Key := .e k147
def k297 : Key := .o k148
def k298 : Key := .e k148
def k299 : Key := .o k149
def k300 : Key := .e k149
def k301 : Key := .o k150
def k302 : Key := .e k150
def k303 : Key := .o k151
def k304 : Key := .e k151
def k305 : Key := .o k152
def k306 : Key := .e k152
def k307 : Key := .o k153
def k308 : Key := .e k153
def k309 : Key := .o k154
def k310 : Key := .e k154
def k311 : Key := .o k155
def k312 : Key := .e k155
def k313 : Key := .o k156
def k314 : Key := .e k156
def k315 : Key := .o k157
def k316 : Key := .e k157
def k317 : Key := .o k158
def k318 : Key := .e k158
def k319 : Key := .o k159
def k320 : Key := .e k159
def k321 : Key := .o k160
def k322 : Key := .e k160
def k323 : Key := .o k161
def k324 : Key := .e k161
def k325 : Key := .o k162
def k326 : Key := .e k162
def k327 : Key := .o k163
def k328 : Key := .e k163
def k329 : Key := .o k164
def k330 : Key := .e k164
def k331 : Key := .o k165
def k332 : Key := .e k165
def k333 : Key := .o k166
def k334 : Key := .e k166
def k335 : Key := .o k167
def k336 : Key := .e k167
def k337 : Key := .o k168
def k338 : Key := .e k168
def k339 : Key := .o k169
def k340 : Key := .e k169
def k341 : Key := .o k170
def k342 : Key := .e k170
def k343 : Key := .o k171
def k344 : Key := .e k171
def k345 : Key := .o k172
def k346 : Key := .e k172
def k347 : Key := .o k173
def k348 : Key := .e k173
def k349 : Key := .o k174
def k350 : Key := .e k174
def k351 : Key := .o k175
def k352 : Key := .e k175
def k353 : Key := .o k176
def k354 : Key := .e k176
def k355 : Key := .o k177
def k356 : Key := .e k177
def k357 : Key := .o k178
def k358 : Key := .e k178
def k359 : Key := .o k179
def k360 : Key := .e k179
def k361 : Key := .o k180
def k362 : Key := .e k180
def k363 : Key := .o k181
def k364 : Key := .e k181
def k365 : Key := .o k182
def k366 : Key := .e k182
def k367 : Key := .o k183
def k368 : Key := .e k183
def k369 : Key := .o k184
def k370 : Key := .e k184
def k371 : Key := .o k185
def k372 : Key := .e k185
def k373 : Key := .o k186
def k374 : Key := .e k186
def k375 : Key := .o k187
def k376 : Key := .e k187
def k377 : Key := .o k188
def k378 : Key := .e k188
def k379 : Key := .o k189
def k380 : Key := .e k189
def k381 : Key := .o k190
def k382 : Key := .e k190
def k383 : Key := .o k191
def k384 : Key := .e k191
def k385 : Key := .o k192
def k386 : Key := .e k192
def k387 : Key := .o k193
def k388 : Key := .e k193
def k389 : Key := .o k194
def k390 : Key := .e k194
def k391 : Key := .o k195
def k392 : Key := .e k195
def k393 : Key := .o k196
def k394 : Key := .e k196
def k395 : Key := .o k197
def k396 : Key := .e k197
def k397 : Key := .o k198
def k398 : Key := .e k198
def k399 : Key := .o k199
def k400 : Key := .e k199
def k401 : Key := .o k200
def k402 : Key := .e k200
def k403 : Key := .o k201
def k404 : Key := .e k201
def k405 : Key := .o k202
def k406 : Key := .e k202
def k407 : Key := .o k203
def k408 : Key := .e k203
def k409 : Key := .o k204
def k410 : Key := .e k204
def k411 : Key := .o k205
def k412 : Key := .e k205
def k413 : Key := .o k206
def k414 : Key := .e k206
def k415 : Key := .o k207
def k416 : Key := .e k207
def k417 : Key := .o k208
def k418 : Key := .e k208
def k419 : Key := .o k209
def k420 : Key := .e k209
def k421 : Key := .o k210
def k422 : Key := .e k210
def k423 : Key := .o k211
def k424 : Key := .e k211
def k425 : Key := .o k212
def k426 : Key := .e k212
def k427 : Key := .o k213
def k428 : Key := .e k213
def k429 : Key := .o k214
def k430 : Key := .e k214
def k431 : Key := .o k215
def k432 : Key := .e k215
def k433 : Key := .o k216
def k434 : Key := .e k216
def k435 : Key := .o k217
def k436 : Key := .e k217
def k437 : Key := .o k218
def k438 : Key := .e k218
def k439 : Key := .o k219
def k440 : Key := .e k219
def k441 : Key := .o k220
def k442 : Key := .e k220
def k443 : Key := .o k221
def k444 : Key := .e k221
def k445 : Key := .o k222
def k446 : Key := .e k222
def k447 : Key := .o k223
def k448 : Key := .e k223
def k449 : Key := .o k224
def k450 : Key := .e k224
def k451 : Key := .o k225
def k452 : Key := .e k225
def k453 : Key := .o k226
def k454 : Key := .e k226
def k455 : Key := .o k227
def k456 : Key := .e k227
def k457 : Key := .o k228
def k458 : Key := .e k228
def k459 : Key := .o k229
def k460 : Key := .e k229
def k461 : Key := .o k230
def k462 : Key := .e k230
def k463 : Key := .o k231
def k464 : Key := .e k231
def k465 : Key := .o k232
def k466 : Key := .e k232
def k467 : Key := .o k233
def k468 : Key := .e k233
def k469 : Key := .o k234
def k470 : Key := .e k234
def k471 : Key := .o k235
def k472 : Key := .e k235
def k473 : Key := .o k236
def k474 : Key := .e k236
def k475 : Key := .o k237
def k476 : Key := .e k237
def k477 : Key := .o k238
def k478 : Key := .e k238
def k479 : Key := .o k239
def k480 : Key := .e k239
def k481 : Key := .o k240
def k482 : Key := .e k240
def k483 : Key := .o k241
def k484 : Key := .e k241
def k485 : Key := .o k242
def k486 : Key := .e k242
def k487 : Key := .o k243
def k488 : Key := .e k243
def k489 : Key := .o k244
def k490 : Key := .e k244
def k491 : Key := .o k245
def k492 : Key := .e k245
def k493 : Key := .o k246
def k494 : Key := .e k246
def k495 : Key := .o k247
def k496 : Key := .e k247
def k497 : Key := .o k248
def k498 : Key := .e k248
def k499 : Key := .o k249
def k500 : Key := .e k249
def k501 : Key := .o k250
def k502 : Key := .e k250
def k503 : Key := .o k251
def k504 : Key := .e k251
def k505 : Key := .o k252
def k506 : Key := .e k252
def k507 : Key := .o k253
def k508 : Key := .e k253
def k509 : Key := .o k254
def k510 : Key := .e k254
def k511 : Key := .o k255
def k512 : Key := .e k255
def k513 : Key := .o k256
def k514 : Key := .e k256
def k515 : Key := .o k257
def k516 : Key := .e k257
def k517 : Key := .o k258
def k518 : Key := .e k258
def k519 : Key := .o k259
def k520 : Key := .e k259
def k521 : Key := .o k260
def k522 : Key := .e k260
def k523 : Key := .o k261
def k524 : Key := .e k261
def k525 : Key := .o k262
def k526 : Key := .e k262
def k527 : Key := .o k263
def k528 : Key := .e k263
def k529 : Key := .o k264
def k530 : Key := .e k264
def k531 : Key := .o k265
def k532 : Key := .e k265
def k533 : Key := .o k266
def k534 : Key := .e k266
def k535 : Key := .o k267
def k536 : Key := .e k267
def k537 : Key := .o k268
def k538 : Key := .e k268
def k539 : Key := .o k269
def k540 : Key := .e k269
def k541 : Key := .o k270
def k542 : Key := .e k270
def k543 : Key := .o k271
def k544 : Key := .e k271
def k545 : Key := .o k272
def k546 : Key := .e k272
def k547 : Key := .o k273
def k548 : Key := .e k273
def k549 : Key := .o k274
def k550 : Key := .e k274
def k551 : Key := .o k275
def k552 : Key := .e k275
def k553 : Key := .o k276
def k554 : Key := .e k276
def k555 : Key := .o k277
def k556 : Key := .e k277
def k557 : Key := .o k278
def k558 : Key := .e k278
def k559 : Key := .o k279
def k560 : Key := .e k279
def k561 : Key := .o k280
def k562 : Key := .e k280
def k563 : Key := .o k281
def k564 : Key := .e k281
def k565 : Key := .o k282
def k566 : Key := .e k282
def k567 : Key := .o k283
def k568 : Key := .e k283
def k569 : Key := .o k284
def k570 : Key := .e k284
def k571 : Key := .o k285
def k572 : Key := .e k285
def k573 : Key := .o k286
def k574 : Key := .e k286
def k575 : Key := .o k287
def k576 : Key := .e k287
def k577 : Key := .o k288
def k578 : Key := .e k288
def k579 : Key := .o k289
def k580 : Key := .e k289
def k581 : Key := .o k290
def k582 : Key := .e k290
def k583 : Key := .o k291
def k584 : Key := .e k291
def k585 : Key := .o k292
def k586 : Key := .e k292
def k587 : Key := .o k293
def k588 : Key := .e k293
def k589 : Key := .o k294
def k590 : Key := .e k294
def k591 : Key := .o k295
def k592 : Key := .e k295
def k593 : Key := .o k296
def k594 : Key := .e k296
def k595 : Key := .o k297
def k596 : Key := .e k297
def k597 : Key := .o k298
def k598 : Key := .e k298
def k599 : Key := .o k299
def k600 : Key := .e k299
def k601 : Key := .o k300
def k602 : Key := .e k300
def k603 : Key := .o k301
def k604 : Key := .e k301
def k605 : Key := .o k302
def k606 : Key := .e k302
def k607 : Key := .o k303
def k608 : Key := .e k303
def k609 : Key := .o k304
def k610 : Key := .e k304
def k611 : Key := .o k305
def k612 : Key := .e k305
def k613 : Key := .o k306
def k614 : Key := .e k306
def k615 : Key := .o k307
def k616 : Key := .e k307
def k617 : Key := .o k308
def k618 : Key := .e k308
def k619 : Key := .o k309
def k620 : Key := .e k309
def k621 : Key := .o k310
def k622 : Key := .e k310
def k623 : Key := .o k311
def k624 : Key := .e k311
def k625 : Key := .o k312
def k626 : Key := .e k312
def k627 : Key := .o k313
def k628 : Key := .e k313
def k629 : Key := .o k314
def k630 : Key := .e k314
def k631 : Key := .o k315
def k632 : Key := .e k315
def k633 : Key := .o k316
def k634 : Key := .e k316
def k635 : Key := .o k317
def k636 : Key := .e k317
def k637 : Key := .o k318
def k638 : Key := .e k318
def k639 : Key := .o k319
def k640 : Key := .e k319
def k641 : Key := .o k320
def k642 : Key := .e k320
def k643 : Key := .o k321
def k644 : Key := .e k321
def k645 : Key := .o k322
def k646 : Key := .e k322
def k647 : Key := .o k323
def k648 : Key := .e k323
def k649 : Key := .o k324
def k650 : Key := .e k324
def k651 : Key := .o k325
def k652 : Key := .e k325
def k653 : Key := .o k326
def k654 : Key := .e k326
def k655 : Key := .o k327
def k656 : Key := .e k327
def k657 : Key := .o k328
def k658 : Key := .e k328
def k659 : Key := .o k329
def k660 : Key := .e k329
def k661 : Key := .o k330
def k662 : Key := .e k330
def k663 : Key := .o k331
def k664 : Key := .e k331
def k665 : Key := .o k332
def k666 : Key := .e k332
def k667 : Key := .o k333
def k668 : Key := .e k333
def k669 : Key := .o k334
def k670 : Key := .e k334
def k671 : Key := .o k335
def k672 : Key := .e k335
def k673 : Key := .o k336
def k674 : Key := .e k336
def k675 : Key := .o k337
def k676 : Key := .e k337
def k677 : Key := .o k338
def k678 : Key := .e k338
def k679 : Key := .o k339
def k680 : Key := .e k339
def k681 : Key := .o k340
def k682 : Key := .e k340
def k683 : Key := .o k341
def k684 : Key := .e k341
def k685 : Key := .o k342
def k686 : Key := .e k342
def k687 : Key := .o k343
def k688 : Key := .e k343
def k689 : Key := .o k344
def k690 : Key := .e k344
def k691 : Key := .o k345
def k692 : Key := .e k345
def k693 : Key := .o k346
def k694 : Key := .e k346
def k695 : Key := .o k347
def k696 : Key := .e k347
def k697 : Key := .o k348
def k698 : Key := .e k348
def k699 : Key := .o k349
def k700 : Key := .e k349
def k701 : Key := .o k350
def k702 : Key := .e k350
def k703 : Key := .o k351
def k704 : Key := .e k351
def k705 : Key := .o k352
def k706 : Key := .e k352
def k707 : Key := .o k353
def k708 : Key := .e k353
def k709 : Key := .o k354
def k710 : Key := .e k354
def k711 : Key := .o k355
def k712 : Key := .e k355
def k713 : Key := .o k356
def k714 : Key := .e k356
def k715 : Key := .o k357
def k716 : Key := .e k357
def k717 : Key := .o k358
def k718 : Key := .e k358
def k719 : Key := .o k359
def k720 : Key := .e k359
def k721 : Key := .o k360
def k722 : Key := .e k360
def k723 : Key := .o k361
def k724 : Key := .e k361
def k725 : Key := .o k362
def k726 : Key := .e k362
def k727 : Key := .o k363
def k728 : Key := .e k363
def k729 : Key := .o k364
def k730 : Key := .e k364
def k731 : Key := .o k365
def k732 : Key := .e k365
def k733 : Key := .o k366
def k734 : Key := .e k366
def k735 : Key := .o k367
def k736 : Key := .e k367
def k737 : Key := .o k368
def k738 : Key := .e k368
def k739 : Key := .o k369
def k740 : Key := .e k369
def k741 : Key := .o k370
def k742 : Key := .e k370
def k743 : Key := .o k371
def k744 : Key := .e k371
def k745 : Key := .o k372
def k746 : Key := .e k372
def k747 : Key := .o k373
def k748 : Key := .e k373
def k749 : Key := .o k374
def k750 : Key := .e k374
def k751 : Key := .o k375
def k752 : Key := .e k375
def k753 : Key := .o k376
def k754 : Key := .e k376
def k755 : Key := .o k377
def k756 : Key := .e k377
def k757 : Key := .o k378
def k758 : Key := .e k378
def k759 : Key := .o k379
def k760 : Key := .e k379
def k761 : Key := .o k380
def k762 : Key := .e k380
def k763 : Key := .o k381
def k764 : Key := .e k381
def k765 : Key := .o k382
def k766 : Key := .e k382
def k767 : Key := .o k383
def k768 : Key := .e k383
def k769 : Key := .o k384
def k770 : Key := .e k384
def k771 : Key := .o k385
def k772 : Key := .e k385
def k773 : Key := .o k386
def k774 : Key := .e k386
def k775 : Key := .o k387
def k776 : Key := .e k387
def k777 : Key := .o k388
def k778 : Key := .e k388
def k779 : Key := .o k389
def k780 : Key := .e k389
def k781 : Key := .o k390
def k782 : Key := .e k390
def k783 : Key := .o k391
def k784 : Key := .e k391
def k785 : Key := .o k392
def k786 : Key := .e k392
def k787 : Key := .o k393
def k788 : Key := .e k393
def k789 : Key := .o k394
def k790 : Key := .e k394
def k791 : Key := .o k395
def k792 : Key := .e k395
def k793 : Key := .o k396
def k794 : Key := .e k396
def k795 : Key := .o k397
def k796 : Key := .e k397
def k797 : Key := .o k398
def k798 : Key := .e k398
def k799 : Key := .o k399
@[simp] theorem k0_K : k0 = K 0 := mkK rfl
@[simp] theorem k1_K : k1 = K 1 := mkK rfl
@[simp] theorem k2_K : k2 = K 2 := mkK rfl
@[simp] theorem k3_K : k3 = K 3 := mkK rfl
@[simp] theorem k4_K : k4 = K 4 := mkK rfl
@[simp] theorem k5_K : k5 = K 5 := mkK rfl
@[simp] theorem k6_K : k6 = K 6 := mkK rfl
@[simp] theorem k7_K : k7 = K 7 := mkK rfl
@[simp] theorem k8_K : k8 = K 8 := mkK rfl
@[simp] theorem k9_K : k9 = K 9 := mkK rfl
@[simp] theorem k10_K : k10 = K 10 := mkK rfl
@[simp] theorem k11_K : k11 = K 11 := mkK rfl
@[simp] theorem k12_K : k12 = K 12 := mkK rfl
@[simp] theorem k13_K : k13 = K 13 := mkK rfl
@[simp] theorem k14_K : k14 = K 14 := mkK rfl
@[simp] theorem k15_K : k15 = K 15 := mkK rfl
@[simp] theorem k16_K : k16 = K 16 := mkK rfl
@[simp] theorem k17_K : k17 = K 17 := mkK rfl
@[simp] theorem k18_K : k18 = K 18 := mkK rfl
@[simp] theorem k19_K : k19 = K 19 := mkK rfl
@[simp] theorem k20_K : k20 = K 20 := mkK rfl
@[simp] theorem k21_K : k21 = K 21 := mkK rfl
@[simp] theorem k22_K : k22 = K 22 := mkK rfl
@[simp] theorem k23_K : k23 = K 23 := mkK rfl
@[simp] theorem k24_K : k24 = K 24 := mkK rfl
@[simp] theorem k25_K : k25 = K 25 := mkK rfl
@[simp] theorem k26_K : k26 = K 26 := mkK rfl
@[simp] theorem k27_K : k27 = K 27 := mkK rfl
@[simp] theorem k28_K : k28 = K 28 := mkK rfl
@[simp] theorem k29_K : k29 = K 29 := mkK rfl
@[simp] theorem k30_K : k30 = K 30 := mkK rfl
@[simp] theorem k31_K : k31 = K 31 := mkK rfl
@[simp] theorem k32_K : k32 = K 32 := mkK rfl
@[simp] theorem k33_K : k33 = K 33 := mkK rfl
@[simp] theorem k34_K : k34 = K 34 := mkK rfl
@[simp] theorem k35_K : k35 = K 35 := mkK rfl
@[simp] theorem k36_K : k36 = K 36 := mkK rfl
@[simp] theorem k37_K : k37 = K 37 := mkK rfl
@[simp] theorem k38_K : k38 = K 38 := mkK rfl
@[simp] theorem k39_K : k39 = K 39 := mkK rfl
@[simp] theorem k40_K : k40 = K 40 := mkK rfl
@[simp] theorem k41_K : k41 = K 41 := mkK rfl
@[simp] theorem k42_K : k42 = K 42 := mkK rfl
@[simp] theorem k43_K : k43 = K 43 := mkK rfl
@[simp] theorem k44_K : k44 = K 44 := mkK rfl
@[simp] theorem k45_K : k45 = K 45 := mkK rfl
@[simp] theorem k46_K : k46 = K 46 := mkK rfl
@[simp] theorem k47_K : k47 = K 47 := mkK rfl
@[simp] theorem k48_K : k48 = K 48 := mkK rfl
@[simp] theorem k49_K : k49 = K 49 := mkK rfl
@[simp] theorem k50_K : k50 = K 50 := mkK rfl
@[simp] theorem k51_K : k51 = K 51 := mkK rfl
@[simp] theorem k52_K : k52 = K 52 := mkK rfl
@[simp] theorem k53_K : k53 = K 53 := mkK rfl
@[simp] theorem k54_K : k54 = K 54 := mkK rfl
@[simp] theorem k55_K : k55 = K 55 := mkK rfl
@[simp] theorem k56_K : k56 = K 56 := mkK rfl
@[simp] theorem k57_K : k57 = K 57 := mkK rfl
@[simp] theorem k58_K : k58 = K 58 := mkK rfl
@[simp] theorem k59_K : k59 = K 59 := mkK rfl
@[simp] theorem k60_K : k60 = K 60 := mkK rfl
@[simp] theorem k61_K : k61 = K 61 := mkK rfl
@[simp] theorem k62_K : k62 = K 62 := mkK rfl
@[simp] theorem k63_K : k63 = K 63 := mkK rfl
@[simp] theorem k64_K : k64 = K 64 := mkK rfl
@[simp] theorem k65_K : k65 = K 65 := mkK rfl
@[simp] theorem k66_K : k66 = K 66 := mkK rfl
@[simp] theorem k67_K : k67 = K 67 := mkK rfl
@[simp] theorem k68_K : k68 = K 68 := mkK rfl
@[simp] theorem k69_K : k69 = K 69 := mkK rfl
@[simp] theorem k70_K : k70 = K 70 := mkK rfl
@[simp] theorem k71_K : k71 = K 71 := mkK rfl
@[simp] theorem k72_K : k72 = K 72 := mkK rfl
@[simp] theorem k73_K : k73 = K 73 := mkK rfl
@[simp] theorem k74_K : k74 = K 74 := mkK rfl
@[simp] theorem k75_K : k75 = K 75 := mkK rfl
@[simp] theorem k76_K : k76 = K 76 := mkK rfl
@[simp] theorem k77_K : k77 = K 77 := mkK rfl
@[simp] theorem k78_K : k78 = K 78 := mkK rfl
@[simp] theorem k79_K : k79 = K 79 := mkK rfl
@[simp] theorem k80_K : k80 = K 80 := mkK rfl
@[simp] theorem k81_K : k81 = K 81 := mkK rfl
@[simp] theorem k82_K : k82 = K 82 := mkK rfl
@[simp] theorem k83_K : k83 = K 83 := mkK rfl
@[simp] theorem k84_K : k84 = K 84 := mkK rfl
@[simp] theorem k85_K : k85 = K 85 := mkK rfl
@[simp] theorem k86_K : k86 = K 86 := mkK rfl
@[simp] theorem k87_K : k87 = K 87 := mkK rfl
@[simp] theorem k88_K : k88 = K 88 := mkK rfl
@[simp] theorem k89_K : k89 = K 89 := mkK rfl
@[simp] theorem k90_K : k90 = K 90 := mkK rfl
@[simp] theorem k91_K : k91 = K 91 := mkK rfl
@[simp] theorem k92_K : k92 = K 92 := mkK rfl
@[simp] theorem k93_K : k93 = K 93 := mkK rfl
@[simp] theorem k94_K : k94 = K 94 := mkK rfl
@[simp] theorem k95_K : k95 = K 95 := mkK rfl
@[simp] theorem k96_K : k96 = K 96 := mkK rfl
@[simp] theorem k97_K : k97 = K 97 := mkK rfl
@[simp] theorem k98_K : k98 = K 98 := mkK rfl
@[simp] theorem k99_K : k99 = K 99 := mkK rfl
@[simp] theorem k100_K : k100 = K 100 := mkK rfl
@[simp] theorem k101_K : k101 = K 101 := mkK rfl
@[simp] theorem k102_K : k102 = K 102 := mkK rfl
@[simp] theorem k103_K : k103 = K 103 := mkK rfl
@[simp] theorem k104_K : k104 = K 104 := mkK rfl
@[simp] theorem k105_K : k105 = K 105 := mkK rfl
@[simp] theorem k106_K : k106 = K 106 := mkK rfl
@[simp] theorem k107_K : k107 = K 107 := mkK rfl
@[simp] theorem k108_K : k108 = K 108 := mkK rfl
@[simp] theorem k109_K : k109 = K 109 := mkK rfl
@[simp] theorem k110_K : k110 = K 110 := mkK rfl
@[simp] theorem k111_K : k111 = K 111 := mkK rfl
@[simp] theorem k112_K : k112 = K 112 := mkK rfl
@[simp] theorem k113_K : k113 = K 113 := mkK rfl
@[simp] theorem k114_K : k114 = K 114 := mkK rfl
@[simp] theorem k115_K : k115 = K 115 := mkK rfl
@[simp] theorem k116_K : k116 = K 116 := mkK rfl
@[simp] theorem k117_K : k117 = K 117 := mkK rfl
@[simp] theorem k118_K : k118 = K 118 := mkK rfl
@[simp] theorem k119_K : k119 = K 119 := mkK rfl
@[simp] theorem k120_K : k120 = K 120 := mkK rfl
@[simp] theorem k121_K : k121 = K 121 := mkK rfl
@[simp] theorem k122_K : k122 = K 122 := mkK rfl
@[simp] theorem k123_K : k123 = K 123 := mkK rfl
@[simp] theorem k124_K : k124 = K 124 := mkK rfl
@[simp] theorem k125_K : k125 = K 125 := mkK rfl
@[simp] theorem k126_K : k126 = K 126 := mkK rfl
@[simp] theorem k127_K : k127 = K 127 := mkK rfl
@[simp] theorem k128_K : k128 = K 128 := mkK rfl
@[simp] theorem k129_K : k129 = K 129 := mkK rfl
@[simp] theorem k130_K : k130 = K 130 := mkK rfl
@[simp] theorem k131_K : k131 = K 131 := mkK rfl
@[simp] theorem k132_K : k132 = K 132 := mkK rfl
@[simp] theorem k133_K : k133 = K 133 := mkK rfl
@[simp] theorem k134_K : k134 = K 134 := mkK rfl
@[simp] theorem k135_K : k135 = K 135 := mkK rfl
@[simp] theorem k136_K : k136 = K 136 := mkK rfl
@[simp] theorem k137_K : k137 = K 137 := mkK rfl
@[simp] theorem k138_K : k138 = K 138 := mkK rfl
@[simp] theorem k139_K : k139 = K 139 := mkK rfl
@[simp] theorem k140_K : k140 = K 140 := mkK rfl
@[simp] theorem k141_K : k141 = K 141 := mkK rfl
@[simp] theorem k142_K : k142 = K 142 := mkK rfl
@[simp] theorem k143_K : k143 = K 143 := mkK rfl
@[simp] theorem k144_K : k144 = K 144 := mkK rfl
@[simp] theorem k145_K : k145 = K 145 := mkK rfl
@[simp] theorem k146_K : k146 = K 146 := mkK rfl
@[simp] theorem k147_K : k147 = K 147 := mkK rfl
@[simp] theorem k148_K : k148 = K 148 := mkK rfl
@[simp] theorem k149_K : k149 = K 149 := mkK rfl
@[simp] theorem k150_K : k150 = K 150 := mkK rfl
@[simp] theorem k151_K : k151 = K 151 := mkK rfl
@[simp] theorem k152_K : k152 = K 152 := mkK rfl
@[simp] theorem k153_K : k153 = K 153 := mkK rfl
@[simp] theorem k154_K : k154 = K 154 := mkK rfl
@[simp] theorem k155_K : k155 = K 155 := mkK rfl
@[simp] theorem k156_K : k156 = K 156 := mkK rfl
@[simp] theorem k157_K : k157 = K 157 := mkK rfl
@[simp] theorem k158_K : k158 = K 158 := mkK rfl
@[simp] theorem k159_K : k159 = K 159 := mkK rfl
@[simp] theorem k160_K : k160 = K 160 := mkK rfl
@[simp] theorem k161_K : k161 = K 161 := mkK rfl
@[simp] theorem k162_K : k162 = K 162 := mkK rfl
@[simp] theorem k163_K : k163 = K 163 := mkK rfl
@[simp] theorem k164_K : k164 = K 164 := mkK rfl
@[simp] theorem k165_K : k165 = K 165 := mkK rfl
@[simp] theorem k166_K : k166 = K 166 := mkK rfl
@[simp] theorem k167_K : k167 = K 167 := mkK rfl
@[simp] theorem k168_K : k168 = K 168 := mkK rfl
@[simp] theorem k169_K : k169 = K 169 := mkK rfl
@[simp] theorem k170_K : k170 = K 170 := mkK rfl
@[simp] theorem k171_K : k171 = K 171 := mkK rfl
@[simp] theorem k172_K : k172 = K 172 := mkK rfl
@[simp] theorem k173_K : k173 = K 173 := mkK rfl
@[simp] theorem k174_K : k174 = K 174 := mkK rfl
@[simp] theorem k175_K : k175 = K 175 := mkK rfl
@[simp] theorem k176_K : k176 = K 176 := mkK rfl
@[simp] theorem k177_K : k177 = K 177 := mkK rfl
@[simp] theorem k178_K : k178 = K 178 := mkK rfl
@[simp] theorem k179_K : k179 = K 179 := mkK rfl
@[simp] theorem k180_K : k180 = K 180 := mkK rfl
@[simp] theorem k181_K : k181 = K 181 := mkK rfl
@[simp] theorem k182_K : k182 = K 182 := mkK rfl
@[simp] theorem k183_K : k183 = K 183 := mkK rfl
@[simp] theorem k184_K : k184 = K 184 := mkK rfl
@[simp] theorem k185_K : k185 = K 185 := mkK rfl
@[simp] theorem k186_K : k186 = K 186 := mkK rfl
@[simp] theorem k187_K : k187 = K 187 := mkK rfl
@[simp] theorem k188_K : k188 = K 188 := mkK rfl
@[simp] theorem k189_K : k189 = K 189 := mkK rfl
@[simp] theorem k190_K : k190 = K 190 := mkK rfl
@[simp] theorem k191_K : k191 = K 191 := mkK rfl
@[simp] theorem k192_K : k192 = K 192 := mkK rfl
@[simp] theorem k193_K : k193 = K 193 := mkK rfl
@[simp] theorem k194_K : k194 = K 194 := mkK rfl
@[simp] theorem k195_K : k195 = K 195 := mkK rfl
@[simp] theorem k196_K : k196 = K 196 := mkK rfl
@[simp] theorem k197_K : k197 = K 197 := mkK rfl
@[simp] theorem k198_K : k198 = K 198 := mkK rfl
@[simp] theorem k199_K : k199 = K 199 := mkK rfl
@[simp] theorem k200_K : k200 = K 200 := mkK rfl
@[simp] theorem k201_K : k201 = K 201 := mkK rfl
@[simp] theorem k202_K : k202 = K 202 := mkK rfl
@[simp] theorem k203_K : k203 = K 203 := mkK rfl
@[simp] theorem k204_K : k204 = K 204 := mkK rfl
@[simp] theorem k205_K : k205 = K 205 := mkK rfl
@[simp] theorem k206_K : k206 = K 206 := mkK rfl
@[simp] theorem k207_K : k207 = K 207 := mkK rfl
@[simp] theorem k208_K : k208 = K 208 := mkK rfl
@[simp] theorem k209_K : k209 = K 209 := mkK rfl
@[simp] theorem k210_K : k210 = K 210 := mkK rfl
@[simp] theorem k211_K : k211 = K 211 := mkK rfl
@[simp] theorem k212_K : k212 = K 212 := mkK rfl
@[simp] theorem k213_K : k213 = K 213 := mkK rfl
@[simp] theorem k214_K : k214 = K 214 := mkK rfl
@[simp] theorem k215_K : k215 = K 215 := mkK rfl
@[simp] theorem k216_K : k216 = K 216 := mkK rfl
@[simp] theorem k217_K : k217 = K 217 := mkK rfl
@[simp] theorem k218_K : k218 = K 218 := mkK rfl
@[simp] theorem k219_K : k219 = K 219 := mkK rfl
@[simp] theorem k220_K : k220 = K 220 := mkK rfl
@[simp] theorem k221_K : k221 = K 221 := mkK rfl
@[simp] theorem k222_K : k222 = K 222 := mkK rfl
@[simp] theorem k223_K : k223 = K 223 := mkK rfl
@[simp] theorem k224_K : k224 = K 224 := mkK rfl
@[simp] theorem k225_K : k225 = K 225 := mkK rfl
@[simp] theorem k226_K : k226 = K 226 := mkK rfl
@[simp] theorem k227_K : k227 = K 227 := mkK rfl
@[simp] theorem k228_K : k228 = K 228 := mkK rfl
@[simp] theorem k229_K : k229 = K 229 := mkK rfl
@[simp] theorem k230_K : k230 = K 230 := mkK rfl
@[simp] theorem k231_K : k231 = K 231 := mkK rfl
@[simp] theorem k232_K : k232 = K 232 := mkK rfl
@[simp] theorem k233_K : k233 = K 233 := mkK rfl
@[simp] theorem k234_K : k234 = K 234 := mkK rfl
@[simp] theorem k235_K : k235 = K 235 := mkK rfl
@[simp] theorem k236_K : k236 = K 236 := mkK rfl
@[simp] theorem k237_K : k237 = K 237 := mkK rfl
@[simp] theorem k238_K : k238 = K 238 := mkK rfl
@[simp] theorem k239_K : k239 = K 239 := mkK rfl
@[simp] theorem k240_K : k240 = K 240 := mkK rfl
@[simp] theorem k241_K : k241 = K 241 := mkK rfl
@[simp] theorem k242_K : k242 = K 242 := mkK rfl
@[simp] theorem k243_K : k243 = K 243 := mkK rfl
@[simp] theorem k244_K : k244 = K 244 := mkK rfl
@[simp] theorem k245_K : k245 = K 245 := mkK rfl
@[simp] theorem k246_K : k246 = K 246 := mkK rfl
@[simp] theorem k247_K : k247 = K 247 := mkK rfl
@[simp] theorem k248_K : k248 = K 248 := mkK rfl
@[simp] theorem k249_K : k249 = K 249 := mkK rfl
@[simp] theorem k250_K : k250 = K 250 := mkK rfl
@[simp] theorem k251_K : k251 = K 251 := mkK rfl
@[simp] theorem k252_K : k252 = K 252 := mkK rfl
@[simp] theorem k253_K : k253 = K 253 := mkK rfl
@[simp] theorem k254_K : k254 = K 254 := mkK rfl
@[simp] theorem k255_K : k255 = K 255 := mkK rfl
@[simp] theorem k256_K : k256 = K 256 := mkK rfl
@[simp] theorem k257_K : k257 = K 257 := mkK rfl
@[simp] theorem k258_K : k258 = K 258 := mkK rfl
@[simp] theorem k259_K : k259 = K 259 := mkK rfl
@[simp] theorem k260_K : k260 = K 260 := mkK rfl
@[simp] theorem k261_K : k261 = K 261 := mkK rfl
@[simp] theorem k262_K : k262 = K 262 := mkK rfl
@[simp] theorem k263_K : k263 = K 263 := mkK rfl
@[simp] theorem k264_K : k264 = K 264 := mkK rfl
@[simp] theorem k265_K : k265 = K 265 := mkK rfl
@[simp] theorem k266_K : k266 = K 266 := mkK rfl
@[simp] theorem k267_K : k267 = K 267 := mkK rfl
@[simp] theorem k268_K : k268 = K 268 := mkK rfl
@[simp] theorem k269_K : k269 = K 269 := mkK rfl
@[simp] theorem k270_K : k270 = K 270 := mkK rfl
@[simp] theorem k271_K : k271 = K 271 := mkK rfl
@[simp] theorem k272_K : k272 = K 272 := mkK rfl
@[simp] theorem k273_K : k273 = K 273 := mkK rfl
@[simp] theorem k274_K : k274 = K 274 := mkK rfl
@[simp] theorem k275_K : k275 = K 275 := mkK rfl
@[simp] theorem k276_K : k276 = K 276 := mkK rfl
@[simp] theorem k277_K : k277 = K 277 := mkK rfl
@[simp] theorem k278_K : k278 = K 278 := mkK rfl
@[simp] theorem k279_K : k279 = K 279 := mkK rfl
@[simp] theorem k280_K : k280 = K 280 := mkK rfl
@[simp] theorem k281_K : k281 = K 281 := mkK rfl
@[simp] theorem k282_K : k282 = K 282 := mkK rfl
@[simp] theorem k283_K : k283 = K 283 := mkK rfl
@[simp] theorem k284_K : k284 = K 284 := mkK rfl
@[simp] theorem k285_K : k285 = K 285 := mkK rfl
@[simp] theorem k286_K : k286 = K 286 := mkK rfl
@[simp] theorem k287_K : k287 = K 287 := mkK rfl
@[simp] theorem k288_K : k288 = K 288 := mkK rfl
@[simp] theorem k289_K : k289 = K 289 := mkK rfl
@[simp] theorem k290_K : k290 = K 290 := mkK rfl
@[simp] theorem k291_K : k291 = K 291 := mkK rfl
@[simp] theorem k292_K : k292 = K 292 := mkK rfl
@[simp] theorem k293_K : k293 = K 293 := mkK rfl
@[simp] theorem k294_K : k294 = K 294 := mkK rfl
@[simp] theorem k295_K : k295 = K 295 := mkK rfl
@[simp] theorem k296_K : k296 = K 296 := mkK rfl
@[simp] theorem k297_K : k297 = K 297 := mkK rfl
@[simp] theorem k298_K : k298 = K 298 := mkK rfl
@[simp] theorem k299_K : k299 = K 299 := mkK rfl
@[simp] theorem k300_K : k300 = K 300 := mkK rfl
@[simp] theorem k301_K : k301 = K 301 := mkK rfl
@[simp] theorem k302_K : k302 = K 302 := mkK rfl
@[simp] theorem k303_K : k303 = K 303 := mkK rfl
@[simp] theorem k304_K : k304 = K 304 := mkK rfl
@[simp] theorem k305_K : k305 = K 305 := mkK rfl
@[simp] theorem k306_K : k306 = K 306 := mkK rfl
@[simp] theorem k307_K : k307 = K 307 := mkK rfl
@[simp] theorem k308_K : k308 = K 308 := mkK rfl
@[simp] theorem k309_K : k309 = K 309 := mkK rfl
@[simp] theorem k310_K : k310 = K 310 := mkK rfl
@[simp] theorem k311_K : k311 = K 311 := mkK rfl
@[simp] theorem k312_K : k312 = K 312 := mkK rfl
@[simp] theorem k313_K : k313 = K 313 := mkK rfl
@[simp] theorem k314_K : k314 = K 314 := mkK rfl
@[simp] theorem k315_K : k315 = K 315 := mkK rfl
@[simp] theorem k316_K : k316 = K 316 := mkK rfl
@[simp] theorem k317_K : k317 = K 317 := mkK rfl
@[simp] theorem k318_K : k318 = K 318 := mkK rfl
@[simp] theorem k319_K : k319 = K 319 := mkK rfl
@[simp] theorem k320_K : k320 = K 320 := mkK rfl
@[simp] theorem k321_K : k321 = K 321 := mkK rfl
@[simp] theorem k322_K : k322 = K 322 := mkK rfl
@[simp] theorem k323_K : k323 = K 323 := mkK rfl
@[simp] theorem k324_K : k324 = K 324 := mkK rfl
@[simp] theorem k325_K : k325 = K 325 := mkK rfl
@[simp] theorem k326_K : k326 = K 326 := mkK rfl
@[simp] theorem k327_K : k327 = K 327 := mkK rfl
@[simp] theorem k328_K : k328 = K 328 := mkK rfl
@[simp] theorem k329_K : k329 = K 329 := mkK rfl
@[simp] theorem k330_K : k330 = K 330 := mkK rfl
@[simp] theorem k331_K : k331 = K 331 := mkK rfl
@[simp] theorem k332_K : k332 = K 332 := mkK rfl
@[simp] theorem k333_K : k333 = K 333 := mkK rfl
@[simp] theorem k334_K : k334 = K 334 := mkK rfl
@[simp] theorem k335_K : k335 = K 335 := mkK rfl
@[simp] theorem k336_K : k336 = K 336 := mkK rfl
@[simp] theorem k337_K : k337 = K 337 := mkK rfl
@[simp] theorem k338_K : k338 = K 338 := mkK rfl
@[simp] theorem k339_K : k339 = K 339 := mkK rfl
@[simp] theorem k340_K : k340 = K 340 := mkK rfl
@[simp] theorem k341_K : k341 = K 341 := mkK rfl
@[simp] theorem k342_K : k342 = K 342 := mkK rfl
@[simp] theorem k343_K : k343 = K 343 := mkK rfl
@[simp] theorem k344_K : k344 = K 344 := mkK rfl
@[simp] theorem k345_K : k345 = K 345 := mkK rfl
@[simp] theorem k346_K : k346 = K 346 := mkK rfl
@[simp] theorem k347_K : k347 = K 347 := mkK rfl
@[simp] theorem k348_K : k348 = K 348 := mkK rfl
@[simp] theorem k349_K : k349 = K 349 := mkK rfl
@[simp] theorem k350_K : k350 = K 350 := mkK rfl
@[simp] theorem k351_K : k351 = K 351 := mkK rfl
@[simp] theorem k352_K : k352 = K 352 := mkK rfl
@[simp] theorem k353_K : k353 = K 353 := mkK rfl
@[simp] theorem k354_K : k354 = K 354 := mkK rfl
@[simp] theorem k355_K : k355 = K 355 := mkK rfl
@[simp] theorem k356_K : k356 = K 356 := mkK rfl
@[simp] theorem k357_K : k357 = K 357 := mkK rfl
@[simp] theorem k358_K : k358 = K 358 := mkK rfl
@[simp] theorem k359_K : k359 = K 359 := mkK rfl
@[simp] theorem k360_K : k360 = K 360 := mkK rfl
@[simp] theorem k361_K : k361 = K 361 := mkK rfl
@[simp] theorem k362_K : k362 = K 362 := mkK rfl
@[simp] theorem k363_K : k363 = K 363 := mkK rfl
@[simp] theorem k364_K : k364 = K 364 := mkK rfl
@[simp] theorem k365_K : k365 = K 365 := mkK rfl
@[simp] theorem k366_K : k366 = K 366 := mkK rfl
@[simp] theorem k367_K : k367 = K 367 := mkK rfl
@[simp] theorem k368_K : k368 = K 368 := mkK rfl
@[simp] theorem k369_K : k369 = K 369 := mkK rfl
@[simp] theorem k370_K : k370 = K 370 := mkK rfl
@[simp] theorem k371_K : k371 = K 371 := mkK rfl
@[simp] theorem k372_K : k372 = K 372 := mkK rfl
@[simp] theorem k373_K : k373 = K 373 := mkK rfl
@[simp] theorem k374_K : k374 = K 374 := mkK rfl
@[simp] theorem k375_K : k375 = K 375 := mkK rfl
@[simp] theorem k376_K : k376 = K 376 := mkK rfl
@[simp] theorem k377_K : k377 = K 377 := mkK rfl
@[simp] theorem k378_K : k378 = K 378 := mkK rfl
@[simp] theorem k379_K : k379 = K 379 := mkK rfl
@[simp] theorem k380_K : k380 = K 380 := mkK rfl
@[simp] theorem k381_K : k381 = K 381 := mkK rfl
@[simp] theorem k382_K : k382 = K 382 := mkK rfl
@[simp] theorem k383_K : k383 = K 383 := mkK rfl
@[simp] theorem k384_K : k384 = K 384 := mkK rfl
@[simp] theorem k385_K : k385 = K 385 := mkK rfl
@[simp] theorem k386_K : k386 = K 386 := mkK rfl
@[simp] theorem k387_K : k387 = K 387 := mkK rfl
@[simp] theorem k388_K : k388 = K 388 := mkK rfl
@[simp] theorem k389_K : k389 = K 389 := mkK rfl
@[simp] theorem k390_K : k390 = K 390 := mkK rfl
@[simp] theorem k391_K : k391 = K 391 := mkK rfl
@[simp] theorem k392_K : k392 = K 392 := mkK rfl
@[simp] theorem k393_K : k393 = K 393 := mkK rfl
@[simp] theorem k394_K : k394 = K 394 := mkK rfl
@[simp] theorem k395_K : k395 = K 395 := mkK rfl
@[simp] theorem k396_K : k396 = K 396 := mkK rfl
@[simp] theorem k397_K : k397 = K 397 := mkK rfl
@[simp] theorem k398_K : k398 = K 398 := mkK rfl
@[simp] theorem k399_K : k399 = K 399 := mkK rfl
@[simp] theorem k400_K : k400 = K 400 := mkK rfl
@[simp] theorem k401_K : k401 = K 401 := mkK rfl
@[simp] theorem k402_K : k402 = K 402 := mkK rfl
@[simp] theorem k403_K : k403 = K 403 := mkK rfl
@[simp] theorem k404_K : k404 = K 404 := mkK rfl
@[simp] theorem k405_K : k405 = K 405 := mkK rfl
@[simp] theorem k406_K : k406 = K 406 := mkK rfl
@[simp] theorem k407_K : k407 = K 407 := mkK rfl
@[simp] theorem k408_K : k408 = K 408 := mkK rfl
@[simp] theorem k409_K : k409 = K 409 := mkK rfl
@[simp] theorem k410_K : k410 = K 410 := mkK rfl
@[simp] theorem k411_K : k411 = K 411 := mkK rfl
@[simp] theorem k412_K : k412 = K 412 := mkK rfl
@[simp] theorem k413_K : k413 = K 413 := mkK rfl
@[simp] theorem k414_K : k414 = K 414 := mkK rfl
@[simp] theorem k415_K : k415 = K 415 := mkK rfl
@[simp] theorem k416_K : k416 = K 416 := mkK rfl
@[simp] theorem k417_K : k417 = K 417 := mkK rfl
@[simp] theorem k418_K : k418 = K 418 := mkK rfl
@[simp] theorem k419_K : k419 = K 419 := mkK rfl
@[simp] theorem k420_K : k420 = K 420 := mkK rfl
@[simp] theorem k421_K : k421 = K 421 := mkK rfl
@[simp] theorem k422_K : k422 = K 422 := mkK rfl
@[simp] theorem k423_K : k423 = K 423 := mkK rfl
@[simp] theorem k424_K : k424 = K 424 := mkK rfl
@[simp] theorem k425_K : k425 = K 425 := mkK rfl
@[simp] theorem k426_K : k426 = K 426 := mkK rfl
@[simp] theorem k427_K : k427 = K 427 := mkK rfl
@[simp] theorem k428_K : k428 = K 428 := mkK rfl
@[simp] theorem k429_K : k429 = K 429 := mkK rfl
@[simp] theorem k430_K : k430 = K 430 := mkK rfl
@[simp] theorem k431_K : k431 = K 431 := mkK rfl
@[simp] theorem k432_K : k432 = K 432 := mkK rfl
@[simp] theorem k433_K : k433 = K 433 := mkK rfl
@[simp] theorem k434_K : k434 = K 434 := mkK rfl
@[simp] theorem k435_K : k435 = K 435 := mkK rfl
@[simp] theorem k436_K : k436 = K 436 := mkK rfl
@[simp] theorem k437_K : k437 = K 437 := mkK rfl
@[simp] theorem k438_K : k438 = K 438 := mkK rfl
@[simp] theorem k439_K : k439 = K 439 := mkK rfl
@[simp] theorem k440_K : k440 = K 440 := mkK rfl
@[simp] theorem k441_K : k441 = K 441 := mkK rfl
@[simp] theorem k442_K : k442 = K 442 := mkK rfl
@[simp] theorem k443_K : k443 = K 443 := mkK rfl
@[simp] theorem k444_K : k444 = K 444 := mkK rfl
@[simp] theorem k445_K : k445 = K 445 := mkK rfl
@[simp] theorem k446_K : k446 = K 446 := mkK rfl
@[simp] theorem k447_K : k447 = K 447 := mkK rfl
@[simp] theorem k448_K : k448 = K 448 := mkK rfl
@[simp] theorem k449_K : k449 = K 449 := mkK rfl
@[simp] theorem k450_K : k450 = K 450 := mkK rfl
@[simp] theorem k451_K : k451 = K 451 := mkK rfl
@[simp] theorem k452_K : k452 = K 452 := mkK rfl
@[simp] theorem k453_K : k453 = K 453 := mkK rfl
@[simp] theorem k454_K : k454 = K 454 := mkK rfl
@[simp] theorem k455_K : k455 = K 455 := mkK rfl
@[simp] theorem k456_K : k456 = K 456 := mkK rfl
@[simp] theorem k457_K : k457 = K 457 := mkK rfl
@[simp] theorem k458_K : k458 = K 458 := mkK rfl
@[simp] theorem k459_K : k459 = K 459 := mkK rfl
@[simp] theorem k460_K : k460 = K 460 := mkK rfl
@[simp] theorem k461_K : k461 = K 461 := mkK rfl
@[simp] theorem k462_K : k462 = K 462 := mkK rfl
@[simp] theorem k463_K : k463 = K 463 := mkK rfl
@[simp] theorem k464_K : k464 = K 464 := mkK rfl
@[simp] theorem k465_K : k465 = K 465 := mkK rfl
@[simp] theorem k466_K : k466 = K 466 := mkK rfl
@[simp] theorem k467_K : k467 = K 467 := mkK rfl
@[simp] theorem k468_K : k468 = K 468 := mkK rfl
@[simp] theorem k469_K : k469 = K 469 := mkK rfl
@[simp] theorem k470_K : k470 = K 470 := mkK rfl
@[simp] theorem k471_K : k471 = K 471 := mkK rfl
@[simp] theorem k472_K : k472 = K 472 := mkK rfl
@[simp] theorem k473_K : k473 = K 473 := mkK rfl
@[simp] theorem k474_K : k474 = K 474 := mkK rfl
@[simp] theorem k475_K : k475 = K 475 := mkK rfl
@[simp] theorem k476_K : k476 = K 476 := mkK rfl
@[simp] theorem k477_K : k477 = K 477 := mkK rfl
@[simp] theorem k478_K : k478 = K 478 := mkK rfl
@[simp] theorem k479_K : k479 = K 479 := mkK rfl
@[simp] theorem k480_K : k480 = K 480 := mkK rfl
@[simp] theorem k481_K : k481 = K 481 := mkK rfl
@[simp] theorem k482_K : k482 = K 482 := mkK rfl
@[simp] theorem k483_K : k483 = K 483 := mkK rfl
@[simp] theorem k484_K : k484 = K 484 := mkK rfl
@[simp] theorem k485_K : k485 = K 485 := mkK rfl
@[simp] theorem k486_K : k486 = K 486 := mkK rfl
@[simp] theorem k487_K : k487 = K 487 := mkK rfl
@[simp] theorem k488_K : k488 = K 488 := mkK rfl
@[simp] theorem k489_K : k489 = K 489 := mkK rfl
@[simp] theorem k490_K : k490 = K 490 := mkK rfl
@[simp] theorem k491_K : k491 = K 491 := mkK rfl
@[simp] theorem k492_K : k492 = K 492 := mkK rfl
@[simp] theorem k493_K : k493 = K 493 := mkK rfl
@[simp] theorem k494_K : k494 = K 494 := mkK rfl
@[simp] theorem k495_K : k495 = K 495 := mkK rfl
@[simp] theorem k496_K : k496 = K 496 := mkK rfl
@[simp] theorem k497_K : k497 = K 497 := mkK rfl
@[simp] theorem k498_K : k498 = K 498 := mkK rfl
@[simp] theorem k499_K : k499 = K 499 := mkK rfl
@[simp] theorem k500_K : k500 = K 500 := mkK rfl
@[simp] theorem k501_K : k501 = K 501 := mkK rfl
@[simp] theorem k502_K : k502 = K 502 := mkK rfl
@[simp] theorem k503_K : k503 = K 503 := mkK rfl
@[simp] theorem k504_K : k504 = K 504 := mkK rfl
@[simp] theorem k505_K : k505 = K 505 := mkK rfl
@[simp] theorem k506_K : k506 = K 506 := mkK rfl
@[simp] theorem k507_K : k507 = K 507 := mkK rfl
@[simp] theorem k508_K : k508 = K 508 := mkK rfl
@[simp] theorem k509_K : k509 = K 509 := mkK rfl
@[simp] theorem k510_K : k510 = K 510 := mkK rfl
@[simp] theorem k511_K : k511 = K 511 := mkK rfl
@[simp] theorem k512_K : k512 = K 512 := mkK rfl
@[simp] theorem k513_K : k513 = K 513 := mkK rfl
@[simp] theorem k514_K : k514 = K 514 := mkK rfl
@[simp] theorem k515_K : k515 = K 515 := mkK rfl
@[simp] theorem k516_K : k516 = K 516 := mkK rfl
@[simp] theorem k517_K : k517 = K 517 := mkK rfl
@[simp] theorem k518_K : k518 = K 518 := mkK rfl
@[simp] theorem k519_K : k519 = K 519 := mkK rfl
@[simp] theorem k520_K : k520 = K 520 := mkK rfl
@[simp] theorem k521_K : k521 = K 521 := mkK rfl
@[simp] theorem k522_K : k522 = K 522 := mkK rfl
@[simp] theorem k523_K : k523 = K 523 := mkK rfl
@[simp] theorem k524_K : k524 = K 524 := mkK rfl
@[simp] theorem k525_K : k525 = K 525 := mkK rfl
@[simp] theorem k526_K : k526 = K 526 := mkK rfl
@[simp] theorem k527_K : k527 = K 527 := mkK rfl
@[simp] theorem k528_K : k528 = K 528 := mkK rfl
@[simp] theorem k529_K : k529 = K 529 := mkK rfl
@[simp] theorem k530_K : k530 = K 530 := mkK rfl
@[simp] theorem k531_K : k531 = K 531 := mkK rfl
@[simp] theorem k532_K : k532 = K 532 := mkK rfl
@[simp] theorem k533_K : k533 = K 533 := mkK rfl
@[simp] theorem k534_K : k534 = K 534 := mkK rfl
@[simp] theorem k535_K : k535 = K 535 := mkK rfl
@[simp] theorem k536_K : k536 = K 536 := mkK rfl
@[simp] theorem k537_K : k537 = K 537 := mkK rfl
@[simp] theorem k538_K : k538 = K 538 := mkK rfl
@[simp] theorem k539_K : k539 = K 539 := mkK rfl
@[simp] theorem k540_K : k540 = K 540 := mkK rfl
@[simp] theorem k541_K : k541 = K 541 := mkK rfl
@[simp] theorem k542_K : k542 = K 542 := mkK rfl
@[simp] theorem k543_K : k543 = K 543 := mkK rfl
@[simp] theorem k544_K : k544 = K 544 := mkK rfl
@[simp] theorem k545_K : k545 = K 545 := mkK rfl
@[simp] theorem k546_K : k546 = K 546 := mkK rfl
@[simp] theorem k547_K : k547 = K 547 := mkK rfl
@[simp] theorem k548_K : k548 = K 548 := mkK rfl
@[simp] theorem k549_K : k549 = K 549 := mkK rfl
@[simp] theorem k550_K : k550 = K 550 := mkK rfl
@[simp] theorem k551_K : k551 = K 551 := mkK rfl
@[simp] theorem k552_K : k552 = K 552 := mkK rfl
@[simp] theorem k553_K : k553 = K 553 := mkK rfl
@[simp] theorem k554_K : k554 = K 554 := mkK rfl
@[simp] theorem k555_K : k555 = K 555 := mkK rfl
@[simp] theorem k556_K : k556 = K 556 := mkK rfl
@[simp] theorem k557_K : k557 = K 557 := mkK rfl
@[simp] theorem k558_K : k558 = K 558 := mkK rfl
@[simp] theorem k559_K : k559 = K 559 := mkK rfl
@[simp] theorem k560_K : k560 = K 560 := mkK rfl
@[simp] theorem k561_K : k561 = K 561 := mkK rfl
@[simp] theorem k562_K : k562 = K 562 := mkK rfl
@[simp] theorem k563_K : k563 = K 563 := mkK rfl
@[simp] theorem k564_K : k564 = K 564 := mkK rfl
@[simp] theorem k565_K : k565 = K 565 := mkK rfl
@[simp] theorem k566_K : k566 = K 566 := mkK rfl
@[simp] theorem k567_K : k567 = K 567 := mkK rfl
@[simp] theorem k568_K : k568 = K 568 := mkK rfl
@[simp] theorem k569_K : k569 = K 569 := mkK rfl
@[simp] theorem k570_K : k570 = K 570 := mkK rfl
@[simp] theorem k571_K : k571 = K 571 := mkK rfl
@[simp] theorem k572_K : k572 = K 572 := mkK rfl
@[simp] theorem k573_K : k573 = K 573 := mkK rfl
@[simp] theorem k574_K : k574 = K 574 := mkK rfl
@[simp] theorem k575_K : k575 = K 575 := mkK rfl
@[simp] theorem k576_K : k576 = K 576 := mkK rfl
@[simp] theorem k577_K : k577 = K 577 := mkK rfl
@[simp] theorem k578_K : k578 = K 578 := mkK rfl
@[simp] theorem k579_K : k579 = K 579 := mkK rfl
@[simp] theorem k580_K : k580 = K 580 := mkK rfl
@[simp] theorem k581_K : k581 = K 581 := mkK rfl
@[simp] theorem k582_K : k582 = K 582 := mkK rfl
@[simp] theorem k583_K : k583 = K 583 := mkK rfl
@[simp] theorem k584_K : k584 = K 584 := mkK rfl
@[simp] theorem k585_K : k585 = K 585 := mkK rfl
@[simp] theorem k586_K : k586 = K 586 := mkK rfl
@[simp] theorem k587_K : k587 = K 587 := mkK rfl
@[simp] theorem k588_K : k588 = K 588 := mkK rfl
@[simp] theorem k589_K : k589 = K 589 := mkK rfl
@[simp] theorem k590_K : k590 = K 590 := mkK rfl
@[simp] theorem k591_K : k591 = K 591 := mkK rfl
@[simp] theorem k592_K : k592 = K 592 := mkK rfl
@[simp] theorem k593_K : k593 = K 593 := mkK rfl
@[simp] theorem k594_K : k594 = K 594 := mkK rfl
@[simp] theorem k595_K : k595 = K 595 := mkK rfl
@[simp] theorem k596_K : k596 = K 596 := mkK rfl
@[simp] theorem k597_K : k597 = K 597 := mkK rfl
@[simp] theorem k598_K : k598 = K 598 := mkK rfl
@[simp] theorem k599_K : k599 = K 599 := mkK rfl
@[simp] theorem k600_K : k600 = K 600 := mkK rfl
@[simp] theorem k601_K : k601 = K 601 := mkK rfl
@[simp] theorem k602_K : k602 = K 602 := mkK rfl
@[simp] theorem k603_K : k603 = K 603 := mkK rfl
@[simp] theorem k604_K : k604 = K 604 := mkK rfl
@[simp] theorem k605_K : k605 = K 605 := mkK rfl
@[simp] theorem k606_K : k606 = K 606 := mkK rfl
@[simp] theorem k607_K : k607 = K 607 := mkK rfl
@[simp] theorem k608_K : k608 = K 608 := mkK rfl
@[simp] theorem k609_K : k609 = K 609 := mkK rfl
@[simp] theorem k610_K : k610 = K 610 := mkK rfl
@[simp] theorem k611_K : k611 = K 611 := mkK rfl
@[simp] theorem k612_K : k612 = K 612 := mkK rfl
@[simp] theorem k613_K : k613 = K 613 := mkK rfl
@[simp] theorem k614_K : k614 = K 614 := mkK rfl
@[simp] theorem k615_K : k615 = K 615 := mkK rfl
@[simp] theorem k616_K : k616 = K 616 := mkK rfl
@[simp] theorem k617_K : k617 = K 617 := mkK rfl
@[simp] theorem k618_K : k618 = K 618 := mkK rfl
@[simp] theorem k619_K : k619 = K 619 := mkK rfl
@[simp] theorem k620_K : k620 = K 620 := mkK rfl
@[simp] theorem k621_K : k621 = K 621 := mkK rfl
@[simp] theorem k622_K : k622 = K 622 := mkK rfl
@[simp] theorem k623_K : k623 = K 623 := mkK rfl
@[simp] theorem k624_K : k624 = K 624 := mkK rfl
@[simp] theorem k625_K : k625 = K 625 := mkK rfl
@[simp] theorem k626_K : k626 = K 626 := mkK rfl
@[simp] theorem k627_K : k627 = K 627 := mkK rfl
@[simp] theorem k628_K : k628 = K 628 := mkK rfl
@[simp] theorem k629_K : k629 = K 629 := mkK rfl
@[simp] theorem k630_K : k630 = K 630 := mkK rfl
@[simp] theorem k631_K : k631 = K 631 := mkK rfl
@[simp] theorem k632_K : k632 = K 632 := mkK rfl
@[simp] theorem k633_K : k633 = K 633 := mkK rfl
@[simp] theorem k634_K : k634 = K 634 := mkK rfl
@[simp] theorem k635_K : k635 = K 635 := mkK rfl
@[simp] theorem k636_K : k636 = K 636 := mkK rfl
@[simp] theorem k637_K : k637 = K 637 := mkK rfl
@[simp] theorem k638_K : k638 = K 638 := mkK rfl
@[simp] theorem k639_K : k639 = K 639 := mkK rfl
@[simp] theorem k640_K : k640 = K 640 := mkK rfl
@[simp] theorem k641_K : k641 = K 641 := mkK rfl
@[simp] theorem k642_K : k642 = K 642 := mkK rfl
@[simp] theorem k643_K : k643 = K 643 := mkK rfl
@[simp] theorem k644_K : k644 = K 644 := mkK rfl
@[simp] theorem k645_K : k645 = K 645 := mkK rfl
@[simp] theorem k646_K : k646 = K 646 := mkK rfl
@[simp] theorem k647_K : k647 = K 647 := mkK rfl
@[simp] theorem k648_K : k648 = K 648 := mkK rfl
@[simp] theorem k649_K : k649 = K 649 := mkK rfl
@[simp] theorem k650_K : k650 = K 650 := mkK rfl
@[simp] theorem k651_K : k651 = K 651 := mkK rfl
@[simp] theorem k652_K : k652 = K 652 := mkK rfl
@[simp] theorem k653_K : k653 = K 653 := mkK rfl
@[simp] theorem k654_K : k654 = K 654 := mkK rfl
@[simp] theorem k655_K : k655 = K 655 := mkK rfl
@[simp] theorem k656_K : k656 = K 656 := mkK rfl
@[simp] theorem k657_K : k657 = K 657 := mkK rfl
@[simp] theorem k658_K : k658 = K 658 := mkK rfl
@[simp] theorem k659_K : k659 = K 659 := mkK rfl
@[simp] theorem k660_K : k660 = K 660 := mkK rfl
@[simp] theorem k661_K : k661 = K 661 := mkK rfl
@[simp] theorem k662_K : k662 = K 662 := mkK rfl
@[simp] theorem k663_K : k663 = K 663 := mkK rfl
@[simp] theorem k664_K : k664 = K 664 := mkK rfl
@[simp] theorem k665_K : k665 = K 665 := mkK rfl
@[simp] theorem k666_K : k666 = K 666 := mkK rfl
@[simp] theorem k667_K : k667 = K 667 := mkK rfl
@[simp] theorem k668_K : k668 = K 668 := mkK rfl
@[simp] theorem k669_K : k669 = K 669 := mkK rfl
@[simp] theorem k670_K : k670 = K 670 := mkK rfl
@[simp] theorem k671_K : k671 = K 671 := mkK rfl
@[simp] theorem k672_K : k672 = K 672 := mkK rfl
@[simp] theorem k673_K : k673 = K 673 := mkK rfl
@[simp] theorem k674_K : k674 = K 674 := mkK rfl
@[simp] theorem k675_K : k675 = K 675 := mkK rfl
@[simp] theorem k676_K : k676 = K 676 := mkK rfl
@[simp] theorem k677_K : k677 = K 677 := mkK rfl
@[simp] theorem k678_K : k678 = K 678 := mkK rfl
@[simp] theorem k679_K : k679 = K 679 := mkK rfl
@[simp] theorem k680_K : k680 = K 680 := mkK rfl
@[simp] theorem k681_K : k681 = K 681 := mkK rfl
@[simp] theorem k682_K : k682 = K 682 := mkK rfl
@[simp] theorem k683_K : k683 = K 683 := mkK rfl
@[simp] theorem k684_K : k684 = K 684 := mkK rfl
@[simp] theorem k685_K : k685 = K 685 := mkK rfl
@[simp] theorem k686_K : k686 = K 686 := mkK rfl
@[simp] theorem k687_K : k687 = K 687 := mkK rfl
@[simp] theorem k688_K : k688 = K 688 := mkK rfl
@[simp] theorem k689_K : k689 = K 689 := mkK rfl
@[simp] theorem k690_K : k690 = K 690 := mkK rfl
@[simp] theorem k691_K : k691 = K 691 := mkK rfl
@[simp] theorem k692_K : k692 = K 692 := mkK rfl
@[simp] theorem k693_K : k693 = K 693 := mkK rfl
@[simp] theorem k694_K : k694 = K 694 := mkK rfl
@[simp] theorem k695_K : k695 = K 695 := mkK rfl
@[simp] theorem k696_K : k696 = K 696 := mkK rfl
@[simp] theorem k697_K : k697 = K 697 := mkK rfl
@[simp] theorem k698_K : k698 = K 698 := mkK rfl
@[simp] theorem k699_K : k699 = K 699 := mkK rfl
@[simp] theorem k700_K : k700 = K 700 := mkK rfl
@[simp] theorem k701_K : k701 = K 701 := mkK rfl
@[simp] theorem k702_K : k702 = K 702 := mkK rfl
@[simp] theorem k703_K : k703 = K 703 := mkK rfl
@[simp] theorem k704_K : k704 = K 704 := mkK rfl
@[simp] theorem k705_K : k705 = K 705 := mkK rfl
@[simp] theorem k706_K : k706 = K 706 := mkK rfl
@[simp] theorem k707_K : k707 = K 707 := mkK rfl
@[simp] theorem k708_K : k708 = K 708 := mkK rfl
@[simp] theorem k709_K : k709 = K 709 := mkK rfl
@[simp] theorem k710_K : k710 = K 710 := mkK rfl
@[simp] theorem k711_K : k711 = K 711 := mkK rfl
@[simp] theorem k712_K : k712 = K 712 := mkK rfl
@[simp] theorem k713_K : k713 = K 713 := mkK rfl
@[simp] theorem k714_K : k714 = K 714 := mkK rfl
@[simp] theorem k715_K : k715 = K 715 := mkK rfl
@[simp] theorem k716_K : k716 = K 716 := mkK rfl
@[simp] theorem k717_K : k717 = K 717 := mkK rfl
@[simp] theorem k718_K : k718 = K 718 := mkK rfl
@[simp] theorem k719_K : k719 = K 719 := mkK rfl
@[simp] theorem k720_K : k720 = K 720 := mkK rfl
@[simp] theorem k721_K : k721 = K 721 := mkK rfl
@[simp] theorem k722_K : k722 = K 722 := mkK rfl
@[simp] theorem k723_K : k723 = K 723 := mkK rfl
@[simp] theorem k724_K : k724 = K 724 := mkK rfl
@[simp] theorem k725_K : k725 = K 725 := mkK rfl
@[simp] theorem k726_K : k726 = K 726 := mkK rfl
@[simp] theorem k727_K : k727 = K 727 := mkK rfl
@[simp] theorem k728_K : k728 = K 728 := mkK rfl
@[simp] theorem k729_K : k729 = K 729 := mkK rfl
@[simp] theorem k730_K : k730 = K 730 := mkK rfl
@[simp] theorem k731_K : k731 = K 731 := mkK rfl
@[simp] theorem k732_K : k732 = K 732 := mkK rfl
@[simp] theorem k733_K : k733 = K 733 := mkK rfl
@[simp] theorem k734_K : k734 = K 734 := mkK rfl
@[simp] theorem k735_K : k735 = K 735 := mkK rfl
@[simp] theorem k736_K : k736 = K 736 := mkK rfl
@[simp] theorem k737_K : k737 = K 737 := mkK rfl
@[simp] theorem k738_K : k738 = K 738 := mkK rfl
@[simp] theorem k739_K : k739 = K 739 := mkK rfl
@[simp] theorem k740_K : k740 = K 740 := mkK rfl
@[simp] theorem k741_K : k741 = K 741 := mkK rfl
@[simp] theorem k742_K : k742 = K 742 := mkK rfl
@[simp] theorem k743_K : k743 = K 743 := mkK rfl
@[simp] theorem k744_K : k744 = K 744 := mkK rfl
@[simp] theorem k745_K : k745 = K 745 := mkK rfl
@[simp] theorem k746_K : k746 = K 746 := mkK rfl
@[simp] theorem k747_K : k747 = K 747 := mkK rfl
@[simp] theorem k748_K : k748 = K 748 := mkK rfl
@[simp] theorem k749_K : k749 = K 749 := mkK rfl
@[simp] theorem k750_K : k750 = K 750 := mkK rfl
@[simp] theorem k751_K : k751 = K 751 := mkK rfl
@[simp] theorem k752_K : k752 = K 752 := mkK rfl
@[simp] theorem k753_K : k753 = K 753 := mkK rfl
@[simp] theorem k754_K : k754 = K 754 := mkK rfl
@[simp] theorem k755_K : k755 = K 755 := mkK rfl
@[simp] theorem k756_K : k756 = K 756 := mkK rfl
@[simp] theorem k757_K : k757 = K 757 := mkK rfl
@[simp] theorem k758_K : k758 = K 758 := mkK rfl
@[simp] theorem k759_K : k759 = K 759 := mkK rfl
@[simp] theorem k760_K : k760 = K 760 := mkK rfl
@[simp] theorem k761_K : k761 = K 761 := mkK rfl
@[simp] theorem k762_K : k762 = K 762 := mkK rfl
@[simp] theorem k763_K : k763 = K 763 := mkK rfl
@[simp] theorem k764_K : k764 = K 764 := mkK rfl
@[simp] theorem k765_K : k765 = K 765 := mkK rfl
@[simp] theorem k766_K : k766 = K 766 := mkK rfl
@[simp] theorem k767_K : k767 = K 767 := mkK rfl
@[simp] theorem k768_K : k768 = K 768 := mkK rfl
@[simp] theorem k769_K : k769 = K 769 := mkK rfl
@[simp] theorem k770_K : k770 = K 770 := mkK rfl
@[simp] theorem k771_K : k771 = K 771 := mkK rfl
@[simp] theorem k772_K : k772 = K 772 := mkK rfl
@[simp] theorem k773_K : k773 = K 773 := mkK rfl
@[simp] theorem k774_K : k774 = K 774 := mkK rfl
@[simp] theorem k775_K : k775 = K 775 := mkK rfl
@[simp] theorem k776_K : k776 = K 776 := mkK rfl
@[simp] theorem k777_K : k777 = K 777 := mkK rfl
@[simp] theorem k778_K : k778 = K 778 := mkK rfl
@[simp] theorem k779_K : k779 = K 779 := mkK rfl
@[simp] theorem k780_K : k780 = K 780 := mkK rfl
@[simp] theorem k781_K : k781 = K 781 := mkK rfl
@[simp] theorem k782_K : k782 = K 782 := mkK rfl
@[simp] theorem k783_K : k783 = K 783 := mkK rfl
@[simp] theorem k784_K : k784 = K 784 := mkK rfl
@[simp] theorem k785_K : k785 = K 785 := mkK rfl
@[simp] theorem k786_K : k786 = K 786 := mkK rfl
@[simp] theorem k787_K : k787 = K 787 := mkK rfl
@[simp] theorem k788_K : k788 = K 788 := mkK rfl
@[simp] theorem k789_K : k789 = K 789 := mkK rfl
@[simp] theorem k790_K : k790 = K 790 := mkK rfl
@[simp] theorem k791_K : k791 = K 791 := mkK rfl
@[simp] theorem k792_K : k792 = K 792 := mkK rfl
@[simp] theorem k793_K : k793 = K 793 := mkK rfl
@[simp] theorem k794_K : k794 = K 794 := mkK rfl
@[simp] theorem k795_K : k795 = K 795 := mkK rfl
@[simp] theorem k796_K : k796 = K 796 := mkK rfl
@[simp] theorem k797_K : k797 = K 797 := mkK rfl
@[simp] theorem k798_K : k798 = K 798 := mkK rfl
@[simp] theorem k799_K : k799 = K 799 := mkK rfl
/- short names of frequent operations -/
theorem hide {α : Type} {a b : α} (h : a = b) : a = b := h
abbrev I (n : Int) : AV := .int .i64 (.lit n)
def oM (d s : Key) : POper := ⟨some d, .mov (.t s), none⟩
def oL (d : Key) (n : Nat) (s : Key) : POper := ⟨some d, .load false n (.t s), none⟩
def oA (d : Key) (n : Nat) (s : Key) : POper := ⟨some d, .load true n (.t s), none⟩
def oF (d : Key) (n : Nat) (s : Key) : POper := ⟨some d, .fieldA n (.t s), none⟩
def oS (n : Nat) (a s : Key) : POper := ⟨none, .store n (.t a) (.t s), none⟩
def oN (d s : Key) : POper := ⟨some d, .nilc (.t s), none⟩
def oZ (d s : Key) : POper := ⟨some d, .lenL (.t s), none⟩
def oE (d s : Key) (n : Int) : POper := ⟨some d, .bin .eql (.t s) (.v (I n)), none⟩
def oI (d : Key) (n : Nat) (s i : Key) : POper := ⟨some d, .indexL n (.t s) (.t i), none⟩
def oX (d s : Key) (n : Nat) : POper := ⟨some d, .extract (.t s) n, none⟩
def oB (d s : Key) : POper := ⟨some d, .box (.t s), none⟩
def oJ (d : Key) (v : AV) : POper := ⟨some d, .mov (.v v), none⟩
@[simp] theorem oM_eq (d s : Key) : oM d s = ⟨some d, .mov (.t s), none⟩ := hide rfl
@[simp] theorem oL_eq (d : Key) (n : Nat) (s : Key) : oL d n s = ⟨some d, .load false n (.t s), none⟩ := hide rfl
@[simp] theorem oA_eq (d : Key) (n : Nat) (s : Key) : oA d n s = ⟨some d, .load true n (.t s), none⟩ := hide rfl
@[simp] theorem oF_eq (d : Key) (n : Nat) (s : Key) : oF d n s = ⟨some d, .fieldA n (.t s), none⟩ := hide rfl
@[simp] theorem oS_eq (n : Nat) (a s : Key) : oS n a s = ⟨none, .store n (.t a) (.t s), none⟩ := hide rfl
@[simp] theorem oN_eq (d s : Key) : oN d s = ⟨some d, .nilc (.t s), none⟩ := hide rfl
@[simp] theorem oZ_eq (d s : Key) : oZ d s = ⟨some d, .lenL (.t s), none⟩ := hide rfl
@[simp] theorem oE_eq (d s : Key) (n : Int) : oE d s n = ⟨some d, .bin .eql (.t s) (.v (I n)), none⟩ := hide rfl
@[simp] theorem oI_eq (d : Key) (n : Nat) (s i : Key) : oI d n s i = ⟨some d, .indexL n (.t s) (.t i), none⟩ := hide rfl
@[simp] theorem oX_eq (d s : Key) (n : Nat) : oX d s n = ⟨some d, .extract (.t s) n, none⟩ := hide rfl
@[simp] theorem oB_eq (d s : Key) : oB d s = ⟨some d, .box (.t s), none⟩ := hide rfl
@[simp] theorem oJ_eq (d : Key) (v : AV) : oJ d v = ⟨some d, .mov (.v v), none⟩ := hide rfl
end Go.Sx
