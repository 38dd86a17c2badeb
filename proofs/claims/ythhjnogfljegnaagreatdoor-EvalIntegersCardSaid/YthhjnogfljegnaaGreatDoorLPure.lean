/-
  SV: how expressions without a module come out, with plenty of fuel. No condition.
-/
import Derived.Test.YthhjnogfljegnaaGreatDoorVBase
set_option linter.unusedSimpArgs false
set_option linter.unusedVariables false
set_option linter.unusedSectionVars false
namespace Go.Sx
open Go
def LP : Lim := ⟨5000, 1000, 0, 0⟩
def MZ : Md := ⟨[], []⟩
def smallV (v : V) : Prop := (v.size : Int) ≤ 1000 ∧ ¬ (v.k = 2 ∧ 256 < v.kids.length)
/- e comes to v by n steps -/
def Comes (s : Sc) (e : E) (d n : Nat) (v : V) : Prop := smallV v ∧ ∀ (g : Nat) (fn : S) (st : St), d ≤ g → st.cf + (n : Int) ≤ 5000 → ∃ st', ev LP MZ g fn s e st = .ok v st' ∧ st'.cf = st.cf + (n : Int)
/- e ends with an error by n steps -/
def Stops (s : Sc) (e : E) (d n : Nat) (c : Int) : Prop := ∀ (g : Nat) (fn : S) (st : St), d ≤ g → st.cf + (n : Int) ≤ 5000 → ∃ st', ev LP MZ g fn s e st = .stop c st'

theorem numV_small (n : Int) : smallV (numV n) := ⟨by simp [numV, V.size, V.sizes], by simp [numV, V.k]⟩
theorem boolV_small (b : Bool) : smallV (boolV b) := ⟨by simp [boolV, V.size, V.sizes], by simp [boolV, V.k]⟩

section
variable {s : Sc} {names : List S} {binds : List (List S)} {n at_ : Int} {nm : S}
/- one step of evaluation -/
theorem step_ok {e : E} {g : Nat} {fn : S} {st st' : St} {v : V} (hv : smallV v) (hf : st.cf + 1 ≤ 5000) (h : valueF (ev LP MZ g) MZ fn s e { st with cf := st.cf + 1 } = .ok v st') : ∃ st2, ev LP MZ (g + 1) fn s e st = .ok v st2 ∧ st2.cf = st'.cf := by
  refine ⟨{ st' with cb := max st'.cb v.size }, ?_, rfl⟩
  have h1 : ¬ LP.fuel ≤ st.cf := by simp [LP]; omega
  have h2 : ¬ (LP.room < v.size ∨ (v.k = 2 ∧ 256 < v.kids.length)) := by
    intro hh
    rcases hh with hh | hh
    · have := hv.1; simp [LP] at hh; omega
    · exact hv.2 hh
  show evalF (ev LP MZ g) LP MZ fn s e st = _
  unfold evalF
  rw [if_neg h1, h]
  simp only [if_neg h2]
theorem step_stop {e : E} {g : Nat} {fn : S} {st st' : St} {c : Int} (hf : st.cf + 1 ≤ 5000) (h : valueF (ev LP MZ g) MZ fn s e { st with cf := st.cf + 1 } = .stop c st') : ∃ st2, ev LP MZ (g + 1) fn s e st = .stop c st2 := by
  refine ⟨st', ?_⟩
  have h1 : ¬ LP.fuel ≤ st.cf := by simp [LP]; omega
  show evalF (ev LP MZ g) LP MZ fn s e st = _
  unfold evalF
  rw [if_neg h1, h]

theorem Comes.int (x : Int) {kids : List E} : Comes s (.mk 0 nm x names binds kids at_) 1 1 (numV x) := by
  refine ⟨numV_small x, fun g fn st hg hf => ?_⟩
  obtain ⟨g, rfl⟩ : ∃ k, g = k + 1 := ⟨g - 1, by omega⟩
  exact step_ok (st' := { st with cf := st.cf + 1 }) (numV_small x) hf (by simp [valueF, E.k, E.n, numR])
theorem Comes.var {v : V} (hv : smallV v) (h : lookS nm s = some v) {kids : List E} : Comes s (.mk 2 nm n names binds kids at_) 1 1 v := by
  refine ⟨hv, fun g fn st hg hf => ?_⟩
  obtain ⟨g, rfl⟩ : ∃ k, g = k + 1 := ⟨g - 1, by omega⟩
  exact step_ok (st' := { st with cf := st.cf + 1 }) hv hf (by simp [valueF, E.k, E.name, h])

/- two operands -/
theorem two {a b : E} {d1 d2 n1 n2 : Nat} {x y : V} (ha : Comes s a d1 n1 x) (hb : Comes s b d2 n2 y) {g : Nat} {fn : S} {st : St} (hg : max d1 d2 ≤ g) (hf : st.cf + (n1 + n2 : Nat) ≤ 5000) :
    ∃ st1 st2, ev LP MZ g fn s a st = .ok x st1 ∧ ev LP MZ g fn s b st1 = .ok y st2 ∧ st2.cf = st.cf + (n1 + n2 : Nat) := by
  obtain ⟨st1, h1, e1⟩ := ha.2 g fn st (by omega) (by omega)
  obtain ⟨st2, h2, e2⟩ := hb.2 g fn st1 (by omega) (by omega)
  exact ⟨st1, st2, h1, h2, by omega⟩
theorem Comes.op {a b : E} {d1 d2 n1 n2 : Nat} {x y v : V} (ha : Comes s a d1 n1 x) (hb : Comes s b d2 n2 y) (hv : smallV v)
    (h : ∀ (rec_ : Rec) fn st0 st1 st2, rec_ fn s a st0 = .ok x st1 → rec_ fn s b st1 = .ok y st2 → opF rec_ fn s (.mk 9 nm n names binds [a, b] at_) st0 = .ok v st2) : Comes s (.mk 9 nm n names binds [a, b] at_) (max d1 d2 + 1) (n1 + n2 + 1) v := by
  refine ⟨hv, fun g fn st hg hf => ?_⟩
  obtain ⟨g, rfl⟩ : ∃ k, g = k + 1 := ⟨g - 1, by omega⟩
  obtain ⟨st1, st2, h1, h2, h3⟩ := two ha hb (g := g) (fn := fn) (st := { st with cf := st.cf + 1 }) (by omega) (by simp; omega)
  obtain ⟨st3, e1, e2⟩ := step_ok (s := s) (e := .mk 9 nm n names binds [a, b] at_) (g := g) (fn := fn) (st := st) (st' := st2) hv (by omega) (by simp [valueF, E.k]; exact h _ fn _ st1 st2 h1 h2)
  exact ⟨st3, e1, by rw [e2, h3]; simp; omega⟩
theorem Comes.add {a b : E} {d1 d2 n1 n2 : Nat} {x y : Int} (ha : Comes s a d1 n1 (numV x)) (hb : Comes s b d2 n2 (numV y)) : Comes s (.mk 9 (1, 43) n names binds [a, b] at_) (max d1 d2 + 1) (n1 + n2 + 1) (numV (wrapF .i64 (x + y))) := by
  refine Comes.op ha hb (numV_small _) fun rec_ fn st0 st1 st2 h1 h2 => ?_
  simp [opF, E.name, E.kids, h1, h2, numV, V.k, V.n, numR]
theorem Comes.eq {a b : E} {d1 d2 n1 n2 : Nat} {x y : V} (ha : Comes s a d1 n1 x) (hb : Comes s b d2 n2 y) : Comes s (.mk 9 (2, 15677) n names binds [a, b] at_) (max d1 d2 + 1) (n1 + n2 + 1) (boolV (x.cmp y == 0)) := by
  refine Comes.op ha hb (boolV_small _) fun rec_ fn st0 st1 st2 h1 h2 => ?_
  simp [opF, E.name, E.kids, h1, h2, boolR]
theorem Comes.and {a b : E} {d1 d2 n1 n2 : Nat} (ha : Comes s a d1 n1 (boolV true)) (hb : Comes s b d2 n2 (boolV true)) : Comes s (.mk 9 (3, 6581857) n names binds [a, b] at_) (max d1 d2 + 1) (n1 + n2 + 1) (boolV true) := by
  refine Comes.op ha hb (boolV_small _) fun rec_ fn st0 st1 st2 h1 h2 => ?_
  simp [opF, E.name, E.kids, truthF, h1, h2, boolR, boolV, V.k, V.n]

/- built-in functions -/
theorem Comes.call1 {a : E} {d1 n1 : Nat} {x v : V} (ha : Comes s a d1 n1 x) (hv : smallV v) (har : arityF nm = some 1) (h : ∀ st, builtF nm [x] st = .ok v st) : Comes s (.mk 3 nm n names binds [a] at_) (d1 + 1) (n1 + 1) v := by
  refine ⟨hv, fun g fn st hg hf => ?_⟩
  obtain ⟨g, rfl⟩ : ∃ k, g = k + 1 := ⟨g - 1, by omega⟩
  obtain ⟨st1, h1, e1⟩ := ha.2 g fn { st with cf := st.cf + 1 } (by omega) (by simp; omega)
  obtain ⟨st3, e2, e3⟩ := step_ok (s := s) (e := .mk 3 nm n names binds [a] at_) (g := g) (fn := fn) (st := st) (st' := st1) hv (by omega) (by simp [valueF, applyF, allF, E.k, E.name, E.kids, har, h1, h])
  exact ⟨st3, e2, by rw [e3, e1]; simp; omega⟩
theorem Comes.call2 {a b : E} {d1 d2 n1 n2 : Nat} {x y v : V} (ha : Comes s a d1 n1 x) (hb : Comes s b d2 n2 y) (hv : smallV v) (har : arityF nm = some 2) (h : ∀ st, builtF nm [x, y] st = .ok v st) : Comes s (.mk 3 nm n names binds [a, b] at_) (max d1 d2 + 1) (n1 + n2 + 1) v := by
  refine ⟨hv, fun g fn st hg hf => ?_⟩
  obtain ⟨g, rfl⟩ : ∃ k, g = k + 1 := ⟨g - 1, by omega⟩
  obtain ⟨st1, st2, h1, h2, h3⟩ := two ha hb (g := g) (fn := fn) (st := { st with cf := st.cf + 1 }) (by omega) (by simp; omega)
  obtain ⟨st3, e2, e3⟩ := step_ok (s := s) (e := .mk 3 nm n names binds [a, b] at_) (g := g) (fn := fn) (st := st) (st' := st2) hv (by omega) (by simp [valueF, applyF, allF, E.k, E.name, E.kids, har, h1, h2, h])
  exact ⟨st3, e2, by rw [e3, h3]; simp; omega⟩
theorem Stops.call2 {a b : E} {d1 d2 n1 n2 : Nat} {x y : V} {c : Int} (ha : Comes s a d1 n1 x) (hb : Comes s b d2 n2 y) (har : arityF nm = some 2) (h : ∀ st, builtF nm [x, y] st = .stop c st) : Stops s (.mk 3 nm n names binds [a, b] at_) (max d1 d2 + 1) (n1 + n2 + 1) c := by
  intro g fn st hg hf
  obtain ⟨g, rfl⟩ : ∃ k, g = k + 1 := ⟨g - 1, by omega⟩
  obtain ⟨st1, st2, h1, h2, h3⟩ := two ha hb (g := g) (fn := fn) (st := { st with cf := st.cf + 1 }) (by omega) (by simp; omega)
  exact step_stop (s := s) (e := .mk 3 nm n names binds [a, b] at_) (g := g) (fn := fn) (st := st) (st' := st2) (by omega) (by simp [valueF, applyF, allF, E.k, E.name, E.kids, har, h1, h2, h])
theorem three {a b c : E} {d1 d2 d3 n1 n2 n3 : Nat} {x y z : V} (ha : Comes s a d1 n1 x) (hb : Comes s b d2 n2 y) (hc : Comes s c d3 n3 z) {g : Nat} {fn : S} {st : St} (hg : max (max d1 d2) d3 ≤ g) (hf : st.cf + (n1 + n2 + n3 : Nat) ≤ 5000) :
    ∃ st1 st2 st3, ev LP MZ g fn s a st = .ok x st1 ∧ ev LP MZ g fn s b st1 = .ok y st2 ∧ ev LP MZ g fn s c st2 = .ok z st3 ∧ st3.cf = st.cf + (n1 + n2 + n3 : Nat) := by
  obtain ⟨st1, h1, e1⟩ := ha.2 g fn st (by omega) (by omega)
  obtain ⟨st2, h2, e2⟩ := hb.2 g fn st1 (by omega) (by omega)
  obtain ⟨st3, h3, e3⟩ := hc.2 g fn st2 (by omega) (by omega)
  exact ⟨st1, st2, st3, h1, h2, h3, by omega⟩
theorem Comes.call3 {a b c : E} {d1 d2 d3 n1 n2 n3 : Nat} {x y z v : V} (ha : Comes s a d1 n1 x) (hb : Comes s b d2 n2 y) (hc : Comes s c d3 n3 z) (hv : smallV v) (har : arityF nm = some 3) (h : ∀ st, builtF nm [x, y, z] st = .ok v st) : Comes s (.mk 3 nm n names binds [a, b, c] at_) (max (max d1 d2) d3 + 1) (n1 + n2 + n3 + 1) v := by
  refine ⟨hv, fun g fn st hg hf => ?_⟩
  obtain ⟨g, rfl⟩ : ∃ k, g = k + 1 := ⟨g - 1, by omega⟩
  obtain ⟨st1, st2, st3, h1, h2, h3, h4⟩ := three ha hb hc (g := g) (fn := fn) (st := { st with cf := st.cf + 1 }) (by omega) (by simp; omega)
  obtain ⟨st5, e2, e3⟩ := step_ok (s := s) (e := .mk 3 nm n names binds [a, b, c] at_) (g := g) (fn := fn) (st := st) (st' := st3) hv (by omega) (by simp [valueF, applyF, allF, E.k, E.name, E.kids, har, h1, h2, h3, h])
  exact ⟨st5, e2, by rw [e3, h4]; simp; omega⟩
theorem Stops.call3 {a b c : E} {d1 d2 d3 n1 n2 n3 : Nat} {x y z : V} {cd : Int} (ha : Comes s a d1 n1 x) (hb : Comes s b d2 n2 y) (hc : Comes s c d3 n3 z) (har : arityF nm = some 3) (h : ∀ st, builtF nm [x, y, z] st = .stop cd st) : Stops s (.mk 3 nm n names binds [a, b, c] at_) (max (max d1 d2) d3 + 1) (n1 + n2 + n3 + 1) cd := by
  intro g fn st hg hf
  obtain ⟨g, rfl⟩ : ∃ k, g = k + 1 := ⟨g - 1, by omega⟩
  obtain ⟨st1, st2, st3, h1, h2, h3, h4⟩ := three ha hb hc (g := g) (fn := fn) (st := { st with cf := st.cf + 1 }) (by omega) (by simp; omega)
  exact step_stop (s := s) (e := .mk 3 nm n names binds [a, b, c] at_) (g := g) (fn := fn) (st := st) (st' := st3) (by omega) (by simp [valueF, applyF, allF, E.k, E.name, E.kids, har, h1, h2, h3, h])
end
end Go.Sx
/-
  SV: the expressions of the law of integers. No condition.
-/
namespace Go.Sx
def e0 : E := .mk 9 (1, 43) 0 [] [] [.mk 2 (1, 105) 0 [] [] [] 0, .mk 2 (1, 120) 0 [] [] [] 4] 0
def e1 : E := .mk 9 (1, 45) 0 [] [] [.mk 2 (1, 105) 0 [] [] [] 0, .mk 2 (1, 120) 0 [] [] [] 4] 0
def e2 : E := .mk 9 (1, 42) 0 [] [] [.mk 2 (1, 105) 0 [] [] [] 0, .mk 2 (1, 120) 0 [] [] [] 4] 0
def e3 : E := .mk 9 (3, 6581857) 0 [] [] [.mk 9 (2, 29295) 0 [] [] [.mk 9 (1, 60) 0 [] [] [.mk 2 (1, 105) 0 [] [] [] 1, .mk 2 (1, 120) 0 [] [] [] 5] 1, .mk 9 (2, 15676) 0 [] [] [.mk 2 (1, 120) 0 [] [] [] 10, .mk 2 (1, 105) 0 [] [] [] 15] 10] 1, .mk 9 (3, 7630702) 0 [] [] [.mk 9 (3, 6581857) 0 [] [] [.mk 9 (1, 60) 0 [] [] [.mk 2 (1, 105) 0 [] [] [] 27, .mk 2 (1, 120) 0 [] [] [] 31] 27, .mk 9 (2, 15676) 0 [] [] [.mk 2 (1, 120) 0 [] [] [] 37, .mk 2 (1, 105) 0 [] [] [] 42] 37] 27] 22] 0
def e4 : E := .mk 9 (2, 15677) 0 [] [] [.mk 9 (2, 15676) 0 [] [] [.mk 2 (1, 105) 0 [] [] [] 1, .mk 2 (1, 120) 0 [] [] [] 6] 1, .mk 9 (2, 29295) 0 [] [] [.mk 9 (1, 60) 0 [] [] [.mk 2 (1, 105) 0 [] [] [] 13, .mk 2 (1, 120) 0 [] [] [] 17] 13, .mk 9 (2, 15677) 0 [] [] [.mk 2 (1, 105) 0 [] [] [] 22, .mk 2 (1, 120) 0 [] [] [] 27] 22] 13] 0
def e5 : E := .mk 9 (2, 15677) 0 [] [] [.mk 9 (1, 43) 0 [] [] [.mk 3 (3, 7889261) 0 [] [] [.mk 2 (1, 105) 0 [] [] [] 4, .mk 2 (1, 120) 0 [] [] [] 7] 0, .mk 3 (3, 7235949) 0 [] [] [.mk 2 (1, 105) 0 [] [] [] 16, .mk 2 (1, 120) 0 [] [] [] 19] 12] 0, .mk 9 (1, 43) 0 [] [] [.mk 2 (1, 105) 0 [] [] [] 25, .mk 2 (1, 120) 0 [] [] [] 29] 25] 0
def e6 : E := .mk 9 (2, 15677) 0 [] [] [.mk 2 (1, 97) 0 [] [] [] 0, .mk 2 (1, 98) 0 [] [] [] 5] 0
end Go.Sx
/-
  SV: the equations of integers hold. No condition.
-/
namespace Go.Sx
open Go
def listV (vs : List V) : V := .mk 2 0 0 0 vs
def scV (vs : List V) (i x : Int) : Sc := [((1, 120), numV x), ((1, 105), numV i), ((1, 118), listV vs)]
def True' (s : Sc) (e : E) : Prop := ∃ d n, d ≤ 100 ∧ n ≤ 4000 ∧ Comes s e d n (boolV true)
theorem cmp_num (a b : Int) : (numV a).cmp (numV b) = cmpInt a b := by
  have hs : cmpS (0, 0) (0, 0) = 0 := by decide
  simp only [numV, V.cmp, V.cmps, hs]
  unfold cmpInt
  split <;> simp_all
theorem cmp_bool (a b : Bool) : ((boolV a).cmp (boolV b) == 0) = (a == b) := by
  have hs : cmpS (0, 0) (0, 0) = 0 := by decide
  cases a <;> cases b <;> simp [boolV, V.cmp, V.cmps, hs, cmpInt]
theorem cmpInt_eq (a b : Int) : (cmpInt a b == 0) = decide (a = b) := by
  unfold cmpInt
  by_cases h : a < b
  · have : a ≠ b := by omega
    simp [h, this]
  · by_cases h2 : b < a
    · have : a ≠ b := by omega
      simp [h, h2, this]
    · have : a = b := by omega
      simp [this]
section
variable {s : Sc} {names : List S} {binds : List (List S)} {n at_ : Int} {a b : E} {d1 d2 n1 n2 : Nat} {x y : Int}
theorem Comes.sub (ha : Comes s a d1 n1 (numV x)) (hb : Comes s b d2 n2 (numV y)) : Comes s (.mk 9 (1, 45) n names binds [a, b] at_) (max d1 d2 + 1) (n1 + n2 + 1) (numV (wrapF .i64 (x - y))) := by
  refine Comes.op ha hb (numV_small _) fun rec_ fn st0 st1 st2 h1 h2 => ?_
  simp [opF, E.name, E.kids, h1, h2, numV, V.k, V.n, numR]
theorem Comes.mul (ha : Comes s a d1 n1 (numV x)) (hb : Comes s b d2 n2 (numV y)) : Comes s (.mk 9 (1, 42) n names binds [a, b] at_) (max d1 d2 + 1) (n1 + n2 + 1) (numV (wrapF .i64 (x * y))) := by
  refine Comes.op ha hb (numV_small _) fun rec_ fn st0 st1 st2 h1 h2 => ?_
  simp [opF, E.name, E.kids, h1, h2, numV, V.k, V.n, numR]
theorem Comes.lt (ha : Comes s a d1 n1 (numV x)) (hb : Comes s b d2 n2 (numV y)) : Comes s (.mk 9 (1, 60) n names binds [a, b] at_) (max d1 d2 + 1) (n1 + n2 + 1) (boolV (decide (x < y))) := by
  refine Comes.op ha hb (boolV_small _) fun rec_ fn st0 st1 st2 h1 h2 => ?_
  simp [opF, E.name, E.kids, h1, h2, numV, V.k, V.n, boolR]
  exact congrArg boolV (decide_eq_decide.2 Iff.rfl)
theorem Comes.le (ha : Comes s a d1 n1 (numV x)) (hb : Comes s b d2 n2 (numV y)) : Comes s (.mk 9 (2, 15676) n names binds [a, b] at_) (max d1 d2 + 1) (n1 + n2 + 1) (boolV (!(decide (y < x)))) := by
  refine Comes.op ha hb (boolV_small _) fun rec_ fn st0 st1 st2 h1 h2 => ?_
  simp [opF, E.name, E.kids, h1, h2, numV, V.k, V.n, boolR]
  exact congrArg (fun b => boolV (!b)) (decide_eq_decide.2 Iff.rfl)
/- one operand decides -/
theorem Comes.op1 {v w : V} {nm : S} {ks : List E} (ha : Comes s a d1 n1 w) (hv : smallV v)
    (h : ∀ (rec_ : Rec) fn st0 st1, rec_ fn s a st0 = .ok w st1 → opF rec_ fn s (.mk 9 nm n names binds (a :: ks) at_) st0 = .ok v st1) : Comes s (.mk 9 nm n names binds (a :: ks) at_) (d1 + 1) (n1 + 1) v := by
  refine ⟨hv, fun g fn st hg hf => ?_⟩
  obtain ⟨g, rfl⟩ : ∃ k, g = k + 1 := ⟨g - 1, by omega⟩
  obtain ⟨st1, h1, e1⟩ := ha.2 g fn { st with cf := st.cf + 1 } (by omega) (by simp; omega)
  obtain ⟨st3, e2, e3⟩ := step_ok (s := s) (e := .mk 9 nm n names binds (a :: ks) at_) (g := g) (fn := fn) (st := st) (st' := st1) hv (by omega) (by simp [valueF, E.k]; exact h _ fn _ st1 h1)
  exact ⟨st3, e2, by rw [e3, e1]; simp; omega⟩
theorem Comes.or_t (ha : Comes s a d1 n1 (boolV true)) : Comes s (.mk 9 (2, 29295) n names binds [a, b] at_) (d1 + 1) (n1 + 1) (boolV true) := by
  refine Comes.op1 ha (boolV_small _) fun rec_ fn st0 st1 h1 => ?_
  simp [opF, E.name, E.kids, truthF, h1, boolR, boolV, V.k, V.n]
theorem Comes.or_f {t : Bool} (ha : Comes s a d1 n1 (boolV false)) (hb : Comes s b d2 n2 (boolV t)) : Comes s (.mk 9 (2, 29295) n names binds [a, b] at_) (max d1 d2 + 1) (n1 + n2 + 1) (boolV t) := by
  refine Comes.op ha hb (boolV_small _) fun rec_ fn st0 st1 st2 h1 h2 => ?_
  cases t <;> simp [opF, E.name, E.kids, truthF, h1, h2, boolR, boolV, V.k, V.n]
theorem Comes.and_f (ha : Comes s a d1 n1 (boolV false)) : Comes s (.mk 9 (3, 6581857) n names binds [a, b] at_) (d1 + 1) (n1 + 1) (boolV false) := by
  refine Comes.op1 ha (boolV_small _) fun rec_ fn st0 st1 h1 => ?_
  simp [opF, E.name, E.kids, truthF, h1, boolR, boolV, V.k, V.n]
theorem Comes.and_t {t : Bool} (ha : Comes s a d1 n1 (boolV true)) (hb : Comes s b d2 n2 (boolV t)) : Comes s (.mk 9 (3, 6581857) n names binds [a, b] at_) (max d1 d2 + 1) (n1 + n2 + 1) (boolV t) := by
  refine Comes.op ha hb (boolV_small _) fun rec_ fn st0 st1 st2 h1 h2 => ?_
  cases t <;> simp [opF, E.name, E.kids, truthF, h1, h2, boolR, boolV, V.k, V.n]
theorem Comes.not {t : Bool} (ha : Comes s a d1 n1 (boolV t)) : Comes s (.mk 9 (3, 7630702) n names binds [a] at_) (d1 + 1) (n1 + 1) (boolV (!t)) := by
  refine Comes.op1 ha (boolV_small _) fun rec_ fn st0 st1 h1 => ?_
  cases t <;> simp [opF, E.name, E.kids, truthF, h1, boolR, boolV, V.k, V.n]
theorem Comes.max (ha : Comes s a d1 n1 (numV x)) (hb : Comes s b d2 n2 (numV y)) : Comes s (.mk 3 (3, 7889261) n names binds [a, b] at_) (Nat.max d1 d2 + 1) (n1 + n2 + 1) (numV (Max.max x y)) :=
  Comes.call2 ha hb (numV_small _) (by decide) (fun st => by simp [builtF, numV, V.k, V.n, numR])
theorem Comes.min (ha : Comes s a d1 n1 (numV x)) (hb : Comes s b d2 n2 (numV y)) : Comes s (.mk 3 (3, 7235949) n names binds [a, b] at_) (Nat.max d1 d2 + 1) (n1 + n2 + 1) (numV (Min.min x y)) :=
  Comes.call2 ha hb (numV_small _) (by decide) (fun st => by simp [builtF, numV, V.k, V.n, numR])
end
section
variable {vs : List V} {i x : Int} {names : List S} {binds : List (List S)} {n at_ : Int} {kids : List E}
theorem c_i : Comes (scV vs i x) (.mk 2 (1, 105) n names binds kids at_) 1 1 (numV i) := Comes.var (numV_small _) (by simp [lookS, scV])
theorem c_x : Comes (scV vs i x) (.mk 2 (1, 120) n names binds kids at_) 1 1 (numV x) := Comes.var (numV_small _) (by simp [lookS, scV])
theorem t0 : Comes (scV vs i x) e0 2 3 (numV (wrapF .i64 (i + x))) := Comes.add c_i c_x
theorem t1 : Comes (scV vs i x) e1 2 3 (numV (wrapF .i64 (i - x))) := Comes.sub c_i c_x
theorem t2 : Comes (scV vs i x) e2 2 3 (numV (wrapF .i64 (i * x))) := Comes.mul c_i c_x
variable {n' at' : Int} {names' : List S} {binds' : List (List S)} {kids' : List E} {m am : Int} {namesm : List S} {bindsm : List (List S)}
theorem c_lt {t : Bool} (h : decide (i < x) = t) : Comes (scV vs i x) (.mk 9 (1, 60) m namesm bindsm [.mk 2 (1, 105) n names binds kids at_, .mk 2 (1, 120) n' names' binds' kids' at'] am) 2 3 (boolV t) := by
  rw [← h]; exact Comes.lt c_i c_x
theorem c_le {t : Bool} (h : (!decide (i < x)) = t) : Comes (scV vs i x) (.mk 9 (2, 15676) m namesm bindsm [.mk 2 (1, 120) n names binds kids at_, .mk 2 (1, 105) n' names' binds' kids' at'] am) 2 3 (boolV t) := by
  rw [← h]; exact Comes.le c_x c_i
theorem c_le' {t : Bool} (h : (!decide (x < i)) = t) : Comes (scV vs i x) (.mk 9 (2, 15676) m namesm bindsm [.mk 2 (1, 105) n names binds kids at_, .mk 2 (1, 120) n' names' binds' kids' at'] am) 2 3 (boolV t) := by
  rw [← h]; exact Comes.le c_i c_x
theorem t3 : True' (scV vs i x) e3 := by
  by_cases h : i < x
  · have hd : decide (i < x) = true := by simpa using h
    have hn : (!(decide (i < x))) = false := by simpa using h
    refine ⟨_, _, ?_, ?_, Comes.and_t (t := true) (Comes.or_t (c_lt hd)) (Comes.not (t := false) (Comes.and_t (c_lt hd) (c_le hn)))⟩ <;> decide
  · have hd : decide (i < x) = false := by simpa using h
    have hn : (!(decide (i < x))) = true := by simpa using h
    refine ⟨_, _, ?_, ?_, Comes.and_t (t := true) (Comes.or_f (t := true) (c_lt hd) (c_le hn)) (Comes.not (t := false) (Comes.and_f (c_lt hd)))⟩ <;> decide
theorem eqT {s : Sc} {a b : E} {d1 d2 n1 n2 : Nat} {u v : V} (ha : Comes s a d1 n1 u) (hb : Comes s b d2 n2 v) (h : (u.cmp v == 0) = true) {nn aa : Int} {ns : List S} {bs : List (List S)} : Comes s (.mk 9 (2, 15677) nn ns bs [a, b] aa) (max d1 d2 + 1) (n1 + n2 + 1) (boolV true) := by
  rw [← h]; exact Comes.eq ha hb
theorem t4 : True' (scV vs i x) e4 := by
  by_cases h : i < x
  · have hd : decide (i < x) = true := by simpa using h
    have hn : (!(decide (x < i))) = true := by simp; omega
    refine ⟨_, _, ?_, ?_, eqT (c_le' hn) (Comes.or_t (c_lt hd)) (by rw [cmp_bool]; rfl)⟩ <;> decide
  · have hd : decide (i < x) = false := by simpa using h
    have e : ((!decide (x < i)) == decide (i = x)) = true := by
      by_cases h2 : i = x
      · simp [h2]
      · have : x < i := by omega
        simp [h2, this]
    refine ⟨_, _, ?_, ?_, eqT (c_le' rfl) (Comes.or_f (t := (numV i).cmp (numV x) == 0) (c_lt hd) (Comes.eq c_i c_x)) (by rw [cmp_bool, cmp_num, cmpInt_eq]; exact e)⟩ <;> decide
theorem t5 : True' (scV vs i x) e5 := by
  have e : Max.max i x + Min.min i x = i + x := by omega
  refine ⟨_, _, ?_, ?_, eqT (Comes.add (Comes.max c_i c_x) (Comes.min c_i c_x)) (Comes.add c_i c_x) (by rw [cmp_num, cmpInt_eq, e]; simp)⟩ <;> decide
end
theorem t6 {a b : V} (ha : smallV a) (hb : smallV b) : Comes [((1, 98), b), ((1, 97), a)] e6 2 3 (boolV (a.cmp b == 0)) :=
  Comes.eq (Comes.var ha (by simp [lookS])) (Comes.var hb (by simp [lookS]))
end Go.Sx
