/-
  SV: how expressions without a module come out, with plenty of fuel. No condition.
-/
import Derived.Test.YthhjnogfljegnaaGreatDoorVBase
import Derived.Test.YthhjnogfljegnaaGreatDoorVBuilt
set_option linter.unusedSimpArgs false
set_option linter.unusedVariables false
set_option linter.unusedSectionVars false
namespace Go.Sx
open Go
def LP : Lim := ⟨5000, 1000, 0, 0⟩
def MZ : Md := ⟨[], []⟩
def smallV (v : V) : Prop := (v.size : Int) ≤ 1000 ∧ ¬ (v.k = 2 ∧ 256 < v.kids.length)
/- e comes to v by n steps -/
def Comes (s : Sc) (e : E) (d n : Nat) (v : V) : Prop := smallV v ∧ ∀ (g : Nat) (fn : S) (st : St), d ≤ g → st.cf + (n : Int) ≤ 5000 → ∃ st', ev LP MZ g fn s e st = .ok v st' ∧ st'.cf = st.cf + (n : Int)
/- e ends with an error by n steps -/
def Stops (s : Sc) (e : E) (d n : Nat) (c : Int) : Prop := ∀ (g : Nat) (fn : S) (st : St), d ≤ g → st.cf + (n : Int) ≤ 5000 → ∃ st', ev LP MZ g fn s e st = .stop c st'

theorem numV_small (n : Int) : smallV (numV n) := ⟨by simp [numV, V.size, V.sizes], by simp [numV, V.k]⟩
theorem boolV_small (b : Bool) : smallV (boolV b) := ⟨by simp [boolV, V.size, V.sizes], by simp [boolV, V.k]⟩

section
variable {s : Sc} {names : List S} {binds : List (List S)} {n at_ : Int} {nm : S}
/- one step of evaluation -/
theorem step_ok {e : E} {g : Nat} {fn : S} {st st' : St} {v : V} (hv : smallV v) (hf : st.cf + 1 ≤ 5000) (h : valueF (ev LP MZ g) MZ fn s e { st with cf := st.cf + 1 } = .ok v st') : ∃ st2, ev LP MZ (g + 1) fn s e st = .ok v st2 ∧ st2.cf = st'.cf := by
  refine ⟨{ st' with cb := max st'.cb v.size }, ?_, rfl⟩
  have h1 : ¬ LP.fuel ≤ st.cf := by simp [LP]; omega
  have h2 : ¬ (LP.room < v.size ∨ (v.k = 2 ∧ 256 < v.kids.length)) := by
    intro hh
    rcases hh with hh | hh
    · have := hv.1; simp [LP] at hh; omega
    · exact hv.2 hh
  show evalF (ev LP MZ g) LP MZ fn s e st = _
  unfold evalF
  rw [if_neg h1, h]
  simp only [if_neg h2]
theorem step_stop {e : E} {g : Nat} {fn : S} {st st' : St} {c : Int} (hf : st.cf + 1 ≤ 5000) (h : valueF (ev LP MZ g) MZ fn s e { st with cf := st.cf + 1 } = .stop c st') : ∃ st2, ev LP MZ (g + 1) fn s e st = .stop c st2 := by
  refine ⟨st', ?_⟩
  have h1 : ¬ LP.fuel ≤ st.cf := by simp [LP]; omega
  show evalF (ev LP MZ g) LP MZ fn s e st = _
  unfold evalF
  rw [if_neg h1, h]

theorem Comes.int (x : Int) {kids : List E} : Comes s (.mk 0 nm x names binds kids at_) 1 1 (numV x) := by
  refine ⟨numV_small x, fun g fn st hg hf => ?_⟩
  obtain ⟨g, rfl⟩ : ∃ k, g = k + 1 := ⟨g - 1, by omega⟩
  exact step_ok (st' := { st with cf := st.cf + 1 }) (numV_small x) hf (by simp [valueF, E.k, E.n, numR])
theorem Comes.var {v : V} (hv : smallV v) (h : lookS nm s = some v) {kids : List E} : Comes s (.mk 2 nm n names binds kids at_) 1 1 v := by
  refine ⟨hv, fun g fn st hg hf => ?_⟩
  obtain ⟨g, rfl⟩ : ∃ k, g = k + 1 := ⟨g - 1, by omega⟩
  exact step_ok (st' := { st with cf := st.cf + 1 }) hv hf (by simp [valueF, E.k, E.name, h])

/- two operands -/
theorem two {a b : E} {d1 d2 n1 n2 : Nat} {x y : V} (ha : Comes s a d1 n1 x) (hb : Comes s b d2 n2 y) {g : Nat} {fn : S} {st : St} (hg : max d1 d2 ≤ g) (hf : st.cf + (n1 + n2 : Nat) ≤ 5000) :
    ∃ st1 st2, ev LP MZ g fn s a st = .ok x st1 ∧ ev LP MZ g fn s b st1 = .ok y st2 ∧ st2.cf = st.cf + (n1 + n2 : Nat) := by
  obtain ⟨st1, h1, e1⟩ := ha.2 g fn st (by omega) (by omega)
  obtain ⟨st2, h2, e2⟩ := hb.2 g fn st1 (by omega) (by omega)
  exact ⟨st1, st2, h1, h2, by omega⟩
theorem Comes.op {a b : E} {d1 d2 n1 n2 : Nat} {x y v : V} (ha : Comes s a d1 n1 x) (hb : Comes s b d2 n2 y) (hv : smallV v)
    (h : ∀ (rec_ : Rec) fn st0 st1 st2, rec_ fn s a st0 = .ok x st1 → rec_ fn s b st1 = .ok y st2 → opF rec_ fn s (.mk 9 nm n names binds [a, b] at_) st0 = .ok v st2) : Comes s (.mk 9 nm n names binds [a, b] at_) (max d1 d2 + 1) (n1 + n2 + 1) v := by
  refine ⟨hv, fun g fn st hg hf => ?_⟩
  obtain ⟨g, rfl⟩ : ∃ k, g = k + 1 := ⟨g - 1, by omega⟩
  obtain ⟨st1, st2, h1, h2, h3⟩ := two ha hb (g := g) (fn := fn) (st := { st with cf := st.cf + 1 }) (by omega) (by simp; omega)
  obtain ⟨st3, e1, e2⟩ := step_ok (s := s) (e := .mk 9 nm n names binds [a, b] at_) (g := g) (fn := fn) (st := st) (st' := st2) hv (by omega) (by simp [valueF, E.k]; exact h _ fn _ st1 st2 h1 h2)
  exact ⟨st3, e1, by rw [e2, h3]; simp; omega⟩
theorem Comes.add {a b : E} {d1 d2 n1 n2 : Nat} {x y : Int} (ha : Comes s a d1 n1 (numV x)) (hb : Comes s b d2 n2 (numV y)) : Comes s (.mk 9 (1, 43) n names binds [a, b] at_) (max d1 d2 + 1) (n1 + n2 + 1) (numV (wrapF .i64 (x + y))) := by
  refine Comes.op ha hb (numV_small _) fun rec_ fn st0 st1 st2 h1 h2 => ?_
  simp [opF, E.name, E.kids, h1, h2, numV, V.k, V.n, numR]
theorem Comes.eq {a b : E} {d1 d2 n1 n2 : Nat} {x y : V} (ha : Comes s a d1 n1 x) (hb : Comes s b d2 n2 y) : Comes s (.mk 9 (2, 15677) n names binds [a, b] at_) (max d1 d2 + 1) (n1 + n2 + 1) (boolV (x.cmp y == 0)) := by
  refine Comes.op ha hb (boolV_small _) fun rec_ fn st0 st1 st2 h1 h2 => ?_
  simp [opF, E.name, E.kids, h1, h2, boolR]
theorem Comes.and {a b : E} {d1 d2 n1 n2 : Nat} (ha : Comes s a d1 n1 (boolV true)) (hb : Comes s b d2 n2 (boolV true)) : Comes s (.mk 9 (3, 6581857) n names binds [a, b] at_) (max d1 d2 + 1) (n1 + n2 + 1) (boolV true) := by
  refine Comes.op ha hb (boolV_small _) fun rec_ fn st0 st1 st2 h1 h2 => ?_
  simp [opF, E.name, E.kids, truthF, h1, h2, boolR, boolV, V.k, V.n]

/- built-in functions -/
theorem Comes.call1 {a : E} {d1 n1 : Nat} {x v : V} (ha : Comes s a d1 n1 x) (hv : smallV v) (har : arityF nm = some 1) (h : ∀ st, builtF nm [x] st = .ok v st) : Comes s (.mk 3 nm n names binds [a] at_) (d1 + 1) (n1 + 1) v := by
  refine ⟨hv, fun g fn st hg hf => ?_⟩
  obtain ⟨g, rfl⟩ : ∃ k, g = k + 1 := ⟨g - 1, by omega⟩
  obtain ⟨st1, h1, e1⟩ := ha.2 g fn { st with cf := st.cf + 1 } (by omega) (by simp; omega)
  obtain ⟨st3, e2, e3⟩ := step_ok (s := s) (e := .mk 3 nm n names binds [a] at_) (g := g) (fn := fn) (st := st) (st' := st1) hv (by omega) (by simp [valueF, applyF, allF, E.k, E.name, E.kids, har, h1, h])
  exact ⟨st3, e2, by rw [e3, e1]; simp; omega⟩
theorem Comes.call2 {a b : E} {d1 d2 n1 n2 : Nat} {x y v : V} (ha : Comes s a d1 n1 x) (hb : Comes s b d2 n2 y) (hv : smallV v) (har : arityF nm = some 2) (h : ∀ st, builtF nm [x, y] st = .ok v st) : Comes s (.mk 3 nm n names binds [a, b] at_) (max d1 d2 + 1) (n1 + n2 + 1) v := by
  refine ⟨hv, fun g fn st hg hf => ?_⟩
  obtain ⟨g, rfl⟩ : ∃ k, g = k + 1 := ⟨g - 1, by omega⟩
  obtain ⟨st1, st2, h1, h2, h3⟩ := two ha hb (g := g) (fn := fn) (st := { st with cf := st.cf + 1 }) (by omega) (by simp; omega)
  obtain ⟨st3, e2, e3⟩ := step_ok (s := s) (e := .mk 3 nm n names binds [a, b] at_) (g := g) (fn := fn) (st := st) (st' := st2) hv (by omega) (by simp [valueF, applyF, allF, E.k, E.name, E.kids, har, h1, h2, h])
  exact ⟨st3, e2, by rw [e3, h3]; simp; omega⟩
theorem Stops.call2 {a b : E} {d1 d2 n1 n2 : Nat} {x y : V} {c : Int} (ha : Comes s a d1 n1 x) (hb : Comes s b d2 n2 y) (har : arityF nm = some 2) (h : ∀ st, builtF nm [x, y] st = .stop c st) : Stops s (.mk 3 nm n names binds [a, b] at_) (max d1 d2 + 1) (n1 + n2 + 1) c := by
  intro g fn st hg hf
  obtain ⟨g, rfl⟩ : ∃ k, g = k + 1 := ⟨g - 1, by omega⟩
  obtain ⟨st1, st2, h1, h2, h3⟩ := two ha hb (g := g) (fn := fn) (st := { st with cf := st.cf + 1 }) (by omega) (by simp; omega)
  exact step_stop (s := s) (e := .mk 3 nm n names binds [a, b] at_) (g := g) (fn := fn) (st := st) (st' := st2) (by omega) (by simp [valueF, applyF, allF, E.k, E.name, E.kids, har, h1, h2, h])
theorem three {a b c : E} {d1 d2 d3 n1 n2 n3 : Nat} {x y z : V} (ha : Comes s a d1 n1 x) (hb : Comes s b d2 n2 y) (hc : Comes s c d3 n3 z) {g : Nat} {fn : S} {st : St} (hg : max (max d1 d2) d3 ≤ g) (hf : st.cf + (n1 + n2 + n3 : Nat) ≤ 5000) :
    ∃ st1 st2 st3, ev LP MZ g fn s a st = .ok x st1 ∧ ev LP MZ g fn s b st1 = .ok y st2 ∧ ev LP MZ g fn s c st2 = .ok z st3 ∧ st3.cf = st.cf + (n1 + n2 + n3 : Nat) := by
  obtain ⟨st1, h1, e1⟩ := ha.2 g fn st (by omega) (by omega)
  obtain ⟨st2, h2, e2⟩ := hb.2 g fn st1 (by omega) (by omega)
  obtain ⟨st3, h3, e3⟩ := hc.2 g fn st2 (by omega) (by omega)
  exact ⟨st1, st2, st3, h1, h2, h3, by omega⟩
theorem Comes.call3 {a b c : E} {d1 d2 d3 n1 n2 n3 : Nat} {x y z v : V} (ha : Comes s a d1 n1 x) (hb : Comes s b d2 n2 y) (hc : Comes s c d3 n3 z) (hv : smallV v) (har : arityF nm = some 3) (h : ∀ st, builtF nm [x, y, z] st = .ok v st) : Comes s (.mk 3 nm n names binds [a, b, c] at_) (max (max d1 d2) d3 + 1) (n1 + n2 + n3 + 1) v := by
  refine ⟨hv, fun g fn st hg hf => ?_⟩
  obtain ⟨g, rfl⟩ : ∃ k, g = k + 1 := ⟨g - 1, by omega⟩
  obtain ⟨st1, st2, st3, h1, h2, h3, h4⟩ := three ha hb hc (g := g) (fn := fn) (st := { st with cf := st.cf + 1 }) (by omega) (by simp; omega)
  obtain ⟨st5, e2, e3⟩ := step_ok (s := s) (e := .mk 3 nm n names binds [a, b, c] at_) (g := g) (fn := fn) (st := st) (st' := st3) hv (by omega) (by simp [valueF, applyF, allF, E.k, E.name, E.kids, har, h1, h2, h3, h])
  exact ⟨st5, e2, by rw [e3, h4]; simp; omega⟩
theorem Stops.call3 {a b c : E} {d1 d2 d3 n1 n2 n3 : Nat} {x y z : V} {cd : Int} (ha : Comes s a d1 n1 x) (hb : Comes s b d2 n2 y) (hc : Comes s c d3 n3 z) (har : arityF nm = some 3) (h : ∀ st, builtF nm [x, y, z] st = .stop cd st) : Stops s (.mk 3 nm n names binds [a, b, c] at_) (max (max d1 d2) d3 + 1) (n1 + n2 + n3 + 1) cd := by
  intro g fn st hg hf
  obtain ⟨g, rfl⟩ : ∃ k, g = k + 1 := ⟨g - 1, by omega⟩
  obtain ⟨st1, st2, st3, h1, h2, h3, h4⟩ := three ha hb hc (g := g) (fn := fn) (st := { st with cf := st.cf + 1 }) (by omega) (by simp; omega)
  exact step_stop (s := s) (e := .mk 3 nm n names binds [a, b, c] at_) (g := g) (fn := fn) (st := st) (st' := st3) (by omega) (by simp [valueF, applyF, allF, E.k, E.name, E.kids, har, h1, h2, h3, h])
end
end Go.Sx
/-
  SV: the expressions of the laws. No condition.
-/
namespace Go.Sx
def e0 : E := .mk 9 (2, 15677) 0 [] [] [.mk 9 (1, 43) 0 [] [] [.mk 3 (4, 1702521203) 0 [] [] [.mk 3 (4, 1701536116) 0 [] [] [.mk 2 (1, 118) 0 [] [] [] 10, .mk 2 (1, 105) 0 [] [] [] 13] 5] 0, .mk 3 (4, 1702521203) 0 [] [] [.mk 3 (4, 1886351972) 0 [] [] [.mk 2 (1, 118) 0 [] [] [] 29, .mk 2 (1, 105) 0 [] [] [] 32] 24] 19] 0, .mk 3 (4, 1702521203) 0 [] [] [.mk 2 (1, 118) 0 [] [] [] 44] 39] 0
def e1 : E := .mk 9 (2, 15677) 0 [] [] [.mk 3 (2, 29793) 0 [] [] [.mk 3 (4, 1752397168) 0 [] [] [.mk 2 (1, 118) 0 [] [] [] 8, .mk 2 (1, 120) 0 [] [] [] 11] 3, .mk 3 (4, 1702521203) 0 [] [] [.mk 2 (1, 118) 0 [] [] [] 20] 15] 0, .mk 2 (1, 120) 0 [] [] [] 27] 0
def e2 : E := .mk 9 (2, 15677) 0 [] [] [.mk 3 (4, 1701536116) 0 [] [] [.mk 3 (4, 1752397168) 0 [] [] [.mk 2 (1, 118) 0 [] [] [] 10, .mk 2 (1, 120) 0 [] [] [] 13] 5, .mk 3 (4, 1702521203) 0 [] [] [.mk 2 (1, 118) 0 [] [] [] 22] 17] 0, .mk 2 (1, 118) 0 [] [] [] 29] 0
def e3 : E := .mk 9 (2, 15677) 0 [] [] [.mk 3 (4, 1702521203) 0 [] [] [.mk 3 (4, 1701536116) 0 [] [] [.mk 2 (1, 118) 0 [] [] [] 10, .mk 2 (1, 105) 0 [] [] [] 13] 5] 0, .mk 3 (3, 7889261) 0 [] [] [.mk 0 (0, 0) 0 [] [] [] 24, .mk 3 (3, 7235949) 0 [] [] [.mk 2 (1, 105) 0 [] [] [] 31, .mk 3 (4, 1702521203) 0 [] [] [.mk 2 (1, 118) 0 [] [] [] 39] 34] 27] 20] 0
def e4 : E := .mk 3 (2, 29793) 0 [] [] [.mk 2 (1, 118) 0 [] [] [] 3, .mk 2 (1, 105) 0 [] [] [] 6] 0
def e5 : E := .mk 3 (3, 7628147) 0 [] [] [.mk 2 (1, 118) 0 [] [] [] 4, .mk 2 (1, 105) 0 [] [] [] 7, .mk 2 (1, 120) 0 [] [] [] 10] 0
def e6 : E := .mk 9 (3, 6581857) 0 [] [] [.mk 9 (3, 6581857) 0 [] [] [.mk 9 (2, 15677) 0 [] [] [.mk 3 (2, 29793) 0 [] [] [.mk 3 (3, 7628147) 0 [] [] [.mk 2 (1, 118) 0 [] [] [] 7, .mk 2 (1, 105) 0 [] [] [] 10, .mk 2 (1, 120) 0 [] [] [] 13] 3, .mk 2 (1, 105) 0 [] [] [] 17] 0, .mk 2 (1, 120) 0 [] [] [] 23] 0, .mk 9 (2, 15677) 0 [] [] [.mk 3 (2, 29793) 0 [] [] [.mk 3 (4, 1701536116) 0 [] [] [.mk 2 (1, 118) 0 [] [] [] 37, .mk 9 (1, 43) 0 [] [] [.mk 2 (1, 105) 0 [] [] [] 40, .mk 0 (0, 0) 1 [] [] [] 44] 40] 32, .mk 2 (1, 105) 0 [] [] [] 48] 29, .mk 3 (2, 29793) 0 [] [] [.mk 2 (1, 118) 0 [] [] [] 57, .mk 2 (1, 105) 0 [] [] [] 60] 54] 29] 0, .mk 9 (2, 15677) 0 [] [] [.mk 3 (2, 29793) 0 [] [] [.mk 3 (4, 1886351972) 0 [] [] [.mk 2 (1, 118) 0 [] [] [] 75, .mk 2 (1, 105) 0 [] [] [] 78] 70, .mk 0 (0, 0) 0 [] [] [] 82] 67, .mk 3 (2, 29793) 0 [] [] [.mk 2 (1, 118) 0 [] [] [] 91, .mk 2 (1, 105) 0 [] [] [] 94] 88] 67] 0
def e7 : E := .mk 3 (2, 29793) 0 [] [] [.mk 3 (3, 7628147) 0 [] [] [.mk 2 (1, 118) 0 [] [] [] 7, .mk 2 (1, 105) 0 [] [] [] 10, .mk 2 (1, 120) 0 [] [] [] 13] 3, .mk 0 (0, 0) 0 [] [] [] 17] 0
def e8 : E := .mk 3 (2, 29793) 0 [] [] [.mk 3 (3, 7628147) 0 [] [] [.mk 2 (1, 118) 0 [] [] [] 7, .mk 2 (1, 105) 0 [] [] [] 10, .mk 2 (1, 120) 0 [] [] [] 13] 3, .mk 0 (0, 0) 1 [] [] [] 17] 0
def e9 : E := .mk 3 (2, 29793) 0 [] [] [.mk 3 (3, 7628147) 0 [] [] [.mk 2 (1, 118) 0 [] [] [] 7, .mk 2 (1, 105) 0 [] [] [] 10, .mk 2 (1, 120) 0 [] [] [] 13] 3, .mk 0 (0, 0) 2 [] [] [] 17] 0
def e10 : E := .mk 3 (2, 29793) 0 [] [] [.mk 3 (3, 7628147) 0 [] [] [.mk 2 (1, 118) 0 [] [] [] 7, .mk 2 (1, 105) 0 [] [] [] 10, .mk 2 (1, 120) 0 [] [] [] 13] 3, .mk 0 (0, 0) 3 [] [] [] 17] 0
def e11 : E := .mk 3 (2, 29793) 0 [] [] [.mk 3 (3, 7628147) 0 [] [] [.mk 2 (1, 118) 0 [] [] [] 7, .mk 2 (1, 105) 0 [] [] [] 10, .mk 2 (1, 120) 0 [] [] [] 13] 3, .mk 0 (0, 0) 4 [] [] [] 17] 0
def e12 : E := .mk 6 (0, 0) 0 [] [] [.mk 9 (1, 60) 0 [] [] [.mk 0 (0, 0) 1 [] [] [] 3, .mk 0 (0, 0) 2 [] [] [] 7] 3, .mk 3 (2, 29793) 0 [] [] [.mk 5 (0, 0) 0 [] [] [.mk 0 (0, 0) 5 [] [] [] 18, .mk 0 (0, 0) 6 [] [] [] 21] 17, .mk 0 (0, 0) 1 [] [] [] 25] 14, .mk 0 (0, 0) 0 [] [] [] 33] 0
def e13 : E := .mk 3 (2, 29793) 0 [] [] [.mk 5 (0, 0) 0 [] [] [.mk 0 (0, 0) 5 [] [] [] 4] 3, .mk 0 (0, 0) 1 [] [] [] 8] 0
def e14 : E := .mk 9 (1, 43) 0 [] [] [.mk 0 (0, 0) 1 [] [] [] 0, .mk 1 (0, 0) 1 [] [] [] 4] 0
def e15 : E := .mk 3 (3, 7889261) 0 [] [] [.mk 0 (0, 0) 1 [] [] [] 4, .mk 0 (0, 0) 2 [] [] [] 7] 0
end Go.Sx
/-
  SV: the equations of lists hold. No condition.
-/
namespace Go.Sx
open Go
def listV (vs : List V) : V := .mk 2 0 0 0 vs
def isNum (v : V) : Prop := ∃ n, v = numV n
theorem size_num (n : Int) : (numV n).size = 1 := by simp [numV, V.size, V.sizes]
theorem sizes_num : ∀ {vs : List V}, (∀ v ∈ vs, isNum v) → V.sizes vs = vs.length
  | [], _ => by simp [V.sizes]
  | v :: l, h => by
    obtain ⟨n, rfl⟩ := h v (by simp)
    rw [V.sizes, size_num, sizes_num (vs := l) fun x hx => h x (by simp [hx])]; simp; omega
theorem list_small {vs : List V} (h : ∀ v ∈ vs, isNum v) (hl : vs.length ≤ 200) : smallV (listV vs) := by
  refine ⟨?_, ?_⟩
  · rw [listV, V.size, sizes_num h]; omega
  · intro hh; have := hh.2; simp [listV, V.kids] at this; omega
theorem num_small {v : V} (h : isNum v) : smallV v := by obtain ⟨n, rfl⟩ := h; exact numV_small n
theorem cmp_num (a b : Int) : (numV a).cmp (numV b) = cmpInt a b := by
  have hs : cmpS (0, 0) (0, 0) = 0 := by decide
  simp only [numV, V.cmp, V.cmps, hs]
  unfold cmpInt
  split <;> simp_all
theorem cmp_self (a : Int) : (numV a).cmp (numV a) = 0 := by rw [cmp_num]; simp [cmpInt]
theorem cmp_isNum {v : V} (h : isNum v) : v.cmp v = 0 := by obtain ⟨n, rfl⟩ := h; exact cmp_self n
theorem cmps_self : ∀ {vs : List V}, (∀ v ∈ vs, isNum v) → V.cmps vs vs = 0
  | [], _ => by simp [V.cmps]
  | v :: l, h => by
    rw [V.cmps, cmp_isNum (h v (by simp)), cmps_self (vs := l) fun x hx => h x (by simp [hx])]; simp
theorem cmp_list {vs : List V} (h : ∀ v ∈ vs, isNum v) : (listV vs).cmp (listV vs) = 0 := by
  have hs : cmpS (0, 0) (0, 0) = 0 := by decide
  simp [listV, V.cmp, hs, cmps_self h, cmpInt]

/- the variables v, i, x -/
def scV (vs : List V) (i x : Int) : Sc := [((1, 120), numV x), ((1, 105), numV i), ((1, 118), listV vs)]
section
variable {vs : List V} {i x : Int} {names : List S} {binds : List (List S)} {n at_ : Int} {kids : List E} (h : ∀ v ∈ vs, isNum v) (hl : vs.length ≤ 5)
include h hl
theorem c_v : Comes (scV vs i x) (.mk 2 (1, 118) n names binds kids at_) 1 1 (listV vs) := Comes.var (list_small h (by omega)) (by simp [lookS, scV])
theorem c_i : Comes (scV vs i x) (.mk 2 (1, 105) n names binds kids at_) 1 1 (numV i) := Comes.var (numV_small _) (by simp [lookS, scV])
theorem c_x : Comes (scV vs i x) (.mk 2 (1, 120) n names binds kids at_) 1 1 (numV x) := Comes.var (numV_small _) (by simp [lookS, scV])
end
section
variable {s : Sc} {names : List S} {binds : List (List S)} {n at_ : Int} {a b c : E} {d1 d2 d3 n1 n2 n3 : Nat} {vs : List V}
theorem c_size (ha : Comes s a d1 n1 (listV vs)) : Comes s (.mk 3 (4, 1702521203) n names binds [a] at_) (d1 + 1) (n1 + 1) (numV vs.length) :=
  Comes.call1 ha (numV_small _) (by decide) (fun st => by simp [builtF, listV, V.k, V.kids, numR])
theorem c_take {m : Int} (h : ∀ v ∈ vs, isNum v) (hl : vs.length ≤ 200) (ha : Comes s a d1 n1 (listV vs)) (hb : Comes s b d2 n2 (numV m)) : Comes s (.mk 3 (4, 1701536116) n names binds [a, b] at_) (max d1 d2 + 1) (n1 + n2 + 1) (listV (vs.take m.toNat)) :=
  Comes.call2 ha hb (list_small (fun v hv => h v (List.mem_of_mem_take hv)) (by simp; omega)) (by decide) (fun st => by simp [builtF, listV, numV, V.k, V.n, V.kids])
theorem c_drop {m : Int} (h : ∀ v ∈ vs, isNum v) (hl : vs.length ≤ 200) (ha : Comes s a d1 n1 (listV vs)) (hb : Comes s b d2 n2 (numV m)) : Comes s (.mk 3 (4, 1886351972) n names binds [a, b] at_) (max d1 d2 + 1) (n1 + n2 + 1) (listV (vs.drop m.toNat)) :=
  Comes.call2 ha hb (list_small (fun v hv => h v (List.mem_of_mem_drop hv)) (by simp; omega)) (by decide) (fun st => by simp [builtF, listV, numV, V.k, V.n, V.kids])
theorem c_push {m : Int} (h : ∀ v ∈ vs, isNum v) (hl : vs.length ≤ 100) (ha : Comes s a d1 n1 (listV vs)) (hb : Comes s b d2 n2 (numV m)) : Comes s (.mk 3 (4, 1752397168) n names binds [a, b] at_) (max d1 d2 + 1) (n1 + n2 + 1) (listV (vs ++ [numV m])) :=
  Comes.call2 ha hb (list_small (fun v hv => by
    rcases List.mem_append.1 hv with hv | hv
    · exact h v hv
    · simp at hv; exact ⟨m, hv⟩) (by simp; omega)) (by decide) (fun st => by simp [builtF, listV, V.k, V.kids])
theorem c_at {m : Nat} (h : ∀ v ∈ vs, isNum v) (hm : m < vs.length) (ha : Comes s a d1 n1 (listV vs)) (hb : Comes s b d2 n2 (numV m)) : Comes s (.mk 3 (2, 29793) n names binds [a, b] at_) (max d1 d2 + 1) (n1 + n2 + 1) vs[m] :=
  Comes.call2 ha hb (num_small (h _ (List.getElem_mem hm))) (by decide) (fun st => by
    have h1 : ¬ ((m : Int) < 0) := by omega
    simp [builtF, listV, numV, V.k, V.n, V.kids, h1, hm])
theorem s_at {m : Int} (hm : m < 0 ∨ (vs.length : Int) ≤ m) (ha : Comes s a d1 n1 (listV vs)) (hb : Comes s b d2 n2 (numV m)) : Stops s (.mk 3 (2, 29793) n names binds [a, b] at_) (max d1 d2 + 1) (n1 + n2 + 1) 13 :=
  Stops.call2 ha hb (by decide) (fun st => by
    by_cases h1 : m < 0
    · simp [builtF, listV, numV, V.k, V.n, V.kids, h1]
    · have h2 : vs.length ≤ m.toNat := by omega
      simp [builtF, listV, numV, V.k, V.n, V.kids, h1, h2])
theorem c_set {m : Nat} {z : Int} (h : ∀ v ∈ vs, isNum v) (hl : vs.length ≤ 200) (hm : m < vs.length) (ha : Comes s a d1 n1 (listV vs)) (hb : Comes s b d2 n2 (numV m)) (hc : Comes s c d3 n3 (numV z)) : Comes s (.mk 3 (3, 7628147) n names binds [a, b, c] at_) (max (max d1 d2) d3 + 1) (n1 + n2 + n3 + 1) (listV (vs.set m (numV z))) :=
  Comes.call3 ha hb hc (list_small (fun v hv => by
    rcases List.mem_or_eq_of_mem_set hv with hv | hv
    · exact h v hv
    · exact ⟨z, hv⟩) (by simp; omega)) (by decide) (fun st => by
    have h1 : ¬ ((m : Int) < 0) := by omega
    simp [builtF, listV, numV, V.k, V.n, V.kids, h1, hm])
theorem s_set {m : Int} {z : V} (hm : m < 0 ∨ (vs.length : Int) ≤ m) (ha : Comes s a d1 n1 (listV vs)) (hb : Comes s b d2 n2 (numV m)) (hc : Comes s c d3 n3 z) : Stops s (.mk 3 (3, 7628147) n names binds [a, b, c] at_) (max (max d1 d2) d3 + 1) (n1 + n2 + n3 + 1) 13 :=
  Stops.call3 ha hb hc (by decide) (fun st => by
    by_cases h1 : m < 0
    · simp [builtF, listV, numV, V.k, V.n, V.kids, h1]
    · have h2 : vs.length ≤ m.toNat := by omega
      simp [builtF, listV, numV, V.k, V.n, V.kids, h1, h2])
theorem c_max {x y : Int} (ha : Comes s a d1 n1 (numV x)) (hb : Comes s b d2 n2 (numV y)) : Comes s (.mk 3 (3, 7889261) n names binds [a, b] at_) (max d1 d2 + 1) (n1 + n2 + 1) (numV (max x y)) :=
  Comes.call2 ha hb (numV_small _) (by decide) (fun st => by simp [builtF, numV, V.k, V.n, numR])
theorem c_min {x y : Int} (ha : Comes s a d1 n1 (numV x)) (hb : Comes s b d2 n2 (numV y)) : Comes s (.mk 3 (3, 7235949) n names binds [a, b] at_) (max d1 d2 + 1) (n1 + n2 + 1) (numV (min x y)) :=
  Comes.call2 ha hb (numV_small _) (by decide) (fun st => by simp [builtF, numV, V.k, V.n, numR])
end
theorem c_eqT {s : Sc} {names : List S} {binds : List (List S)} {n at_ : Int} {a b : E} {d1 d2 n1 n2 : Nat} {x y : V} (ha : Comes s a d1 n1 x) (hb : Comes s b d2 n2 y) (h : x.cmp y = 0) : Comes s (.mk 9 (2, 15677) n names binds [a, b] at_) (max d1 d2 + 1) (n1 + n2 + 1) (boolV true) := by
  have c := Comes.eq (n := n) (names := names) (binds := binds) (at_ := at_) ha hb
  rw [h] at c
  exact c
theorem c_addW {s : Sc} {names : List S} {binds : List (List S)} {n at_ : Int} {a b : E} {d1 d2 n1 n2 : Nat} {x y z : Int} (ha : Comes s a d1 n1 (numV x)) (hb : Comes s b d2 n2 (numV y)) (h : wrapF .i64 (x + y) = z) : Comes s (.mk 9 (1, 43) n names binds [a, b] at_) (max d1 d2 + 1) (n1 + n2 + 1) (numV z) := by
  rw [← h]; exact Comes.add ha hb
/- e is true -/
def True' (s : Sc) (e : E) : Prop := ∃ d n, d ≤ 100 ∧ n ≤ 4000 ∧ Comes s e d n (boolV true)
section
variable {vs : List V} {i x : Int} (h : ∀ v ∈ vs, isNum v) (hl : vs.length ≤ 5)
include h hl
theorem t0 : True' (scV vs i x) e0 := by
  have c : Comes (scV vs i x) e0 _ _ _ := Comes.eq (Comes.add (c_size (c_take h (by omega) (c_v h hl) (c_i h hl))) (c_size (c_drop h (by omega) (c_v h hl) (c_i h hl)))) (c_size (c_v h hl))
  have e : wrapF .i64 (((vs.take i.toNat).length : Int) + ((vs.drop i.toNat).length : Int)) = (vs.length : Int) := by
    simp only [List.length_take, List.length_drop]
    rw [wrap_id (by omega) (by omega)]
    omega
  rw [e, cmp_self] at c
  exact ⟨_, _, by decide, by decide, c⟩
theorem t1 : True' (scV vs i x) e1 := by
  have hp : ∀ v ∈ vs ++ [numV x], isNum v := fun v hv => by
    rcases List.mem_append.1 hv with hv | hv
    · exact h v hv
    · simp at hv; exact ⟨x, hv⟩
  have c : Comes (scV vs i x) e1 _ _ _ := Comes.eq (c_at (m := vs.length) hp (by simp) (c_push h (by omega) (c_v h hl) (c_x h hl)) (c_size (c_v h hl))) (c_x h hl)
  have e : (vs ++ [numV x])[vs.length]'(by simp) = numV x := by simp
  rw [e, cmp_self] at c
  exact ⟨_, _, by decide, by decide, c⟩
theorem t2 : True' (scV vs i x) e2 := by
  have hp : ∀ v ∈ vs ++ [numV x], isNum v := fun v hv => by
    rcases List.mem_append.1 hv with hv | hv
    · exact h v hv
    · simp at hv; exact ⟨x, hv⟩
  have c : Comes (scV vs i x) e2 _ _ _ := Comes.eq (c_take hp (by simp; omega) (c_push h (by omega) (c_v h hl) (c_x h hl)) (c_size (c_v h hl))) (c_v h hl)
  have e : (vs ++ [numV x]).take ((vs.length : Int)).toNat = vs := by simp
  rw [e, cmp_list h] at c
  exact ⟨_, _, by decide, by decide, c⟩
theorem t3 : True' (scV vs i x) e3 := by
  have c : Comes (scV vs i x) e3 _ _ _ := Comes.eq (c_size (c_take h (by omega) (c_v h hl) (c_i h hl))) (c_max (Comes.int 0) (c_min (c_i h hl) (c_size (c_v h hl))))
  have e : ((vs.take i.toNat).length : Int) = max 0 (min i vs.length) := by
    simp only [List.length_take]; omega
  rw [e, cmp_self] at c
  exact ⟨_, _, by decide, by decide, c⟩
theorem t4s (hm : i < 0 ∨ (vs.length : Int) ≤ i) : ∃ d n, d ≤ 100 ∧ n ≤ 4000 ∧ Stops (scV vs i x) e4 d n 13 :=
  ⟨_, _, by decide, by decide, (s_at hm (c_v h hl) (c_i h hl) : Stops (scV vs i x) e4 _ _ 13)⟩
theorem t5s (hm : i < 0 ∨ (vs.length : Int) ≤ i) : ∃ d n, d ≤ 100 ∧ n ≤ 4000 ∧ Stops (scV vs i x) e5 d n 13 :=
  ⟨_, _, by decide, by decide, (s_set hm (c_v h hl) (c_i h hl) (c_x h hl) : Stops (scV vs i x) e5 _ _ 13)⟩
theorem c_i' {m : Nat} (hm : i = m) {n at_ : Int} : Comes (scV vs i x) (.mk 2 (1, 105) n [] [] [] at_) 1 1 (numV m) := by rw [← hm]; exact c_i h hl
theorem t4c {m : Nat} (hi : i = m) (hm : m < vs.length) : ∃ d n, d ≤ 100 ∧ n ≤ 4000 ∧ Comes (scV vs i x) e4 d n vs[m] :=
  ⟨_, _, by decide, by decide, (c_at h hm (c_v h hl) (c_i' h hl hi) : Comes (scV vs i x) e4 _ _ vs[m])⟩
theorem t5c {m : Nat} (hi : i = m) (hm : m < vs.length) : ∃ d n, d ≤ 100 ∧ n ≤ 4000 ∧ Comes (scV vs i x) e5 d n (listV (vs.set m (numV x))) :=
  ⟨_, _, by decide, by decide, (c_set h (by omega) hm (c_v h hl) (c_i' h hl hi) (c_x h hl) : Comes (scV vs i x) e5 _ _ _)⟩
theorem set_num {m : Nat} : ∀ v ∈ vs.set m (numV x), isNum v := fun v hv => by
  rcases List.mem_or_eq_of_mem_set hv with hv | hv
  · exact h v hv
  · exact ⟨x, hv⟩
theorem t6 {m : Nat} (hi : i = m) (hm : m < vs.length) : True' (scV vs i x) e6 := by
  have w : wrapF .i64 (((m : Nat) : Int) + 1) = ((m + 1 : Nat) : Int) := by rw [wrap_id (by omega) (by omega)]; rfl
  have ht : ∀ v ∈ vs.take (m + 1), isNum v := fun v hv => h v (List.mem_of_mem_take hv)
  have hd : ∀ v ∈ vs.drop m, isNum v := fun v hv => h v (List.mem_of_mem_drop hv)
  have htl : m < (vs.take (((m + 1 : Nat) : Int)).toNat).length := by simp; omega
  have hdl : 0 < (vs.drop ((m : Nat) : Int).toNat).length := by simp; omega
  have hv := cmp_isNum (h _ (List.getElem_mem hm))
  have q1 : ((vs.set m (numV x))[m]'(by simpa using hm)).cmp (numV x) = 0 := by rw [List.getElem_set_self, cmp_self]
  have q2 : ((vs.take (((m + 1 : Nat) : Int)).toNat)[m]'htl).cmp vs[m] = 0 := by rw [List.getElem_take, hv]
  have q3 : ((vs.drop ((m : Nat) : Int).toNat)[0]'hdl).cmp vs[m] = 0 := by
    have : (vs.drop ((m : Nat) : Int).toNat)[0]'hdl = vs[m] := by simp
    rw [this, hv]
  have c : Comes (scV vs i x) e6 _ _ _ := Comes.and (Comes.and
      (c_eqT (c_at (m := m) (set_num (x := x) h hl) (by simpa using hm) (c_set h (by omega) hm (c_v h hl) (c_i' h hl hi) (c_x h hl)) (c_i' h hl hi)) (c_x h hl) q1)
      (c_eqT (c_at (m := m) (fun v hv => h v (List.mem_of_mem_take hv)) htl (c_take h (by omega) (c_v h hl) (c_addW (c_i' h hl hi) (Comes.int 1) w)) (c_i' h hl hi)) (c_at h hm (c_v h hl) (c_i' h hl hi)) q2))
      (c_eqT (c_at (m := 0) (fun v hv => h v (List.mem_of_mem_drop hv)) hdl (c_drop h (by omega) (c_v h hl) (c_i' h hl hi)) (Comes.int 0)) (c_at h hm (c_v h hl) (c_i' h hl hi)) q3)
  exact ⟨_, _, by decide, by decide, c⟩
theorem t7 {m : Nat} (hi : i = m) (hm : m < vs.length) (hk : 0 < vs.length) : ∃ d n v, d ≤ 100 ∧ n ≤ 4000 ∧ Comes (scV vs i x) e7 d n v ∧ isNum v ∧ (0 ≠ m → v = vs[0]) :=
  ⟨_, _, _, by decide, by decide, (c_at (m := 0) (set_num (x := x) h hl) (by simpa using hk) (c_set h (by omega) hm (c_v h hl) (c_i' h hl hi) (c_x h hl)) (Comes.int 0) : Comes (scV vs i x) e7 _ _ _), set_num (x := x) h hl _ (List.getElem_mem _), fun hne => by rw [List.getElem_set_ne (fun e => hne e.symm)]⟩
theorem t8 {m : Nat} (hi : i = m) (hm : m < vs.length) (hk : 1 < vs.length) : ∃ d n v, d ≤ 100 ∧ n ≤ 4000 ∧ Comes (scV vs i x) e8 d n v ∧ isNum v ∧ (1 ≠ m → v = vs[1]) :=
  ⟨_, _, _, by decide, by decide, (c_at (m := 1) (set_num (x := x) h hl) (by simpa using hk) (c_set h (by omega) hm (c_v h hl) (c_i' h hl hi) (c_x h hl)) (Comes.int 1) : Comes (scV vs i x) e8 _ _ _), set_num (x := x) h hl _ (List.getElem_mem _), fun hne => by rw [List.getElem_set_ne (fun e => hne e.symm)]⟩
theorem t9 {m : Nat} (hi : i = m) (hm : m < vs.length) (hk : 2 < vs.length) : ∃ d n v, d ≤ 100 ∧ n ≤ 4000 ∧ Comes (scV vs i x) e9 d n v ∧ isNum v ∧ (2 ≠ m → v = vs[2]) :=
  ⟨_, _, _, by decide, by decide, (c_at (m := 2) (set_num (x := x) h hl) (by simpa using hk) (c_set h (by omega) hm (c_v h hl) (c_i' h hl hi) (c_x h hl)) (Comes.int 2) : Comes (scV vs i x) e9 _ _ _), set_num (x := x) h hl _ (List.getElem_mem _), fun hne => by rw [List.getElem_set_ne (fun e => hne e.symm)]⟩
theorem t10 {m : Nat} (hi : i = m) (hm : m < vs.length) (hk : 3 < vs.length) : ∃ d n v, d ≤ 100 ∧ n ≤ 4000 ∧ Comes (scV vs i x) e10 d n v ∧ isNum v ∧ (3 ≠ m → v = vs[3]) :=
  ⟨_, _, _, by decide, by decide, (c_at (m := 3) (set_num (x := x) h hl) (by simpa using hk) (c_set h (by omega) hm (c_v h hl) (c_i' h hl hi) (c_x h hl)) (Comes.int 3) : Comes (scV vs i x) e10 _ _ _), set_num (x := x) h hl _ (List.getElem_mem _), fun hne => by rw [List.getElem_set_ne (fun e => hne e.symm)]⟩
theorem t11 {m : Nat} (hi : i = m) (hm : m < vs.length) (hk : 4 < vs.length) : ∃ d n v, d ≤ 100 ∧ n ≤ 4000 ∧ Comes (scV vs i x) e11 d n v ∧ isNum v ∧ (4 ≠ m → v = vs[4]) :=
  ⟨_, _, _, by decide, by decide, (c_at (m := 4) (set_num (x := x) h hl) (by simpa using hk) (c_set h (by omega) hm (c_v h hl) (c_i' h hl hi) (c_x h hl)) (Comes.int 4) : Comes (scV vs i x) e11 _ _ _), set_num (x := x) h hl _ (List.getElem_mem _), fun hne => by rw [List.getElem_set_ne (fun e => hne e.symm)]⟩
end
end Go.Sx
