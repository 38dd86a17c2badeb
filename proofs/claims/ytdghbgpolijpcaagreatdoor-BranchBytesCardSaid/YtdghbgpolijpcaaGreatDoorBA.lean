/-
  SB: a machine that has the branches' functions; branches. No condition.
-/
import Derived.Test.YtdghbgpolijpcaaGreatDoorFns
import Derived.Test.YtdghbgpolijpcaaGreatDoorGBase
set_option linter.unusedSimpArgs false
set_option linter.unusedVariables false
set_option linter.unusedSectionVars false
namespace Tb
open Go.Sx Go
structure Br where
  a : Nat
  b : Nat
  n : Int
  m : Int
deriving DecidableEq, Inhabited
def eB (x : Br) : List AV := [.str x.a x.b, I x.n, I x.m]
theorem flatB : Flat 3 eB where
  len _ := rfl
  stb x y hy := by
    simp [eB] at hy
    rcases hy with rfl | rfl | rfl
    · exact stb_str _ _
    · exact stb_int _ _
    · exact stb_int _ _
  cell x y hy := by
    simp [eB] at hy
    rcases hy with rfl | rfl | rfl <;> rfl
  lits x := rfl
abbrev pB : EqP := .parts [(0, .str), (1, .int), (2, .int)]
theorem ev_str (n c m d : Nat) : eqV [] .str (.str n c) (.str m d) = some (Nat.beq n m && Nat.beq c d) := by rw [eqV]
theorem ev_int (a b : Int) : eqV [] .int (I a) (I b) = some (a == b) := by rw [eqV]; simp [beqKind]
theorem ep_cons (off : Nat) (p : EqP) (l : List (Nat × EqP)) (a b : List AV) (x y : AV) (hx : nth off a = some x) (hy : nth off b = some y) (r : Bool) (h : eqV [] p x y = some r) : eqParts [] ((off, p) :: l) a b = if r then eqParts [] l a b else some false := by
  rw [eqParts, hx, hy]; simp only [h]; cases r <;> rfl
theorem eqB (x y : Br) : eqV [] pB (.agg (eB x)) (.agg (eB y)) = some (decide (x = y)) := by
  obtain ⟨a, b, n, m⟩ := x
  obtain ⟨a', b', n', m'⟩ := y
  rw [pB, eqV, ep_cons _ _ _ _ _ (.str a b) (.str a' b') rfl rfl _ (ev_str _ _ _ _), ep_cons _ _ _ _ _ (I n) (I n') rfl rfl _ (ev_int _ _), ep_cons _ _ _ _ _ (I m) (I m') rfl rfl _ (ev_int _ _), eqParts]
  by_cases h1 : a = a' <;> by_cases h2 : b = b' <;> by_cases h3 : n = n' <;> by_cases h4 : m = m' <;> simp [h1, h2, h3, h4]
def ci (a b : Int) : Int := if a < b then -1 else if b < a then 1 else 0
def cs (a b : S) : Int := if ltS a.1 a.2 b.1 b.2 then -1 else if ltS b.1 b.2 a.1 a.2 then 1 else 0
def or3 (a b c : Int) : Int := if a = 0 then if b = 0 then c else b else a
def cmpB (x y : Br) : Int := if x = y then 0 else or3 (cs (x.a, x.b) (y.a, y.b)) (ci x.n y.n) (ci x.m y.m)
def arF (n m : Int) : Int := Int.tmod (if n < 0 then wrapF .i64 (0 - wrapF .i64 (n + 1)) else n) m
/- branches whose name is a string -/
def OkB (x : Br) : Prop := x.b < 256 ^ x.a
def sortB (us : List Br) : List Br := us.mergeSort fun x y => !(decide (cmpB y x < 0))
structure Std0 (C : Cfg) : Prop where
  orc : C.orc = []
  raw : ∀ f, (f ≠ 51 ∧ f ≠ 22 ∧ f ≠ 24 ∧ f ≠ 26) → C.raw f = false
  c_law13_BranchSets : Fn C n_law13_BranchSets law13_BranchSets
  c_law13_BranchAlgebra : Fn C n_law13_BranchAlgebra law13_BranchAlgebra
  c_ref13_List : Fn C n_ref13_List ref13_List
  c_ref13_Same : Fn C n_ref13_Same ref13_Same
  c_branch_Set : Fn C n_branch_Set branch_Set
  c_ref13_Set : Fn C n_ref13_Set ref13_Set
  c_branch_Union : Fn C n_branch_Union branch_Union
  c_ref13_Union : Fn C n_ref13_Union ref13_Union
  c_branch_Minus : Fn C n_branch_Minus branch_Minus
  c_ref13_Minus : Fn C n_ref13_Minus ref13_Minus
  c_branch_Has : Fn C n_branch_Has branch_Has
  c_ref13_Has : Fn C n_ref13_Has ref13_Has
  c_branch_Compare : Fn C n_branch_Compare branch_Compare
  c_ref13_Compare : Fn C n_ref13_Compare ref13_Compare
  c_law13_increasing : Fn C n_law13_increasing law13_increasing
  c_branch_ordered : Fn C n_branch_ordered branch_ordered
  c_branch_members : Fn C n_branch_members branch_members
  c_ref13_put : Fn C n_ref13_put ref13_put
  c_ref13_sign : Fn C n_ref13_sign ref13_sign
  c_slices_Contains_Branch_Branch : Fn C n_slices_Contains_Branch_Branch slices_Contains_Branch_Branch
  c_slices_Index_Branch_Branch : Fn C n_slices_Index_Branch_Branch slices_Index_Branch_Branch
  c_cmp_Or_int : Fn C n_cmp_Or_int cmp_Or_int
  c_cmp_Compare_string : Fn C n_cmp_Compare_string cmp_Compare_string
  c_cmp_Compare_int : Fn C n_cmp_Compare_int cmp_Compare_int
  c_cmp_isNaN_string : Fn C n_cmp_isNaN_string cmp_isNaN_string
  c_cmp_isNaN_int : Fn C n_cmp_isNaN_int cmp_isNaN_int
  c_ref01_Around : Fn C n_ref01_Around ref01_Around
structure Std (C : Cfg) : Prop extends Std0 C where
  rawS : C.raw n_slices_SortFunc_Branch_Branch = true
  c_sort : ∀ (us : List Br) (b : Key) (h : T Blk) (nx : Key), (∀ x ∈ us, OkB x) → us.length ≤ 4000 → T.get b h = some (.cells (rowsA eB us) .fix) →
    C.sum n_slices_SortFunc_Branch_Branch [.slice b 0 us.length 3, .fn n_branch_Compare [] []] h nx = some (.tuple [], T.set b (some (.cells (rowsA eB (sortB us)) .fix)) h, nx)
instance {C : Cfg} : Coe (Std C) (Std0 C) := ⟨Std.toStd0⟩
theorem Std.r {C : Cfg} (S : Std C) {f : Nat} (hf : f ≠ 51 ∧ f ≠ 22 ∧ f ≠ 24 ∧ f ≠ 26) : C.raw f = false := S.raw f hf
end Tb
/-
  SB: small functions. No condition.
-/
namespace Tb
open Go.Sx Go
attribute [simp] opS
variable {C : Cfg} (S : Std0 C)
include S

theorem nan_ok (n : Int) : Pur C n_cmp_isNaN_int [I n] (· = .ret (.bool false)) := by
  intro h nx
  refine S.c_cmp_isNaN_int.call ?_
  simp [cmp_isNaN_int]
  simp [cmp_isNaN_int_r0]
  simp [cmp_isNaN_int_r1]
  exact Ext.refl _ _
theorem nanS_ok (a b : Nat) : Pur C n_cmp_isNaN_string [.str a b] (· = .ret (.bool false)) := by
  intro h nx
  refine S.c_cmp_isNaN_string.call ?_
  simp [cmp_isNaN_string]
  simp [cmp_isNaN_string_r0]
  simp [cmp_isNaN_string_r1]
  exact Ext.refl _ _
theorem cmpInt_ok (a b : Int) : Pur C n_cmp_Compare_int [I a, I b] (· = .ret (I (ci a b))) := by
  intro h nx
  refine S.c_cmp_Compare_int.call ?_
  have r1 : C.raw n_cmp_isNaN_int = false := S.raw _ (by decide)
  simp [cmp_Compare_int]
  simp [cmp_Compare_int_r0]
  simp [cmp_Compare_int_r1, r1]
  refine (nan_ok S a _ _).mono ?_
  rintro o h1 nx1 ⟨rfl, e1⟩
  simp
  simp [cmp_Compare_int_r2, r1]
  refine (nan_ok S b _ _).mono ?_
  rintro o h2 nx2 ⟨rfl, e2⟩
  have hE := e1.trans e2
  simp
  simp [cmp_Compare_int_r3, cmp_Compare_int_r7]
  by_cases h1 : a < b
  · simp [cmp_Compare_int_r9, cmp_Compare_int_r10, h1, ci]; exact hE
  · by_cases h2 : b < a
    · simp [cmp_Compare_int_r9, cmp_Compare_int_r11, cmp_Compare_int_r12, h1, h2, ci]; exact hE
    · simp [cmp_Compare_int_r9, cmp_Compare_int_r11, cmp_Compare_int_r13, h1, h2, ci]; exact hE
theorem cmpS_ok (a b a' b' : Nat) : Pur C n_cmp_Compare_string [.str a b, .str a' b'] (· = .ret (I (cs (a, b) (a', b')))) := by
  intro h nx
  refine S.c_cmp_Compare_string.call ?_
  have r1 : C.raw n_cmp_isNaN_string = false := S.raw _ (by decide)
  simp [cmp_Compare_string]
  simp [cmp_Compare_string_r0]
  simp [cmp_Compare_string_r1, r1]
  refine (nanS_ok S a b _ _).mono ?_
  rintro o h1 nx1 ⟨rfl, e1⟩
  simp
  simp [cmp_Compare_string_r2, r1]
  refine (nanS_ok S a' b' _ _).mono ?_
  rintro o h2 nx2 ⟨rfl, e2⟩
  have hE := e1.trans e2
  simp
  simp [cmp_Compare_string_r3, cmp_Compare_string_r7]
  cases h1 : ltS a b a' b' with
  | true => simp [cmp_Compare_string_r9, cmp_Compare_string_r10, h1, cs]; exact hE
  | false =>
    cases h2 : ltS a' b' a b with
    | true => simp [cmp_Compare_string_r9, cmp_Compare_string_r11, cmp_Compare_string_r12, h1, h2, cs]; exact hE
    | false => simp [cmp_Compare_string_r9, cmp_Compare_string_r11, cmp_Compare_string_r13, h1, h2, cs]; exact hE
theorem or_ok (a b c : Int) : Pur C n_cmp_Or_int [.sl [I a, I b, I c] 3 1 .any] (· = .ret (I (or3 a b c))) := by
  intro h nx
  have w1 : wrapF .i64 1 = 1 := rfl
  have w2 : wrapF .i64 2 = 2 := rfl
  have w3 : wrapF .i64 3 = 3 := rfl
  refine S.c_cmp_Or_int.call ?_
  simp [cmp_Or_int]
  simp [cmp_Or_int_r0]
  simp [cmp_Or_int_r1]
  simp [cmp_Or_int_r2]
  by_cases h1 : a = 0
  · subst h1
    by_cases h2 : b = 0
    · subst h2
      by_cases h3 : c = 0
      · subst h3
        refine W.unroll (W.of ?_)
        try simp [cmp_Or_int_l0]
        try simp [cmp_Or_int_r3]
        try simp [cmp_Or_int_r4]
        try simp [cmp_Or_int_r5, decide_true]
        try simp [cmp_Or_int_r7, w1, w2, w3]
        refine W.unroll (W.of ?_)
        try simp [cmp_Or_int_l0]
        try simp [cmp_Or_int_r3]
        try simp [cmp_Or_int_r4]
        try simp [cmp_Or_int_r5, decide_true]
        try simp [cmp_Or_int_r7, w1, w2, w3]
        refine W.unroll (W.of ?_)
        try simp [cmp_Or_int_l0]
        try simp [cmp_Or_int_r3]
        try simp [cmp_Or_int_r4]
        try simp [cmp_Or_int_r5, decide_true]
        try simp [cmp_Or_int_r7, w1, w2, w3]
        refine W.unroll (W.of ?_)
        try simp [cmp_Or_int_l0]
        try simp [cmp_Or_int_r3]
        try simp [cmp_Or_int_r8, or3]
        exact Ext.refl _ _
      · skip
        refine W.unroll (W.of ?_)
        try simp [cmp_Or_int_l0]
        try simp [cmp_Or_int_r3]
        try simp [cmp_Or_int_r4]
        try simp [cmp_Or_int_r5, decide_true]
        try simp [cmp_Or_int_r7, w1, w2, w3]
        refine W.unroll (W.of ?_)
        try simp [cmp_Or_int_l0]
        try simp [cmp_Or_int_r3]
        try simp [cmp_Or_int_r4]
        try simp [cmp_Or_int_r5, decide_true]
        try simp [cmp_Or_int_r7, w1, w2, w3]
        refine W.unroll (W.of ?_)
        try simp [cmp_Or_int_l0]
        try simp [cmp_Or_int_r3]
        try simp [cmp_Or_int_r4]
        try simp [cmp_Or_int_r5, h3]
        try simp [cmp_Or_int_r6, or3, h3]
        exact Ext.refl _ _
    · skip
      refine W.unroll (W.of ?_)
      try simp [cmp_Or_int_l0]
      try simp [cmp_Or_int_r3]
      try simp [cmp_Or_int_r4]
      try simp [cmp_Or_int_r5, decide_true]
      try simp [cmp_Or_int_r7, w1, w2, w3]
      refine W.unroll (W.of ?_)
      try simp [cmp_Or_int_l0]
      try simp [cmp_Or_int_r3]
      try simp [cmp_Or_int_r4]
      try simp [cmp_Or_int_r5, h2]
      try simp [cmp_Or_int_r6, or3, h2]
      exact Ext.refl _ _
  · skip
    refine W.unroll (W.of ?_)
    try simp [cmp_Or_int_l0]
    try simp [cmp_Or_int_r3]
    try simp [cmp_Or_int_r4]
    try simp [cmp_Or_int_r5, h1]
    try simp [cmp_Or_int_r6, or3, h1]
    exact Ext.refl _ _
theorem cmpB_ok (x y : Br) : Pur C n_branch_Compare [.agg (eB x), .agg (eB y)] (· = .ret (I (cmpB x y))) := by
  intro h nx
  have s1 := Key.toNat_succ nx
  have s2 := Key.toNat_succ nx.succ
  have r1 : C.raw n_cmp_Compare_string = false := S.raw _ (by decide)
  have r2 : C.raw n_cmp_Compare_int = false := S.raw _ (by decide)
  have r3 : C.raw n_cmp_Or_int = false := S.raw _ (by decide)
  refine S.c_branch_Compare.call ?_
  simp [branch_Compare]
  simp [branch_Compare_r0]
  have hq := eqB x y
  simp only [pB, eB] at hq
  have h0 : Ext h nx (T.set nx.succ (some (.cells (eB y) .fix)) (T.set nx (some (.cells (eB x) .fix)) h)) nx.succ.succ := (E0 h nx _).trans (E0 _ _ _)
  simp [branch_Compare_r1, eB, S.orc, hq]
  refine ⟨fun e => ?_, fun e => ?_⟩
  · simp [branch_Compare_r2, cmpB, e]
    simpa [eB, e] using h0
  · simp [branch_Compare_r3, r1]
    refine (cmpS_ok S _ _ _ _ _ _).mono ?_
    rintro o h1 nx1 ⟨rfl, e1⟩
    have q0 := e1.g nx (by omega)
    have q1 := e1.g nx.succ (by omega)
    simp at q0 q1
    have t1 := e1.n
    simp [q0, q1, r2, AV.beq, SI.beq]
    refine (cmpInt_ok S _ _ _ _).mono ?_
    rintro o h2 nx2 ⟨rfl, e2⟩
    have e12 := e1.trans e2
    have q0 := e12.g nx (by omega)
    have q1 := e12.g nx.succ (by omega)
    simp at q0 q1
    simp [q0, q1, r2, AV.beq, SI.beq]
    refine (cmpInt_ok S _ _ _ _).mono ?_
    rintro o h3 nx3 ⟨rfl, e3⟩
    have e13 := e12.trans e3
    simp [r3]
    have hz := frz_fix (n := 7) (b := nx3) (len := 3) (sz := 1) (l := [I (cs (x.a, x.b) (y.a, y.b)), I (ci x.n y.n), I (ci x.m y.m)]) (H := T.set nx3 (some (.cells [I (cs (x.a, x.b) (y.a, y.b)), I (ci x.n y.n), I (ci x.m y.m)] .fix)) h3) (by simp) (by simp) (by intro z hz; simp at hz; rcases hz with rfl | rfl | rfl <;> exact stb_int _ _)
    simp [hz]
    refine (or_ok S _ _ _ _ _).mono ?_
    rintro o h4 nx4 ⟨rfl, e4⟩
    simp [cmpB, e]
    have e5 := E0 h3 nx3 (.cells [I (cs (x.a, x.b) (y.a, y.b)), I (ci x.n y.n), I (ci x.m y.m)] .ro)
    exact h0.trans (e13.trans (e5.trans e4))
theorem sign_ok (b : Bool) : Pur C n_ref13_sign [.bool b] (· = .ret (I (if b then -1 else 1))) := by
  intro h nx
  refine S.c_ref13_sign.call ?_
  simp [ref13_sign]
  simp [ref13_sign_r0]
  cases b
  · simp [ref13_sign_r1, ref13_sign_r3]; exact Ext.refl _ _
  · simp [ref13_sign_r1, ref13_sign_r2]; exact Ext.refl _ _
def cmpR (x y : Br) : Int := if ¬ (x.a = y.a ∧ x.b = y.b) then (if ltS x.a x.b y.a y.b then -1 else 1) else if x.n ≠ y.n then (if x.n < y.n then -1 else 1) else if x.m ≠ y.m then (if x.m < y.m then -1 else 1) else 0
theorem cmpR_ok (x y : Br) : Pur C n_ref13_Compare [.agg (eB x), .agg (eB y)] (· = .ret (I (cmpR x y))) := by
  intro h nx
  have r1 : C.raw n_ref13_sign = false := S.raw _ (by decide)
  refine S.c_ref13_Compare.call ?_
  simp [ref13_Compare]
  simp [ref13_Compare_r0]
  have h0 : Ext h nx (T.set nx.succ (some (.cells (eB y) .fix)) (T.set nx (some (.cells (eB x) .fix)) h)) nx.succ.succ := (E0 h nx _).trans (E0 _ _ _)
  by_cases c1 : x.a = y.a ∧ x.b = y.b
  · by_cases c2 : x.n = y.n
    · by_cases c3 : x.m = y.m
      · simp [ref13_Compare_r1, eB, c1]
        simp [ref13_Compare_r3, c2]
        simp [ref13_Compare_r5, c3]
        simp [ref13_Compare_r7, cmpR, c1, c2, c3]
        simpa [eB, c1, c2, c3] using h0
      · simp [ref13_Compare_r1, eB, c1]
        simp [ref13_Compare_r3, c2]
        simp [ref13_Compare_r5, c3]
        simp [ref13_Compare_r6, r1]
        refine (sign_ok S _ _ _).mono ?_
        rintro o h1 nx1 ⟨rfl, e1⟩
        simp [cmpR, c1, c2, c3]
        simpa [eB, c1, c2, c3] using (show Ext h nx _ nx.succ.succ by simpa [eB, c1, c2] using h0).trans e1
    · simp [ref13_Compare_r1, eB, c1]
      simp [ref13_Compare_r3, c2]
      simp [ref13_Compare_r4, r1]
      refine (sign_ok S _ _ _).mono ?_
      rintro o h1 nx1 ⟨rfl, e1⟩
      simp [cmpR, c1, c2]
      exact (show Ext h nx _ nx.succ.succ by simpa [eB, c1] using h0).trans e1
  · have c1' : ¬ (x.a = y.a) ∨ ¬ (x.b = y.b) := by by_cases h : x.a = y.a
                                                   · exact .inr fun h2 => c1 ⟨h, h2⟩
                                                   · exact .inl h
    simp [ref13_Compare_r1, eB]
    refine ⟨fun _ => ?_, fun hh => ?_⟩
    · simp [ref13_Compare_r2, r1]
      refine (sign_ok S _ _ _).mono ?_
      rintro o h1 nx1 ⟨rfl, e1⟩
      simp [cmpR, c1]
      exact (show Ext h nx _ nx.succ.succ by simpa [eB] using h0).trans e1
    · intro hb; exact absurd ⟨by simpa using hh, hb⟩ c1
theorem around_ok (n m : Int) (hm : m ≠ 0) : Pur C n_ref01_Around [I n, I m] (· = .ret (I (arF n m))) := by
  intro h nx
  refine S.c_ref01_Around.call ?_
  have hm' : (m == 0) = false := by simpa using hm
  simp [ref01_Around]
  simp [ref01_Around_r0]
  by_cases hn : n < 0
  · simp [ref01_Around_r1, ref01_Around_r2, ref01_Around_r3, hn, hm', arF]; exact Ext.refl _ _
  · simp [ref01_Around_r1, ref01_Around_r3, hn, hm', arF]; exact Ext.refl _ _
end Tb
/-
  SB: loops that read lists. No condition.
-/
namespace Tb
open Go.Sx Go
@[simp] theorem eB_len (x : Br) : (eB x).length = 3 := rfl
@[simp] theorem eB_take (x : Br) : (eB x).take 3 = eB x := rfl
@[simp high] theorem eqB2 (x y : Br) : eqV [] (.parts [(0, .str), (1, .int), (2, .int)]) (.agg (eB x)) (.agg (eB y)) = some (decide (x = y)) := eqB x y
abbrev IsL (c : AV) (l : List Br) : Prop := IsR 3 eB c l
variable {C : Cfg} (S : Std C)
include S

theorem hasR_ok {c : AV} {l : List Br} (hc : IsL c l) (hl : l.length ≤ 4000) (x : Br) : Pur C n_ref13_Has [c, .agg (eB x)] (· = .ret (.bool (decide (x ∈ l)))) := by
  intro h nx
  have s1 := Key.toNat_succ nx
  refine S.c_ref13_Has.call ?_
  simp [ref13_Has]
  simp [ref13_Has_r0]
  simp [ref13_Has_r1]
  rcases hc with ⟨rfl, rfl⟩ | rfl
  · refine W.unroll (W.of ?_)
    simp [ref13_Has_l0]
    simp [ref13_Has_r2]
    simp [ref13_Has_r6]
    exact E0 h nx _
  · refine W.loopM (n := l.length) (fun m tm' h' nx' => ∃ (j : Nat), m = l.length - j ∧ j ≤ l.length ∧ T.get (K 0) tm' = some (.sl (rowsA eB l) l.length 3 .any) ∧ T.get (K 3) tm' = some (.ptr nx 0) ∧ T.get (K 5) tm' = some (I j) ∧
      T.get nx h' = some (.cells (eB x) .fix) ∧ Ext h nx h' nx' ∧ nx.toNat < nx'.toNat ∧ x ∉ l.take j) ?_ ?_
    · refine ⟨0, by simp, by omega, ?_, ?_, ?_, ?_, E0 h nx _, by omega, by simp⟩ <;> simp
    · rintro m tm1 h1 nx1 ⟨j, rfl, hj, f0, f3, f5, hb, e1, hlt1, hn⟩
      refine W.of ?_
      simp [ref13_Has_l0]
      simp [ref13_Has_r2, f0, f5]
      refine ⟨fun hlt => ?_, fun hge => ?_⟩
      · have hjl : j < l.length := by omega
        have hr := flatB.rows l
        have h3 : 3 ≤ (rowsA eB l).length - j * 3 := by omega
        have ec := flatB.at hjl
        simp [ref13_Has_r3, f0, f3, f5, hb, hjl, h3, ec, S.orc]
        have htk : l.take (j + 1) = l.take j ++ [l[j]] := by rw [List.take_succ_eq_append_getElem hjl]
        refine ⟨fun he => ?_, fun he => ?_⟩
        · simp [ref13_Has_r4]
          exact ⟨by rw [← he]; exact List.getElem_mem hjl, e1⟩
        · simp [ref13_Has_r5, f5]
          refine ⟨l.length - (j + 1), by omega, j + 1, rfl, by omega, ?_, ?_, ?_, hb, e1, hlt1, ?_⟩
          · simp [f0]
          · simp [f3]
          · simp; rw [wrap_id (by omega) (by omega)]
          · rw [htk, List.mem_append, List.mem_singleton]; rintro (h | h)
            · exact hn h
            · exact he h.symm
      · have hjl : j = l.length := by omega
        subst hjl
        simp [ref13_Has_r6]
        rw [List.take_length] at hn
        exact ⟨hn, e1⟩
end Tb
/-
  SB: loops that read lists: more. No condition.
-/
namespace Tb
open Go.Sx Go
theorem IsR.nil_or {c : AV} {l : List Br} (hc : IsL c l) : (c = .nils ∧ l = []) ∨ c = .sl (rowsA eB l) l.length 3 .any := hc
variable {C : Cfg} (S : Std C)
include S

theorem index_ok {c : AV} {l : List Br} (hc : IsL c l) (hl : l.length ≤ 4000) (x : Br) : Pur C n_slices_Index_Branch_Branch [c, .agg (eB x)] (fun o => ∃ i : Int, o = .ret (I i) ∧ (0 ≤ i ↔ x ∈ l)) := by
  intro h nx
  have s1 := Key.toNat_succ nx
  refine S.c_slices_Index_Branch_Branch.call ?_
  simp [slices_Index_Branch_Branch]
  simp [slices_Index_Branch_Branch_r0]
  rcases hc with ⟨rfl, rfl⟩ | rfl
  · simp [slices_Index_Branch_Branch_r1]
    refine W.unroll (W.of ?_)
    simp [slices_Index_Branch_Branch_l0]
    simp [slices_Index_Branch_Branch_r2]
    simp [slices_Index_Branch_Branch_r7]
    exact E0 h nx _
  · simp [slices_Index_Branch_Branch_r1]
    refine W.loopM (n := l.length) (fun m tm' h' nx' => ∃ (j : Nat), m = l.length - j ∧ j ≤ l.length ∧ T.get (K 0) tm' = some (.sl (rowsA eB l) l.length 3 .any) ∧ T.get (K 3) tm' = some (.ptr nx 0) ∧ T.get (K 7) tm' = some (I l.length) ∧ T.get (K 8) tm' = some (I j) ∧
      T.get nx h' = some (.cells (eB x) .fix) ∧ Ext h nx h' nx' ∧ nx.toNat < nx'.toNat ∧ x ∉ l.take j) ?_ ?_
    · refine ⟨0, by simp, by omega, ?_, ?_, ?_, ?_, ?_, E0 h nx _, by omega, by simp⟩ <;> simp
    · rintro m tm1 h1 nx1 ⟨j, rfl, hj, f0, f3, f7, f8, hb, e1, hlt1, hn⟩
      refine W.of ?_
      simp [slices_Index_Branch_Branch_l0]
      simp [slices_Index_Branch_Branch_r2, f7, f8]
      refine ⟨fun hlt => ?_, fun hge => ?_⟩
      · have hjl : j < l.length := by omega
        have hr := flatB.rows l
        have h3 : 3 ≤ (rowsA eB l).length - j * 3 := by omega
        have ec := flatB.at hjl
        simp [slices_Index_Branch_Branch_r3, f8]
        simp [slices_Index_Branch_Branch_r4, f0, f3, hb, hjl, h3, ec, S.orc]
        have htk : l.take (j + 1) = l.take j ++ [l[j]] := by rw [List.take_succ_eq_append_getElem hjl]
        refine ⟨fun he => ?_, fun he => ?_⟩
        · simp [slices_Index_Branch_Branch_r5]
          exact ⟨by rw [he]; exact List.getElem_mem hjl, e1⟩
        · simp [slices_Index_Branch_Branch_r6, f8]
          refine ⟨l.length - (j + 1), by omega, j + 1, rfl, by omega, ?_, ?_, ?_, ?_, hb, e1, hlt1, ?_⟩
          · simp [f0]
          · simp [f3]
          · simp [f7]
          · simp; rw [wrap_id (by omega) (by omega)]
          · rw [htk, List.mem_append, List.mem_singleton]; rintro (h | h)
            · exact hn h
            · exact he h
      · have hjl : j = l.length := by omega
        subst hjl
        simp [slices_Index_Branch_Branch_r7]
        rw [List.take_length] at hn
        exact ⟨hn, e1⟩
theorem contains_ok {c : AV} {l : List Br} (hc : IsL c l) (hl : l.length ≤ 4000) (x : Br) : Pur C n_slices_Contains_Branch_Branch [c, .agg (eB x)] (· = .ret (.bool (decide (x ∈ l)))) := by
  intro h nx
  have r1 : C.raw n_slices_Index_Branch_Branch = false := S.raw _ (by decide)
  have hs : ∀ n h, frzA n c h = (c, h) := IsR.stb hc
  refine S.c_slices_Contains_Branch_Branch.call ?_
  simp [slices_Contains_Branch_Branch]
  simp [slices_Contains_Branch_Branch_r0]
  simp [slices_Contains_Branch_Branch_r1, r1, hs]
  have hz : frzLA (frzA 7) (eB x) (T.set nx (some (.cells (eB x) .fix)) h) = (eB x, T.set nx (some (.cells (eB x) .fix)) h) := frzLA_stb (flatB.stb x)
  try simp [hz]
  refine (index_ok S hc hl x _ _).mono ?_
  rintro o h1 nx1 ⟨⟨i, rfl, hi⟩, e1⟩
  simp
  refine ⟨?_, (E0 h nx _).trans e1⟩
  by_cases hx : x ∈ l
  · have := hi.2 hx
    simp [hx]; omega
  · have : ¬ 0 ≤ i := fun h => hx (hi.1 h)
    simp [hx]; omega
theorem has_ok {c : AV} {l : List Br} (hc : IsL c l) (hl : l.length ≤ 4000) (x : Br) : Pur C n_branch_Has [c, .agg (eB x)] (· = .ret (.bool (decide (x ∈ l)))) := by
  intro h nx
  have r1 : C.raw n_slices_Contains_Branch_Branch = false := S.raw _ (by decide)
  have hs : ∀ n h, frzA n c h = (c, h) := IsR.stb hc
  refine S.c_branch_Has.call ?_
  simp [branch_Has]
  simp [branch_Has_r0]
  simp [branch_Has_r1, r1, hs]
  have hz : frzLA (frzA 7) (eB x) (T.set nx (some (.cells (eB x) .fix)) h) = (eB x, T.set nx (some (.cells (eB x) .fix)) h) := frzLA_stb (flatB.stb x)
  try simp [hz]
  refine (contains_ok S hc hl x _ _).mono ?_
  rintro o h1 nx1 ⟨rfl, e1⟩
  simp
  exact (E0 h nx _).trans e1
theorem same_ok {c d : AV} {l m : List Br} (hc : IsL c l) (hd : IsL d m) (hl : l.length ≤ 4000) : Pur C n_ref13_Same [c, d] (· = .ret (.bool (decide (l = m)))) := by
  intro h nx
  refine S.c_ref13_Same.call ?_
  simp [ref13_Same]
  simp [ref13_Same_r0]
  by_cases hlen : l.length = m.length
  · have hlen' : (l.length : Int) = m.length := by omega
    have go : W C (.loop ref13_Same_l0) (blockPost 0 (seqPost (wpC C ((PCode.ops ref13_Same_r8).seq PCode.ret) (BodyP [RV.tmp (K 4)] fun o h' nx' => o = Out.ret (AV.bool (decide (l = m))) ∧ Ext h nx h' nx')) (BodyP [RV.tmp (K 4)] fun o h' nx' => o = Out.ret (AV.bool (decide (l = m))) ∧ Ext h nx h' nx')))
        (T.set (K 5) (some (I 0)) (T.set (K 10) (some (.bool false)) (T.set (K 9) (some (I m.length)) (T.set (K 8) (some d) (T.set (K 7) (some (I l.length)) (T.set (K 6) (some c) (T.set (K 4) (some (.bool false)) (T.set (K 1) (some d) (T.set (K 0) (some c) .nil))))))))) h nx := by
      refine W.loopM (n := l.length) (fun k tm' h' nx' => ∃ (j : Nat), k = l.length - j ∧ j ≤ l.length ∧ T.get (K 0) tm' = some c ∧ T.get (K 1) tm' = some d ∧ T.get (K 5) tm' = some (I j) ∧ Ext h nx h' nx' ∧ l.take j = m.take j) ?_ ?_
      · refine ⟨0, by simp, by omega, ?_, ?_, ?_, Ext.refl _ _, by simp⟩ <;> simp
      · rintro k tm1 h1 nx1 ⟨j, rfl, hj, f0, f1, f5, e1, hn⟩
        refine W.of ?_
        simp [ref13_Same_l0]
        have hL : lightOp C.orc (.lenL (.t (K 12))) (T.set (K 12) (some c) (T.set (K 11) (some (I j)) tm1)) h1 = some (I l.length) := by
          rcases hc with ⟨rfl, rfl⟩ | rfl <;> simp
        rcases hc with ⟨rfl, rfl⟩ | rfl
        · have hm : m = [] := List.eq_nil_of_length_eq_zero (by simpa using hlen.symm)
          subst hm
          simp at hj
          subst hj
          simp [ref13_Same_r4, f0, f5]
          simp [ref13_Same_r8]
          exact e1
        · rcases hd with ⟨rfl, rfl⟩ | rfl
          · have hm : l = [] := List.eq_nil_of_length_eq_zero (by simpa using hlen)
            subst hm
            simp at hj
            subst hj
            simp [ref13_Same_r4, f0, f5]
            simp [ref13_Same_r8]
            exact e1
          · simp [ref13_Same_r4, f0, f5]
            refine ⟨fun hlt => ?_, fun hge => ?_⟩
            · have hjl : j < l.length := by omega
              have hjm : j < m.length := by omega
              have hr := flatB.rows l
              have hr2 := flatB.rows m
              have h3 : 3 ≤ (rowsA eB l).length - j * 3 := by omega
              have h4 : 3 ≤ (rowsA eB m).length - j * 3 := by omega
              have ec := flatB.at hjl
              have ed := flatB.at hjm
              simp [ref13_Same_r5, f0, f1, f5, hjl, hjm, h3, h4, ec, ed, S.orc]
              refine ⟨fun he => ?_, fun he => ?_⟩
              · simp [ref13_Same_r6]
                refine ⟨fun e => he (by subst e; rfl), e1⟩
              · simp [ref13_Same_r7, f5]
                refine ⟨l.length - (j + 1), by omega, j + 1, rfl, by omega, ?_, ?_, ?_, e1, ?_⟩
                · simp [f0]
                · simp [f1]
                · simp; rw [wrap_id (by omega) (by omega)]
                · rw [List.take_succ_eq_append_getElem hjl, List.take_succ_eq_append_getElem hjm, hn, he]
            · have hjl : j = l.length := by omega
              subst hjl
              simp [ref13_Same_r8]
              rw [List.take_length, hlen, List.take_length] at hn
              exact ⟨hn, e1⟩
    rcases hc with ⟨rfl, rfl⟩ | rfl <;> rcases hd with ⟨rfl, rfl⟩ | rfl
    · simp [ref13_Same_r1]
      simp [ref13_Same_r3]
      simpa using go
    · have hm : m = [] := List.eq_nil_of_length_eq_zero (by simpa using hlen.symm)
      subst hm
      simp [ref13_Same_r1]
      simp [ref13_Same_r3]
      simpa using go
    · have hm : l = [] := List.eq_nil_of_length_eq_zero (by simpa using hlen)
      subst hm
      simp [ref13_Same_r1]
      simp [ref13_Same_r3]
      simpa using go
    · simp [ref13_Same_r1, hlen']
      simp [ref13_Same_r3]
      simpa [hlen'] using go
  · have hne : l ≠ m := fun e => hlen (by rw [e])
    have hlen' : ¬ (l.length : Int) = m.length := by omega
    rcases hc with ⟨rfl, rfl⟩ | rfl <;> rcases hd with ⟨rfl, rfl⟩ | rfl
    · exact absurd rfl hne
    · have : ¬ (0 : Int) = m.length := by simpa using hlen'
      have h2 : ¬ m.length = 0 := by simp at hlen; omega
      simp [ref13_Same_r1, h2, this]
      try simp [ref13_Same_r2, hne]
      exact ⟨fun e => by simp [e] at h2, Ext.refl _ _⟩
    · have h2 : ¬ l.length = 0 := by simp at hlen; simpa using hlen
      simp [ref13_Same_r1, h2]
      try simp [ref13_Same_r2, hne]
      try exact Ext.refl _ _
    · simp [ref13_Same_r1, hlen', hlen]
      try simp [ref13_Same_r2, hne]
      try exact Ext.refl _ _
end Tb
