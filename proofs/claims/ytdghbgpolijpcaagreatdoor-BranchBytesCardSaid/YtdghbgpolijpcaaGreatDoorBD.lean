/-
  SB: one branch more in a list in order. No condition.
-/
import Derived.Test.YtdghbgpolijpcaaGreatDoorBA
set_option linter.unusedSimpArgs false
set_option linter.unusedVariables false
set_option linter.unusedSectionVars false
namespace Tb
open Go.Sx Go
/- what putting x into l comes to -/
def PutAt (l : List Br) (x : Br) (i : Nat) : Prop := (∀ y ∈ l.drop i, cmpR x y ≤ 0) ∧ ∀ k, i = k + 1 → ∃ y, l[k]? = some y ∧ 0 < cmpR x y
def PutOf (l : List Br) (x : Br) (r : List Br) : Prop := ∃ i, i ≤ l.length ∧ PutAt l x i ∧ r = if l[i]? = some x then l else l.take i ++ x :: l.drop i
variable {C : Cfg} (S : Std C)
include S

theorem put_scan {c : AV} {l : List Br} (hc : IsL c l) (hl : l.length ≤ 4000) (x : Br) {h h0 : T Blk} {nx nx0 : Key} {tm : T AV} (f0 : T.get (K 0) tm = some c) (f3 : T.get (K 3) tm = some (.ptr nx0 0)) (f5 : T.get (K 5) tm = some (I l.length))
    (hb : T.get nx0 h = some (.cells (eB x) .fix)) (e : Ext h0 nx0 h nx) (hlt : nx0.toNat < nx.toNat) :
    W C (.loop ref13_put_l0) (fun e tm' h' nx' => e = .exit 0 ∧ ∃ i : Nat, i ≤ l.length ∧ PutAt l x i ∧ T.get (K 0) tm' = some c ∧ T.get (K 3) tm' = some (.ptr nx0 0) ∧ T.get (K 5) tm' = some (I i) ∧ T.get nx0 h' = some (.cells (eB x) .fix) ∧ Ext h0 nx0 h' nx' ∧ nx0.toNat < nx'.toNat) tm h nx := by
  have r1 : C.raw n_ref13_Compare = false := S.raw _ (by decide)
  refine W.loopM (n := l.length) (fun m tm' h' nx' => m ≤ l.length ∧ T.get (K 0) tm' = some c ∧ T.get (K 3) tm' = some (.ptr nx0 0) ∧ T.get (K 5) tm' = some (I m) ∧
      T.get nx0 h' = some (.cells (eB x) .fix) ∧ Ext h0 nx0 h' nx' ∧ nx0.toNat < nx'.toNat ∧ ∀ y ∈ l.drop m, cmpR x y ≤ 0) ?_ ?_
  · exact ⟨Nat.le_refl _, f0, f3, f5, hb, e, hlt, by simp⟩
  · rintro m tm1 h1 nx1 ⟨hm, f0, f3, f5, hb, e, hlt, hd⟩
    refine W.of ?_
    simp [ref13_put_l0]
    cases m with
    | zero =>
      simp [ref13_put_r2, f5]
      refine ⟨0, by omega, ⟨hd, by omega⟩, ?_, ?_, ?_, hb, e, hlt⟩ <;> simp [f0, f3, f5]
    | succ m =>
      have hml : m < l.length := by omega
      have hr := flatB.rows l
      have h3 : 3 ≤ (rowsA eB l).length - m * 3 := by omega
      have ec := flatB.at hml
      have hpos : (0 : Int) < (m : Int) + 1 := by omega
      have hw : wrapF .i64 (m : Int) = m := wrap_id (by omega) (by omega)
      have hcs : c = .sl (rowsA eB l) l.length 3 .any := by
        rcases hc with ⟨_, rfl⟩ | h
        · simp at hml
        · exact h
      subst hcs
      have hz : ∀ H, frzLA (frzA 7) (eB x) H = (eB x, H) := fun H => frzLA_stb (flatB.stb x)
      have hz2 : ∀ H, frzLA (frzA 7) (eB l[m]) H = (eB l[m], H) := fun H => frzLA_stb (flatB.stb _)
      simp [ref13_put_r2, f0, f3, f5, hb, hw, hpos, hml, h3, ec, r1, hz, hz2]
      refine (cmpR_ok S _ _ _ _).mono ?_
      rintro o h2 nx2 ⟨rfl, e2⟩
      have t2 := e2.n
      have hb2 : T.get nx0 h2 = some (.cells (eB x) .fix) := by rw [e2.g nx0 hlt]; exact hb
      simp
      refine ⟨fun hle => ?_, fun hgt => ?_⟩
      · simp [ref13_put_r3, f5, hw]
        refine ⟨m, by omega, by omega, ?_, ?_, ?_, hb2, e.trans e2, by omega, ?_⟩
        · simp [f0]
        · simp [f3]
        · simp
        · rw [List.drop_eq_getElem_cons hml]
          intro y hy
          rcases List.mem_cons.1 hy with rfl | hy
          · exact hle
          · exact hd y hy
      · refine ⟨m + 1, by omega, ⟨hd, ?_⟩, ?_, ?_, ?_, hb2, e.trans e2, by omega⟩
        · intro k hk
          have : k = m := by omega
          subst this
          exact ⟨l[k], List.getElem?_eq_getElem hml, by omega⟩
        · simp [f0]
        · simp [f3]
        · simp [f5]

theorem put_nil (x : Br) : Pur C n_ref13_put [.nils, .agg (eB x)] (fun o => ∃ c', o = .ret c' ∧ ∃ l', IsL c' l' ∧ PutOf [] x l') := by
  intro h nx
  have s1 := Key.toNat_succ nx
  have s2 := Key.toNat_succ nx.succ
  refine S.c_ref13_put.call ?_
  simp [ref13_put]
  simp [ref13_put_r0]
  simp [ref13_put_r1]
  refine (put_scan S (c := .nils) (l := []) (.inl ⟨rfl, rfl⟩) (by simp) x (h0 := h) (nx0 := nx) ?_ ?_ ?_ ?_ (E0 h nx (.cells (eB x) .fix)) (by omega)).mono ?_
  · simp
  · simp
  · simp
  · simp
  rintro e tm1 h1 nx1 ⟨rfl, i, hi, hat, f0, f3, f5, hb, e1, hlt1⟩
  have : i = 0 := by simpa using hi
  subst this
  have t1 := Key.toNat_succ nx1
  have t2 := Key.toNat_succ nx1.succ
  simp
  simp [ref13_put_r4, f0, f3, f5, hb]
  simp [ref13_put_r6]
  simp [ref13_put_r7, f0, f5]
  have hbn : T.get nx (T.set nx1 (some (.cells (eB x) .fix)) h1) = some (.cells (eB x) .fix) := by rw [get_lt hlt1]; exact hb
  have hz : ∀ H, frzLA (frzA 8) (eB x) H = (eB x, H) := fun H => frzLA_stb (flatB.stb x)
  have hz7 : ∀ H, frzLA (frzA 7) (eB x) H = (eB x, H) := fun H => frzLA_stb (flatB.stb x)
  simp [ref13_put_r8, f3, hb, hz]
  simp [ref13_put_r9, f0, f5]
  have hz2 := frz_part (n := 7) (b := nx1.succ) (len := 1) (sz := 3) (l := eB x) (H := T.set nx1.succ (some (.cells (eB x) .part)) (T.set nx1 (some (.cells (eB x) .fix)) h1)) (by simp) (by simp) (flatB.stb x)
  simp [hz2]
  refine ⟨⟨[x], .inr (by simp [rowsA_one]), 0, by simp, hat, by simp⟩, ?_⟩
  exact e1.trans (((E0 h1 nx1 _).put (k := nx1.succ) (by omega)).up (by omega))

theorem put_sl {l : List Br} (hl : l.length ≤ 4000) (x : Br) : Pur C n_ref13_put [.sl (rowsA eB l) l.length 3 .any, .agg (eB x)] (fun o => ∃ c', o = .ret c' ∧ ∃ l', IsL c' l' ∧ PutOf l x l') := by
  intro h nx
  have s1 := Key.toNat_succ nx
  refine S.c_ref13_put.call ?_
  simp [ref13_put]
  simp [ref13_put_r0]
  simp [ref13_put_r1]
  refine (put_scan S (.inr rfl) hl x (h0 := h) (nx0 := nx) ?_ ?_ ?_ ?_ (E0 h nx (.cells (eB x) .fix)) (by omega)).mono ?_
  · simp
  · simp
  · simp
  · simp
  rintro e tm1 h1 nx1 ⟨rfl, i, hi, hat, f0, f3, f5, hb, e1, hlt1⟩
  simp
  have hr := flatB.rows l
  by_cases hx : l[i]? = some x
  · obtain ⟨hil, hxe⟩ := List.getElem?_eq_some_iff.1 hx
    have h3 : 3 ≤ (rowsA eB l).length - i * 3 := by omega
    have ec := flatB.at hil
    simp [ref13_put_r4, f0, f3, f5, hb, hil, h3, ec, S.orc, hxe]
    simp [ref13_put_r5, f0]
    exact ⟨⟨l, .inr rfl, i, hi, hat, by simp [hx]⟩, e1⟩
  · have tail : ∀ tm2, T.get (K 0) tm2 = some (.sl (rowsA eB l) l.length 3 .any) → T.get (K 3) tm2 = some (.ptr nx 0) → T.get (K 5) tm2 = some (I i) → wpC C ((PCode.ops ref13_put_r6).seq ((PCode.ops ref13_put_r7).seq ((PCode.ops ref13_put_r8).seq ((PCode.ops ref13_put_r9).seq PCode.ret))))
        (BodyP [RV.tmp (K 4)] fun o h' nx' => (∃ c', o = Out.ret c' ∧ ∃ l', IsL c' l' ∧ PutOf l x l') ∧ Ext h nx h' nx') tm2 h1 nx1 := by
      intro tm2 f0 f3 f5
      have htk := flatB.take l i
      have hdr := flatB.drop l i
      have hle : i * 3 ≤ (rowsA eB l).length := by rw [hr]; omega
      have hz : ∀ H, frzLA (frzA 8) (eB x) H = (eB x, H) := fun H => frzLA_stb (flatB.stb x)
      have lt1 : (l.take i).length = i := by rw [List.length_take]; omega
      have ld1 : (l.drop i).length = l.length - i := by rw [List.length_drop]
      simp [ref13_put_r6]
      simp [-appendTo, ref13_put_r7, f0, f5, hi, hle, htk]
      obtain ⟨c1, h2, nx2, g1, A1, k1, k2, k3⟩ := (App.nil (h := h1) (nx := nx1) (n0 := nx1) 3).addN (new := rowsA eB (l.take i)) (m := i) (Nat.le_refl _) (by rw [flatB.rows, lt1]) (by omega) (flatB.allc _)
      rw [g1]
      have hb2 : T.get nx h2 = some (.cells (eB x) .fix) := by rw [k2 nx hlt1]; exact hb
      have t2 := Key.toNat_succ nx2
      try simp [-appendTo]
      simp [-appendTo, ref13_put_r8, f3, hb2, hz]
      have A1' := A1.ext (E0 h2 nx2 (.cells (eB x) .fix))
      obtain ⟨c2, h3, nx3, g2, A2, m1, m2, m3⟩ := A1'.addN (new := eB x) (m := 1) (by omega) rfl (by omega) (List.all_eq_true.2 (flatB.cell x))
      rw [g2]
      try simp [-appendTo]
      have hle2 : (l.length - i) * 3 ≤ (rowsA eB (l.drop i)).length := by rw [flatB.rows, ld1]; exact Nat.le_refl _
      have hdd : List.take ((l.length - i) * 3) (rowsA eB (l.drop i)) = rowsA eB (l.drop i) := List.take_of_length_le (by rw [flatB.rows, ld1]; exact Nat.le_refl _)
      simp [-appendTo, ref13_put_r9, f0, f5, hi, hle2, hdr, hdd]
      obtain ⟨c3, h4, nx4, g3, A3, n1, n2, n3⟩ := A2.addN (new := rowsA eB (l.drop i)) (m := l.length - i) (by omega) (by rw [flatB.rows, ld1]) (by omega) (flatB.allc _)
      rw [g3]
      try simp [-appendTo]
      have hE : rowsA eB (l.take i) ++ eB x ++ rowsA eB (l.drop i) = rowsA eB (l.take i ++ x :: l.drop i) := by rw [rowsA_app, rowsA_cons, List.append_assoc]
      have hL : i + 1 + (l.length - i) = (l.take i ++ x :: l.drop i).length := by rw [List.length_append, List.length_cons, lt1, ld1]; omega
      simp only [List.nil_append, Nat.zero_add] at A3
      rw [hE, hL] at A3
      obtain ⟨q1, q2⟩ := A3.fastR flatB 7
      refine ⟨⟨_, q1, i, hi, hat, by simp [hx]⟩, ?_⟩
      exact ⟨by have := e1.n; omega, fun b hb => by rw [q2 b (by have := e1.n; omega), n2 b (by have := e1.n; omega), m2 b (by have := e1.n; omega), get_lt (by have := e1.n; omega), k2 b (by have := e1.n; omega)]; exact e1.g b hb⟩
    by_cases hil : i < l.length
    · have h3 : 3 ≤ (rowsA eB l).length - i * 3 := by omega
      have ec := flatB.at hil
      have hxe : ¬ l[i] = x := fun h => hx (by rw [List.getElem?_eq_getElem hil, h])
      simp [ref13_put_r4, f0, f3, f5, hb, hil, h3, ec, S.orc, hxe]
      simpa using tail _ (by simp [f0]) (by simp [f3]) (by simp [f5])
    · have hlt2 : ¬ (i : Int) < l.length := by omega
      simp [ref13_put_r4, f0, f3, f5, hb, hlt2, hil]
      simpa using tail _ (by simp [f0]) (by simp [f3]) (by simp [f5])
theorem put_ok {c : AV} {l : List Br} (hc : IsL c l) (hl : l.length ≤ 4000) (x : Br) : Pur C n_ref13_put [c, .agg (eB x)] (fun o => ∃ c', o = .ret c' ∧ ∃ l', IsL c' l' ∧ PutOf l x l') := by
  rcases hc with ⟨rfl, rfl⟩ | rfl
  · exact put_nil S x
  · exact put_sl S hl x
end Tb
/-
  SB: the order of branches. No condition.
-/
namespace Tb
open Go.Sx Go

theorem ltS_zero (c m d : Nat) : ltS 0 c m d = decide (m ≠ 0) := by cases m <;> simp [ltS]
theorem ltS_succ (n c m d : Nat) : ltS (n + 1) c m d = if m = 0 then false else if c % 256 < d % 256 then true else if c % 256 = d % 256 then ltS n (c / 256) (m - 1) (d / 256) else false := by
  simp only [ltS, beqN_eq, bltN_eq]
  by_cases h1 : m = 0 <;> by_cases h2 : c % 256 < d % 256 <;> by_cases h3 : c % 256 = d % 256 <;> simp [h1, h2, h3]
theorem ltS_asymm : ∀ (n c m d : Nat), ltS n c m d = true → ltS m d n c = false
  | 0, c, 0, d, h => by simp [ltS_zero] at h
  | 0, c, m + 1, d, h => by rw [ltS_succ]; simp
  | n + 1, c, 0, d, h => by rw [ltS_succ] at h; simp at h
  | n + 1, c, m + 1, d, h => by
    rw [ltS_succ] at h ⊢
    simp only [Nat.add_one_ne_zero, if_false, Nat.add_sub_cancel] at h ⊢
    by_cases h1 : c % 256 < d % 256
    · rw [if_neg (by omega), if_neg (by omega)]
    · rw [if_neg h1] at h
      by_cases h2 : c % 256 = d % 256
      · rw [if_pos h2] at h
        rw [if_neg (by omega), if_pos h2.symm]
        exact ltS_asymm n _ m _ h
      · rw [if_neg h2] at h; cases h
theorem ltS_trans : ∀ (n c m d k e : Nat), ltS n c m d = true → ltS m d k e = true → ltS n c k e = true
  | 0, c, m, d, k, e, h, h' => by
    rw [ltS_zero] at h ⊢
    have hm : m ≠ 0 := by simpa using h
    obtain ⟨m, rfl⟩ := Nat.exists_eq_succ_of_ne_zero hm
    rw [ltS_succ] at h'
    by_cases hk : k = 0
    · rw [if_pos hk] at h'; cases h'
    · simpa using hk
  | n + 1, c, 0, d, k, e, h, _ => by rw [ltS_succ] at h; simp at h
  | n + 1, c, m + 1, d, 0, e, _, h' => by rw [ltS_succ] at h'; simp at h'
  | n + 1, c, m + 1, d, k + 1, e, h, h' => by
    rw [ltS_succ] at h h' ⊢
    simp only [Nat.add_one_ne_zero, if_false, Nat.add_sub_cancel] at h h' ⊢
    by_cases h1 : c % 256 < d % 256
    · by_cases h2 : d % 256 < e % 256
      · rw [if_pos (by omega)]
      · rw [if_neg h2] at h'
        by_cases h3 : d % 256 = e % 256
        · rw [if_pos (by omega)]
        · rw [if_neg h3] at h'; cases h'
    · rw [if_neg h1] at h
      by_cases h2 : c % 256 = d % 256
      · rw [if_pos h2] at h
        by_cases h3 : d % 256 < e % 256
        · rw [if_pos (by omega)]
        · rw [if_neg h3] at h'
          by_cases h4 : d % 256 = e % 256
          · rw [if_pos h4] at h'
            rw [if_neg (by omega), if_pos (by omega)]
            exact ltS_trans n _ m _ k _ h h'
          · rw [if_neg h4] at h'; cases h'
      · rw [if_neg h2] at h; cases h
theorem ltS_tri : ∀ (n c m d : Nat), c < 256 ^ n → d < 256 ^ m → ltS n c m d = false → ltS m d n c = false → n = m ∧ c = d
  | 0, c, 0, d, hc, hd, _, _ => by simp at hc hd; omega
  | 0, c, m + 1, d, _, _, h, _ => by rw [ltS_zero] at h; simp at h
  | n + 1, c, 0, d, _, _, _, h => by rw [ltS_zero] at h; simp at h
  | n + 1, c, m + 1, d, hc, hd, h, h' => by
    rw [ltS_succ] at h h'
    simp only [Nat.add_one_ne_zero, if_false, Nat.add_sub_cancel] at h h'
    by_cases h1 : c % 256 < d % 256
    · rw [if_pos h1] at h; cases h
    · rw [if_neg h1] at h
      by_cases h2 : d % 256 < c % 256
      · rw [if_pos h2] at h'; cases h'
      · rw [if_neg h2] at h'
        have e : c % 256 = d % 256 := by omega
        rw [if_pos e] at h
        rw [if_pos e.symm] at h'
        have := ltS_tri n (c / 256) m (d / 256) (by rw [Nat.pow_succ] at hc; omega) (by rw [Nat.pow_succ] at hd; omega) h h'
        omega

def lt (x y : Br) : Prop := cmpB x y < 0
theorem cs_ok {x y : Br} (hx : OkB x) (hy : OkB y) : (cs (x.a, x.b) (y.a, y.b) = 0 ↔ x.a = y.a ∧ x.b = y.b) := by
  unfold cs
  constructor
  · intro h
    split at h
    · omega
    · split at h
      · omega
      · rename_i h1 h2
        exact ltS_tri _ _ _ _ hx hy (by simpa using h1) (by simpa using h2)
  · rintro ⟨h1, h2⟩
    have hi : ltS y.a y.b y.a y.b = false := by
      cases h : ltS y.a y.b y.a y.b with
      | false => rfl
      | true => have := ltS_asymm _ _ _ _ h; rw [h] at this; cases this
    simp [h1, h2, hi]
theorem cs_neg {a b : S} (h : cs a b < 0) : ltS a.1 a.2 b.1 b.2 = true := by
  unfold cs at h
  split at h
  · assumption
  · split at h <;> omega
theorem cs_pos {a b : S} (h : 0 < cs a b) : ltS b.1 b.2 a.1 a.2 = true := by
  unfold cs at h
  split at h
  · omega
  · split at h
    · assumption
    · omega
theorem cs_of {a b : S} (h : ltS a.1 a.2 b.1 b.2 = true) : cs a b = -1 ∧ cs b a = 1 := by
  have := ltS_asymm _ _ _ _ h
  simp [cs, h, this]
theorem ci_zero {a b : Int} : ci a b = 0 ↔ a = b := by unfold ci; split <;> (try split) <;> omega
theorem ci_neg {a b : Int} : ci a b < 0 ↔ a < b := by unfold ci; split <;> (try split) <;> omega
theorem ci_pos {a b : Int} : 0 < ci a b ↔ b < a := by unfold ci; split <;> (try split) <;> omega
theorem or3_eq {x y : Br} (hx : OkB x) (hy : OkB y) : cmpB x y = or3 (cs (x.a, x.b) (y.a, y.b)) (ci x.n y.n) (ci x.m y.m) := by
  unfold cmpB
  split
  · rename_i e
    subst e
    have h1 := (cs_ok hx hx).2 ⟨rfl, rfl⟩
    have h2 := (@ci_zero x.n x.n).2 rfl
    have h3 := (@ci_zero x.m x.m).2 rfl
    simp [or3, h1, h2, h3]
  · rfl
/- x is ahead of y -/
theorem lt_iff {x y : Br} (hx : OkB x) (hy : OkB y) : lt x y ↔ ltS x.a x.b y.a y.b = true ∨ (x.a = y.a ∧ x.b = y.b) ∧ (x.n < y.n ∨ x.n = y.n ∧ x.m < y.m) := by
  unfold lt
  rw [or3_eq hx hy]
  unfold or3
  by_cases h1 : cs (x.a, x.b) (y.a, y.b) = 0
  · have e := (cs_ok hx hy).1 h1
    have hi : ltS x.a x.b y.a y.b = false := by
      cases h : ltS x.a x.b y.a y.b with
      | false => rfl
      | true => have := (cs_of (a := (x.a, x.b)) (b := (y.a, y.b)) h).1; omega
    rw [if_pos h1]
    by_cases h2 : ci x.n y.n = 0
    · have e2 := ci_zero.1 h2
      rw [if_pos h2, ci_neg, hi]
      simp [e, e2]
    · rw [if_neg h2, ci_neg, hi]
      have e2 : x.n ≠ y.n := fun h => h2 (ci_zero.2 h)
      simp [e, e2]
  · rw [if_neg h1]
    have e : ¬ (x.a = y.a ∧ x.b = y.b) := fun h => h1 ((cs_ok hx hy).2 h)
    constructor
    · intro h; exact .inl (cs_neg h)
    · rintro (h | h)
      · have := (cs_of (a := (x.a, x.b)) (b := (y.a, y.b)) h).1; omega
      · exact absurd h.1 e
theorem lt_irrefl {x : Br} (hx : OkB x) : ¬ lt x x := by
  unfold lt cmpB; simp
theorem lt_trans {x y z : Br} (hx : OkB x) (hy : OkB y) (hz : OkB z) (h1 : lt x y) (h2 : lt y z) : lt x z := by
  rw [lt_iff hx hy] at h1
  rw [lt_iff hy hz] at h2
  rw [lt_iff hx hz]
  rcases h1 with h1 | ⟨⟨a1, b1⟩, c1⟩
  · rcases h2 with h2 | ⟨⟨a2, b2⟩, c2⟩
    · exact .inl (ltS_trans _ _ _ _ _ _ h1 h2)
    · rw [a2, b2] at h1; exact .inl h1
  · rcases h2 with h2 | ⟨⟨a2, b2⟩, c2⟩
    · rw [← a1, ← b1] at h2; exact .inl h2
    · exact .inr ⟨⟨a1.trans a2, b1.trans b2⟩, by omega⟩
theorem lt_tri {x y : Br} (hx : OkB x) (hy : OkB y) (h1 : ¬ lt x y) (h2 : ¬ lt y x) : x = y := by
  rw [lt_iff hx hy] at h1
  rw [lt_iff hy hx] at h2
  have h3 : ltS x.a x.b y.a y.b = false := by simpa using fun h => h1 (.inl h)
  have h4 : ltS y.a y.b x.a x.b = false := by simpa using fun h => h2 (.inl h)
  have e := ltS_tri _ _ _ _ hx hy h3 h4
  have h5 : ¬ (x.n < y.n ∨ x.n = y.n ∧ x.m < y.m) := fun h => h1 (.inr ⟨e, h⟩)
  have h6 : ¬ (y.n < x.n ∨ y.n = x.n ∧ y.m < x.m) := fun h => h2 (.inr ⟨⟨e.1.symm, e.2.symm⟩, h⟩)
  obtain ⟨a, b, n, m⟩ := x
  obtain ⟨a', b', n', m'⟩ := y
  simp only [Br.mk.injEq] at *
  exact ⟨e.1, e.2, by omega, by omega⟩
theorem lt_asymm {x y : Br} (hx : OkB x) (hy : OkB y) (h1 : lt x y) : ¬ lt y x := fun h => lt_irrefl hx (lt_trans hx hy hx h1 h)
/- 0 or less: not behind -/
theorem cmp_le {x y : Br} (hx : OkB x) (hy : OkB y) : cmpB x y ≤ 0 ↔ ¬ lt y x := by
  constructor
  · intro h h2
    by_cases e : cmpB x y < 0
    · exact lt_asymm hx hy e h2
    · have e0 : cmpB x y = 0 := by omega
      have : ¬ lt x y := by unfold lt; omega
      rw [lt_iff hy hx] at h2
      rw [or3_eq hx hy] at e0
      unfold or3 at e0
      split at e0
      · rename_i h0
        have e1 := (cs_ok hx hy).1 h0
        split at e0
        · rename_i h3
          have e2 := ci_zero.1 h3
          have e3 := ci_zero.1 e0
          have hi : ltS y.a y.b x.a x.b = false := by
            cases h : ltS y.a y.b x.a x.b with
            | false => rfl
            | true => rw [e1.1, e1.2] at h; have := ltS_asymm _ _ _ _ h; rw [h] at this; cases this
          rw [hi] at h2
          rcases h2 with h2 | h2
          · cases h2
          · omega
        · omega
      · omega
  · intro h
    by_cases e : lt x y
    · unfold lt at e; omega
    · have := lt_tri hx hy e h
      subst this
      simp [cmpB]
theorem cmp_pos {x y : Br} (hx : OkB x) (hy : OkB y) : 0 < cmpB x y ↔ lt y x := by
  have := cmp_le hx hy
  by_cases h : lt y x
  · exact ⟨fun _ => h, fun _ => by have : ¬ cmpB x y ≤ 0 := fun h2 => this.1 h2 h; omega⟩
  · exact ⟨fun h2 => by have := this.2 h; omega, fun h2 => absurd h2 h⟩
theorem cmp_vals (x y : Br) : cmpB x y = -1 ∨ cmpB x y = 0 ∨ cmpB x y = 1 := by
  unfold cmpB or3 cs ci
  repeat' split
  all_goals omega

/- lists in order -/
def Sr (l : List Br) : Prop := l.Pairwise lt
theorem Sr.uniq : ∀ {l m : List Br}, Sr l → Sr m → (∀ y ∈ l, OkB y) → (∀ y, y ∈ l ↔ y ∈ m) → l = m
  | [], [], _, _, _, _ => rfl
  | [], b :: m, _, _, _, h => by have := (h b).2 (by simp); cases this
  | a :: l, [], _, _, _, h => by have := (h a).1 (by simp); cases this
  | a :: l, b :: m, hl, hm, ho, h => by
    have hl' := List.pairwise_cons.1 hl
    have hm' := List.pairwise_cons.1 hm
    have oa := ho a (by simp)
    have ob := ho b ((h b).2 (by simp))
    have e : a = b := by
      have h1 := (h a).1 (by simp)
      have h2 := (h b).2 (by simp)
      rcases List.mem_cons.1 h1 with e | h1
      · exact e
      · rcases List.mem_cons.1 h2 with e | h2
        · exact e.symm
        · exact absurd (hl'.1 b h2) (lt_asymm ob oa (hm'.1 a h1))
    subst e
    have := Sr.uniq (l := l) (m := m) hl'.2 hm'.2 (fun y hy => ho y (by simp [hy])) fun y => by
      constructor
      · intro hy
        rcases List.mem_cons.1 ((h y).1 (by simp [hy])) with e | h1
        · subst e; exact absurd (hl'.1 y hy) (lt_irrefl oa)
        · exact h1
      · intro hy
        rcases List.mem_cons.1 ((h y).2 (by simp [hy])) with e | h1
        · subst e; exact absurd (hm'.1 y hy) (lt_irrefl oa)
        · exact h1
    rw [this]
end Tb
/-
  SB: the reference's sets. No condition.
-/
namespace Tb
open Go.Sx Go
theorem cmpR_eq {x y : Br} (hx : OkB x) (hy : OkB y) : cmpR x y = cmpB x y := by
  rw [or3_eq hx hy]
  unfold cmpR or3
  by_cases h1 : x.a = y.a ∧ x.b = y.b
  · have h0 := (cs_ok hx hy).2 h1
    rw [if_neg (by simpa using h1), if_pos h0]
    by_cases h2 : x.n = y.n
    · have h3 := ci_zero.2 h2
      rw [if_neg (by simpa using h2), if_pos h3]
      unfold ci
      by_cases h4 : x.m = y.m
      · rw [if_neg (by simpa using h4), if_neg (by omega), if_neg (by omega)]
      · rw [if_pos h4]
        by_cases h5 : x.m < y.m
        · rw [if_pos h5, if_pos h5]
        · rw [if_neg h5, if_neg h5, if_pos (by omega)]
    · rw [if_pos h2, if_neg (fun h => h2 (ci_zero.1 h))]
      unfold ci
      by_cases h5 : x.n < y.n
      · rw [if_pos h5, if_pos h5]
      · rw [if_neg h5, if_neg h5, if_pos (by omega)]
  · rw [if_pos h1, if_neg (fun h => h1 ((cs_ok hx hy).1 h))]
    unfold cs
    cases h2 : ltS x.a x.b y.a y.b with
    | true => simp
    | false =>
      cases h3 : ltS y.a y.b x.a x.b with
      | true => simp
      | false => exact absurd (ltS_tri _ _ _ _ hx hy h2 h3) h1
def AllOk (l : List Br) : Prop := ∀ y ∈ l, OkB y
theorem put_law {l r : List Br} {x : Br} (hs : Sr l) (ho : AllOk l) (hx : OkB x) (h : PutOf l x r) : Sr r ∧ (∀ y, y ∈ r ↔ y = x ∨ y ∈ l) ∧ r.length ≤ l.length + 1 := by
  obtain ⟨i, hi, ⟨hd, hp⟩, rfl⟩ := h
  have hsplit : l.take i ++ l.drop i = l := List.take_append_drop i l
  have hpw : Sr (l.take i ++ l.drop i) := by rw [hsplit]; exact hs
  obtain ⟨p1, p2, p3⟩ := List.pairwise_append.1 hpw
  have memT : ∀ {y}, y ∈ l.take i → y ∈ l := fun h => List.mem_of_mem_take h
  have memD : ∀ {y}, y ∈ l.drop i → y ∈ l := fun h => List.mem_of_mem_drop h
  have hlow : ∀ y ∈ l.take i, lt y x := by
    intro y hy
    cases i with
    | zero => simp at hy
    | succ k =>
      obtain ⟨z, hz, hzx⟩ := hp k rfl
      obtain ⟨hk, hze⟩ := List.getElem?_eq_some_iff.1 hz
      have oz : OkB z := ho z (List.mem_of_getElem? hz)
      rw [cmpR_eq hx oz] at hzx
      have hzx := (cmp_pos hx oz).1 hzx
      have oy : OkB y := ho y (memT hy)
      obtain ⟨j, hj, rfl⟩ := List.mem_iff_getElem.1 hy
      rw [List.length_take] at hj
      rw [List.getElem_take] at oy ⊢
      by_cases e : j = k
      · subst e; rw [hze]; exact hzx
      · have := List.pairwise_iff_getElem.1 hs j k (by omega) hk (by omega)
        rw [hze] at this
        exact lt_trans oy oz hx this hzx
  split
  · rename_i h
    have hm : x ∈ l := List.mem_of_getElem? h
    exact ⟨hs, fun y => ⟨fun h => .inr h, fun h => h.elim (fun e => e ▸ hm) id⟩, by omega⟩
  · rename_i hne
    have hhi : ∀ y ∈ l.drop i, lt x y := by
      intro y hy
      have oy : OkB y := ho y (memD hy)
      have h1 := hd y hy
      rw [cmpR_eq hx oy] at h1
      have h1 := (cmp_le hx oy).1 h1
      by_cases h2 : lt x y
      · exact h2
      · have e := lt_tri hx oy h2 h1
        subst e
        exfalso
        obtain ⟨j, hj, hje⟩ := List.mem_iff_getElem.1 hy
        rw [List.length_drop] at hj
        rw [List.getElem_drop] at hje
        cases j with
        | zero => exact hne (List.getElem?_eq_some_iff.2 ⟨by omega, by simpa using hje⟩)
        | succ j =>
          have hil : i < l.length := by omega
          have h3 := List.pairwise_iff_getElem.1 hs i (i + (j + 1)) hil (by omega) (by omega)
          rw [hje] at h3
          have h4 := hd l[i] (by rw [List.drop_eq_getElem_cons hil]; exact List.mem_cons_self)
          have o4 : OkB l[i] := ho _ (List.getElem_mem hil)
          rw [cmpR_eq hx o4] at h4
          exact (cmp_le hx o4).1 h4 h3
    refine ⟨List.pairwise_append.2 ⟨p1, List.pairwise_cons.2 ⟨hhi, p2⟩, ?_⟩, fun y => ?_, ?_⟩
    · intro a ha b hb
      rcases List.mem_cons.1 hb with rfl | hb
      · exact hlow a ha
      · exact p3 a ha b hb
    · rw [List.mem_append, List.mem_cons]
      conv => rhs; rw [← hsplit, List.mem_append]
      constructor
      · rintro (h | h | h)
        · exact .inr (.inl h)
        · exact .inl h
        · exact .inr (.inr h)
      · rintro (h | h | h)
        · exact .inr (.inl h)
        · exact .inl h
        · exact .inr (.inr h)
    · rw [List.length_append, List.length_cons, List.length_take, List.length_drop]; omega

/- a list in order that has these members -/
structure SetOf (p : Br → Prop) (r : List Br) : Prop where
  sr : Sr r
  mem : ∀ y, y ∈ r ↔ p y
theorem SetOf.uniq {p : Br → Prop} {r s : List Br} (hr : SetOf p r) (hs : SetOf p s) (ho : ∀ y, p y → OkB y) : r = s :=
  Sr.uniq hr.sr hs.sr (fun y hy => ho y ((hr.mem y).1 hy)) fun y => (hr.mem y).trans (hs.mem y).symm
theorem SetOf.put {p : Br → Prop} {r s : List Br} {x : Br} (hr : SetOf p r) (ho : ∀ y, p y → OkB y) (hx : OkB x) (h : PutOf r x s) : SetOf (fun y => y = x ∨ p y) s ∧ s.length ≤ r.length + 1 := by
  obtain ⟨h1, h2, h3⟩ := put_law hr.sr (fun y hy => ho y ((hr.mem y).1 hy)) hx h
  exact ⟨⟨h1, fun y => by rw [h2 y, hr.mem y]⟩, h3⟩
theorem SetOf.congr {p q : Br → Prop} {r : List Br} (hr : SetOf p r) (h : ∀ y, p y ↔ q y) : SetOf q r := ⟨hr.sr, fun y => (hr.mem y).trans (h y)⟩
theorem SetOf.nil : SetOf (fun _ => False) [] := ⟨List.Pairwise.nil, fun y => by simp⟩

def SetInv (l : List Br) (h : T Blk) (nx : Key) (m : Nat) (tm' : T AV) (h' : T Blk) (nx' : Key) : Prop := ∃ (j : Nat) (d : AV) (r : List Br), m = l.length - j ∧ j ≤ l.length ∧ T.get (K 0) tm' = some (.sl (rowsA eB l) l.length 3 .any) ∧ T.get (K 3) tm' = some d ∧ T.get (K 4) tm' = some (I j) ∧
      IsL d r ∧ SetOf (· ∈ l.take j) r ∧ r.length ≤ j ∧ Ext h nx h' nx'
def UniInv (l m : List Br) (h : T Blk) (nx : Key) (k : Nat) (tm' : T AV) (h' : T Blk) (nx' : Key) : Prop := ∃ (j : Nat) (d : AV) (r : List Br), k = m.length - j ∧ j ≤ m.length ∧ T.get (K 1) tm' = some (.sl (rowsA eB m) m.length 3 .any) ∧ T.get (K 5) tm' = some d ∧ T.get (K 6) tm' = some (I j) ∧
      IsL d r ∧ SetOf (fun y => y ∈ l ∨ y ∈ m.take j) r ∧ r.length ≤ l.length + j ∧ Ext h nx h' nx'
def MinInv (l m : List Br) (d : AV) (h : T Blk) (nx : Key) (k : Nat) (tm' : T AV) (h' : T Blk) (nx' : Key) : Prop := ∃ (j : Nat) (e : AV) (r : List Br), k = l.length - j ∧ j ≤ l.length ∧ T.get (K 0) tm' = some (.sl (rowsA eB l) l.length 3 .any) ∧ T.get (K 1) tm' = some d ∧ T.get (K 5) tm' = some e ∧ T.get (K 6) tm' = some (I j) ∧
      IsL e r ∧ SetOf (fun y => y ∈ l.take j ∧ y ∉ m) r ∧ r.length ≤ j ∧ Ext h nx h' nx'
/- a call that hands back a set -/
def GiveSet (p : Br → Prop) (n : Nat) (o : Out) : Prop := ∃ c', o = .ret c' ∧ ∃ r, IsL c' r ∧ SetOf p r ∧ r.length ≤ n
variable {C : Cfg} (S : Std C)
include S

theorem setR_ok {c : AV} {l : List Br} (hc : IsL c l) (hl : l.length ≤ 1000) (ho : AllOk l) : Pur C n_ref13_Set [c] (GiveSet (· ∈ l) l.length) := by
  intro h nx
  have r1 : C.raw n_ref13_put = false := S.raw _ (by decide)
  refine S.c_ref13_Set.call ?_
  simp [ref13_Set]
  simp [ref13_Set_r0]
  simp [ref13_Set_r1]
  simp [ref13_Set_r2]
  rcases hc with ⟨rfl, rfl⟩ | rfl
  · refine W.unroll (W.of ?_)
    simp [ref13_Set_l0]
    simp [ref13_Set_r3]
    simp [ref13_Set_r6]
    exact ⟨⟨_, rfl, [], .inl ⟨rfl, rfl⟩, SetOf.nil.congr (by simp), by simp⟩, Ext.refl _ _⟩
  · refine W.loopM (n := l.length) (SetInv l h nx) ?_ ?_
    · unfold SetInv
      refine ⟨0, .nils, [], by simp, by omega, ?_, ?_, ?_, .inl ⟨rfl, rfl⟩, SetOf.nil.congr (by simp), by simp, Ext.refl _ _⟩ <;> simp
    · rintro m tm1 h1 nx1 ⟨j, d, r, rfl, hj, f0, f3, f4, hd, hset, hrl, e1⟩
      have hds : ∀ n h, frzA n d h = (d, h) := IsR.stb hd
      refine W.of ?_
      simp [ref13_Set_l0]
      simp [ref13_Set_r3, f0, f4]
      refine ⟨fun hlt => ?_, fun hge => ?_⟩
      · have hjl : j < l.length := by omega
        have hr := flatB.rows l
        have h3 : 3 ≤ (rowsA eB l).length - j * 3 := by omega
        have ec := flatB.at hjl
        have hz : ∀ H, frzLA (frzA 7) (eB l[j]) H = (eB l[j], H) := fun H => frzLA_stb (flatB.stb _)
        simp [ref13_Set_r4, f0, f3, f4, hjl, h3, ec, r1, hds, hz]
        refine (put_ok S hd (by omega) l[j] _ _).mono ?_
        rintro o h2 nx2 ⟨⟨d2, rfl, r2, hd2, hput⟩, e2⟩
        have hput2 := hset.put (fun y hy => ho y (List.mem_of_mem_take hy)) (ho _ (List.getElem_mem hjl)) hput
        simp
        simp [ref13_Set_r5, f4]
        refine ⟨l.length - (j + 1), by omega, ?_⟩
        unfold SetInv
        refine ⟨j + 1, d2, r2, rfl, by omega, ?_, ?_, ?_, hd2, hput2.1.congr fun y => ?_, by have := hput2.2; omega, e1.trans e2⟩
        · simp [f0]
        · simp
        · simp; rw [wrap_id (by omega) (by omega)]
        · rw [List.take_succ_eq_append_getElem hjl, List.mem_append, List.mem_singleton]; exact or_comm
      · have hjl : j = l.length := by omega
        subst hjl
        simp [ref13_Set_r6, f3, hds]
        rw [List.take_length] at hset
        exact ⟨⟨d, rfl, r, hd, hset, hrl⟩, e1⟩

theorem unionR_ok {c d : AV} {l m : List Br} (hc : IsL c l) (hm : IsL d m) (hl : l.length ≤ 1000) (hml : m.length ≤ 1000) (ho : AllOk l) (hom : AllOk m) : Pur C n_ref13_Union [c, d] (GiveSet (fun y => y ∈ l ∨ y ∈ m) (l.length + m.length)) := by
  intro h nx
  have r1 : C.raw n_ref13_put = false := S.raw _ (by decide)
  have r2 : C.raw n_ref13_Set = false := S.raw _ (by decide)
  have hcs : ∀ n h, frzA n c h = (c, h) := IsR.stb hc
  refine S.c_ref13_Union.call ?_
  simp [ref13_Union]
  simp [ref13_Union_r0]
  simp [ref13_Union_r1, r2, hcs]
  refine (setR_ok S hc hl ho _ _).mono ?_
  rintro o h1 nx1 ⟨⟨c1, rfl, q, hc1, hset, hql⟩, e1⟩
  simp
  simp [ref13_Union_r2]
  rcases hm with ⟨rfl, rfl⟩ | rfl
  · have hds : ∀ n h, frzA n c1 h = (c1, h) := IsR.stb hc1
    refine W.unroll (W.of ?_)
    simp [ref13_Union_l0]
    simp [ref13_Union_r3]
    simp [ref13_Union_r6, hds]
    exact ⟨⟨c1, rfl, q, hc1, hset.congr (by simp), by simpa using hql⟩, e1⟩
  · refine W.loopM (n := m.length) (UniInv l m h nx) ?_ ?_
    · unfold UniInv
      refine ⟨0, c1, q, by simp, by omega, ?_, ?_, ?_, hc1, hset.congr (by simp), by omega, e1⟩ <;> simp
    · rintro k tm1 h1 nx1 ⟨j, d, r, rfl, hj, f0, f3, f4, hd, hset, hrl, e1⟩
      have hds : ∀ n h, frzA n d h = (d, h) := IsR.stb hd
      refine W.of ?_
      simp [ref13_Union_l0]
      simp [ref13_Union_r3, f0, f4]
      refine ⟨fun hlt => ?_, fun hge => ?_⟩
      · have hjl : j < m.length := by omega
        have hr := flatB.rows m
        have h3 : 3 ≤ (rowsA eB m).length - j * 3 := by omega
        have ec := flatB.at hjl
        have hz : ∀ H, frzLA (frzA 7) (eB m[j]) H = (eB m[j], H) := fun H => frzLA_stb (flatB.stb _)
        simp [ref13_Union_r4, f0, f3, f4, hjl, h3, ec, r1, hds, hz]
        refine (put_ok S hd (by omega) m[j] _ _).mono ?_
        rintro o h2 nx2 ⟨⟨d2, rfl, r2, hd2, hput⟩, e2⟩
        have hput2 := hset.put (fun y hy => hy.elim (ho y) fun hy => hom y (List.mem_of_mem_take hy)) (hom _ (List.getElem_mem hjl)) hput
        simp
        simp [ref13_Union_r5, f4]
        refine ⟨m.length - (j + 1), by omega, ?_⟩
        unfold UniInv
        refine ⟨j + 1, d2, r2, rfl, by omega, ?_, ?_, ?_, hd2, hput2.1.congr fun y => ?_, by have := hput2.2; omega, e1.trans e2⟩
        · simp [f0]
        · simp
        · simp; rw [wrap_id (by omega) (by omega)]
        · rw [List.take_succ_eq_append_getElem hjl, List.mem_append, List.mem_singleton]
          constructor
          · rintro (h | h | h)
            · exact .inr (.inr h)
            · exact .inl h
            · exact .inr (.inl h)
          · rintro (h | h | h)
            · exact .inr (.inl h)
            · exact .inr (.inr h)
            · exact .inl h
      · have hjl : j = m.length := by omega
        subst hjl
        simp [ref13_Union_r6, f3, hds]
        rw [List.take_length] at hset
        exact ⟨⟨d, rfl, r, hd, hset, hrl⟩, e1⟩

theorem minusR_ok {c d : AV} {l m : List Br} (hc : IsL c l) (hm : IsL d m) (hl : l.length ≤ 1000) (hml : m.length ≤ 1000) (ho : AllOk l) : Pur C n_ref13_Minus [c, d] (GiveSet (fun y => y ∈ l ∧ y ∉ m) l.length) := by
  intro h nx
  have r1 : C.raw n_ref13_put = false := S.raw _ (by decide)
  have r2 : C.raw n_ref13_Has = false := S.raw _ (by decide)
  have hms : ∀ n h, frzA n d h = (d, h) := IsR.stb hm
  refine S.c_ref13_Minus.call ?_
  simp [ref13_Minus]
  simp [ref13_Minus_r0]
  simp [ref13_Minus_r1]
  simp [ref13_Minus_r2]
  rcases hc with ⟨rfl, rfl⟩ | rfl
  · refine W.unroll (W.of ?_)
    simp [ref13_Minus_l0]
    simp [ref13_Minus_r3]
    simp [ref13_Minus_r7]
    exact ⟨⟨_, rfl, [], .inl ⟨rfl, rfl⟩, SetOf.nil.congr (by simp), by simp⟩, Ext.refl _ _⟩
  · refine W.loopM (n := l.length) (MinInv l m d h nx) ?_ ?_
    · unfold MinInv
      refine ⟨0, .nils, [], by simp, by omega, ?_, ?_, ?_, ?_, .inl ⟨rfl, rfl⟩, SetOf.nil.congr (by simp), by simp, Ext.refl _ _⟩ <;> simp
    · rintro k tm1 h1 nx1 ⟨j, e, r, rfl, hj, f0, f1, f3, f4, hd, hset, hrl, e1⟩
      have hds : ∀ n h, frzA n e h = (e, h) := IsR.stb hd
      refine W.of ?_
      simp [ref13_Minus_l0]
      simp [ref13_Minus_r3, f0, f4]
      refine ⟨fun hlt => ?_, fun hge => ?_⟩
      · have hjl : j < l.length := by omega
        have hr := flatB.rows l
        have h3 : 3 ≤ (rowsA eB l).length - j * 3 := by omega
        have ec := flatB.at hjl
        have hz : ∀ H, frzLA (frzA 7) (eB l[j]) H = (eB l[j], H) := fun H => frzLA_stb (flatB.stb _)
        simp [ref13_Minus_r4, f0, f1, f4, hjl, h3, ec, r2, hms, hz]
        refine (hasR_ok S hm (by omega) l[j] _ _).mono ?_
        rintro o h2 nx2 ⟨rfl, e2⟩
        simp
        refine ⟨fun hn => ?_, fun hin => ?_⟩
        · simp [ref13_Minus_r5, f0, f3, f4, hjl, h3, ec, r1, hds, hz]
          refine (put_ok S hd (by omega) l[j] _ _).mono ?_
          rintro o h3 nx3 ⟨⟨d2, rfl, r2, hd2, hput⟩, e3⟩
          have hput2 := hset.put (fun y hy => ho y (List.mem_of_mem_take hy.1)) (ho _ (List.getElem_mem hjl)) hput
          simp
          simp [ref13_Minus_r6, f4]
          refine ⟨l.length - (j + 1), by omega, ?_⟩
          unfold MinInv
          refine ⟨j + 1, d2, r2, rfl, by omega, ?_, ?_, ?_, ?_, hd2, hput2.1.congr fun y => ?_, by have := hput2.2; omega, e1.trans (e2.trans e3)⟩
          · simp [f0]
          · simp [f1]
          · simp
          · simp; rw [wrap_id (by omega) (by omega)]
          · rw [List.take_succ_eq_append_getElem hjl, List.mem_append, List.mem_singleton]
            constructor
            · rintro (h | h)
              · exact ⟨.inr h, by rw [h]; exact hn⟩
              · exact ⟨.inl h.1, h.2⟩
            · rintro ⟨h | h, h2⟩
              · exact .inr ⟨h, h2⟩
              · exact .inl h
        · simp [ref13_Minus_r6, f4]
          refine ⟨l.length - (j + 1), by omega, ?_⟩
          unfold MinInv
          refine ⟨j + 1, e, r, rfl, by omega, ?_, ?_, ?_, ?_, hd, hset.congr fun y => ?_, by omega, e1.trans e2⟩
          · simp [f0]
          · simp [f1]
          · simp [f3]
          · simp; rw [wrap_id (by omega) (by omega)]
          · rw [List.take_succ_eq_append_getElem hjl, List.mem_append, List.mem_singleton]
            constructor
            · rintro ⟨h, h2⟩
              exact ⟨.inl h, h2⟩
            · rintro ⟨h | h, h2⟩
              · exact ⟨h, h2⟩
              · exact absurd (by rw [h]; exact hin) h2
      · have hjl : j = l.length := by omega
        subst hjl
        simp [ref13_Minus_r7, f3, hds]
        rw [List.take_length] at hset
        exact ⟨⟨e, rfl, r, hd, hset, hrl⟩, e1⟩
end Tb
