/-
  SB: the reference's bytes. No condition.
-/
import Derived.Test.YtdghbgpolijpcaaGreatDoorYA
set_option linter.unusedSimpArgs false
set_option linter.unusedVariables false
set_option linter.unusedSectionVars false
namespace Tb
open Go.Sx Go
/- functions whose results are not made fast -/
structure FnR (C : Cfg) (f : Nat) (p : PFn) : Prop where
  get : getFn C f = some p
  off : ∀ l h nx, C.sum f l h nx = none
  rawR : C.rawR f = true
def BodyR (res : List RV) (R : Out → T Blk → Key → Prop) : Post := fun e tm h nx => match e with
  | .norm | .ret => ∃ l, resultsA h tm res = some l ∧ R (.ret (tupled l)) h nx
  | .pan a => R (.pan a) h nx
  | .exit _ => False
@[simp] theorem bodyR_ret (res : List RV) (R : Out → T Blk → Key → Prop) (tm : T AV) (h : T Blk) (nx : Key) : BodyR res R .ret tm h nx = ∃ l, resultsA h tm res = some l ∧ R (.ret (tupled l)) h nx := hid Iff.rfl
@[simp] theorem bodyR_norm (res : List RV) (R : Out → T Blk → Key → Prop) (tm : T AV) (h : T Blk) (nx : Key) : BodyR res R .norm tm h nx = ∃ l, resultsA h tm res = some l ∧ R (.ret (tupled l)) h nx := hid Iff.rfl
theorem FnR.call {C : Cfg} {f : Nat} {p : PFn} (S : FnR C f p) {l : List AV} {h : T Blk} {nx : Key} {R : Out → T Blk → Key → Prop} (hw : wpC C p.body (BodyR p.res R) (paramsT l (K 0) .nil) h nx) : CallA C f l h nx R := by
  refine CallA.of_wp (S.off _ _ _) S.get ?_
  have e : BodyPost C f p.res R = BodyR p.res R := by
    funext e tm h nx
    cases e <;> simp only [BodyPost, BodyR, S.rawR] <;> rfl
  rw [e]
  exact hw
/- a row of bytes that a call hands back, to be appended to -/
def GiveY (bs : List Nat) (h : T Blk) (nx : Key) (o : Out) (h' : T Blk) (nx' : Key) : Prop := (∃ c', o = .ret c' ∧ App c' (rowsA eY bs) bs.length 1 h' nx' nx) ∧ Ext h nx h' nx'
variable {C : Cfg}
def RuInv (n : Nat) (h : T Blk) (nx : Key) (k : Nat) (tm' : T AV) (h' : T Blk) (nx' : Key) : Prop :=
  ∃ (n' : Nat) (bs' : List Nat) (c' : AV), k ≤ 10 ∧ T.get (K 0) tm' = some (.int .u64 (.lit (n' : Int))) ∧ T.get (K 3) tm' = some c' ∧ App c' (rowsA eY bs') bs'.length 1 h' nx' nx ∧ n' * 128 ^ (10 - k) < 18446744073709551616 ∧ bs' ++ vuF k n' = vu n ∧ bs'.length ≤ 10 - k ∧ Ext h nx h' nx'
theorem rUint_ok (S : FnR C n_ref02_Uint ref02_Uint) {n : Nat} (hn : n < 18446744073709551616) (h : T Blk) (nx : Key) : CallA C n_ref02_Uint [.int .u64 (.lit (n : Int))] h nx (GiveY (vu n) h nx) := by
  refine S.call ?_
  simp [ref02_Uint]
  simp [ref02_Uint_r0]
  simp [ref02_Uint_r1]
  refine W.loopM (n := 10) (RuInv n h nx) ?_ ?_
  · exact ⟨n, [], .nils, by omega, by simp, by simp, App.nil 1, by simpa using hn, rfl, by simp, Ext.refl _ _⟩
  · rintro k tm1 h1 nx1 ⟨n', bs', c', hk, f0, f3, hA, hlt, hbs, hlen, e1⟩
    have s1 := Key.toNat_succ nx1
    have hnn := e1.n
    refine W.of ?_
    simp [ref02_Uint_l0]
    by_cases hsm : n' < 128
    · have hsm' : ¬ (127 : Int) < n' := by omega
      have hv : vuF k n' = [n'] := by cases k <;> simp [vuF, hsm]
      simp [ref02_Uint_r2, f0, hsm']
      obtain ⟨m, hm⟩ : ∃ m, m = n' % 256 := ⟨_, rfl⟩
      have h12 : wrapF .u8 (n' : Int) = (m : Int) := by rw [wrap_u8, hm]
      have hmn : m = n' := by omega
      have hr1 : rowsA eY [m] = [.int .u8 (.lit (m : Int))] := rowsA_one _ _
      obtain ⟨c2, h2, nx2, g, A2, x1, x2, x3⟩ := (hA.ext (E0 h1 nx1 (.cells [.int .u8 (.lit (m : Int))] .fix))).addN (new := rowsA eY [m]) (m := 1) (by omega) (by rw [flatY.rows]; rfl) (by omega) (flatY.allc _)
      have hz : ∀ H, frzLA (frzA 8) [AV.int .u8 (.lit (m : Int))] H = ([AV.int .u8 (.lit (m : Int))], H) := fun H => frzLA_stb (by intro y hy; simp at hy; subst hy; exact stb_int _ _)
      rw [← rowsA_app] at A2
      rw [hr1] at g
      simp [-appendTo, ref02_Uint_r5, f0, f3, h12, hz, g]
      refine ⟨⟨c2, rfl, ?_⟩, by omega, fun b hb => ?_⟩
      · rw [← hbs, hv, ← hmn, List.length_append, List.length_singleton]; exact A2
      · rw [x2 b hb, get_lt (by omega)]; exact e1.g b hb
    · have hsm' : (127 : Int) < n' := by omega
      cases k with
      | zero =>
        exfalso
        have : (128 : Nat) ^ (10 - 0) = 1180591620717411303424 := by decide
        rw [this] at hlt; omega
      | succ k =>
        simp [ref02_Uint_r2, f0, hsm']
        have hn64 : n' < 18446744073709551616 := by
          have : 0 < 128 ^ (10 - (k + 1)) := Nat.pow_pos (by omega)
          exact Nat.lt_of_le_of_lt (Nat.le_mul_of_pos_right _ this) hlt
        obtain ⟨r, hr⟩ : ∃ r, r = n' % 128 := ⟨_, rfl⟩
        obtain ⟨y, hy⟩ : ∃ y, y = 128 + r := ⟨_, rfl⟩
        obtain ⟨d, hd⟩ : ∃ d, d = n' / 128 := ⟨_, rfl⟩
        have t1 : Int.tmod (n' : Int) 128 = (r : Int) := by rw [hr]; exact (Int.ofNat_tmod n' 128).symm
        have t2 : wrapF .u64 (128 + (r : Int)) = (y : Int) := by
          rw [show (128 : Int) + r = ((y : Nat) : Int) by omega]; exact wrap_len y (by omega)
        have t3 : wrapF .u8 (y : Int) = (y : Int) := by rw [wrap_u8]; omega
        have t4 : wrapF .u64 ((n' : Int) / 128) = (d : Int) := by
          rw [show (n' : Int) / 128 = ((d : Nat) : Int) by omega]; exact wrap_len d (by omega)
        have hr1 : rowsA eY [y] = [.int .u8 (.lit (y : Int))] := rowsA_one _ _
        obtain ⟨c2, h2, nx2, g, A2, x1, x2, x3⟩ := (hA.ext (E0 h1 nx1 (.cells [.int .u8 (.lit (y : Int))] .fix))).addN (new := rowsA eY [y]) (m := 1) (by omega) (by rw [flatY.rows]; rfl) (by omega) (flatY.allc _)
        have hz : ∀ H, frzLA (frzA 8) [AV.int .u8 (.lit (y : Int))] H = ([AV.int .u8 (.lit (y : Int))], H) := fun H => frzLA_stb (by intro z hz; simp at hz; subst hz; exact stb_int _ _)
        rw [← rowsA_app] at A2
        rw [hr1] at g
        simp [-appendTo, ref02_Uint_r3, f0, f3, t1, t2, t3, hz, g]
        simp [ref02_Uint_r4, f0, t4]
        refine ⟨k, by omega, ?_⟩
        unfold RuInv
        have hp : 10 - k = (10 - (k + 1)) + 1 := by omega
        refine ⟨d, bs' ++ [y], c2, by omega, ?_, ?_, ?_, ?_, ?_, ?_, ⟨by omega, fun b hb => ?_⟩⟩
        · simp
        · simp
        · rw [List.length_append, List.length_singleton]; exact A2
        · rw [hp, Nat.pow_succ, hd]
          have : n' / 128 * (128 ^ (10 - (k + 1)) * 128) ≤ n' * 128 ^ (10 - (k + 1)) := by
            rw [Nat.mul_comm (128 ^ _) 128, ← Nat.mul_assoc]
            exact Nat.mul_le_mul_right _ (Nat.div_mul_le_self _ _)
          omega
        · rw [← hbs, vuF, if_neg hsm, hy, hr, hd, List.append_assoc]; rfl
        · rw [List.length_append, List.length_singleton]; omega
        · rw [x2 b hb, get_lt (by omega)]; exact e1.g b hb
theorem rZig_ok (S : Fn C n_ref02_Zigzag ref02_Zigzag) {n : Int} (h1 : -9223372036854775808 ≤ n) (h2 : n < 9223372036854775808) : Pur C n_ref02_Zigzag [I n] (· = .ret (.int .u64 (.lit (zz n : Int)))) := by
  intro h nx
  refine S.call ?_
  simp [ref02_Zigzag]
  simp [ref02_Zigzag_r0]
  have hzl := zz_lt h1 h2
  by_cases hn : n < 0
  · obtain ⟨p, hp⟩ : ∃ p, p = n + 1 := ⟨_, rfl⟩
    obtain ⟨q, hq⟩ : ∃ q : Nat, q = (-p).toNat := ⟨_, rfl⟩
    obtain ⟨t, ht⟩ : ∃ t : Nat, t = 2 * q := ⟨_, rfl⟩
    have hz : zz n = t + 1 := by unfold zz; rw [if_pos hn]; omega
    have t1 : wrapF .i64 (n + 1) = p := by rw [← hp]; exact wrap_id (by omega) (by omega)
    have t2 : wrapF .i64 (-p) = (q : Int) := by rw [show -p = ((q : Nat) : Int) by omega]; exact wrap_id (by omega) (by omega)
    have t2' : wrapF .i64 (0 - p) = (q : Int) := by rw [show 0 - p = ((q : Nat) : Int) by omega]; exact wrap_id (by omega) (by omega)
    have t3 : wrapF .u64 (q : Int) = (q : Int) := wrap_len q (by omega)
    have t4 : wrapF .u64 (2 * (q : Int)) = (t : Int) := by rw [show 2 * (q : Int) = ((t : Nat) : Int) by omega]; exact wrap_len t (by omega)
    have t5 : wrapF .u64 ((t : Int) + 1) = ((zz n : Nat) : Int) := by rw [hz, show (t : Int) + 1 = ((t + 1 : Nat) : Int) by omega]; exact wrap_len (t + 1) (by omega)
    simp [ref02_Zigzag_r1, hn]
    simp [ref02_Zigzag_r2, t1, t2, t2', t3, t4, t5]
    exact Ext.refl _ _
  · obtain ⟨q, hq⟩ : ∃ q : Nat, q = n.toNat := ⟨_, rfl⟩
    have e : n = (q : Int) := by omega
    have hz : zz n = 2 * q := by unfold zz; rw [if_neg hn]; omega
    have t3 : wrapF .u64 n = (q : Int) := by rw [e]; exact wrap_len q (by omega)
    have t4 : wrapF .u64 (2 * (q : Int)) = ((zz n : Nat) : Int) := by rw [hz, show 2 * (q : Int) = ((2 * q : Nat) : Int) by omega]; exact wrap_len (2 * q) (by omega)
    simp [ref02_Zigzag_r1, hn]
    simp [ref02_Zigzag_r3, t3, t4]
    exact Ext.refl _ _
theorem rInt_ok (S : FnR C n_ref02_Int ref02_Int) (SZ : Fn C n_ref02_Zigzag ref02_Zigzag) (SU : FnR C n_ref02_Uint ref02_Uint) (hz : C.raw n_ref02_Zigzag = false) (hu : C.raw n_ref02_Uint = false) {n : Int} (h1 : -9223372036854775808 ≤ n) (h2 : n < 9223372036854775808) (h : T Blk) (nx : Key) :
    CallA C n_ref02_Int [I n] h nx (GiveY (vu (zz n)) h nx) := by
  refine S.call ?_
  simp [ref02_Int]
  simp [ref02_Int_r0]
  simp [ref02_Int_r1, hz]
  refine (rZig_ok SZ h1 h2 _ _).mono ?_
  rintro o h3 nx3 ⟨rfl, e3⟩
  simp [hu]
  refine (rUint_ok SU (zz_lt h1 h2) _ _).mono ?_
  rintro o h4 nx4 ⟨⟨c', rfl, hA⟩, e4⟩
  simp
  refine ⟨⟨c', rfl, ?_⟩, e3.trans e4⟩
  have hn := e3.n
  refine ⟨?_⟩
  rcases hA.is with ⟨a1, a2, a3⟩ | ⟨b, a1, a2, a3, a4, a5⟩ | ⟨t, a1, a2, a3, a4⟩
  · exact .inl ⟨a1, a2, a3⟩
  · exact .inr (.inl ⟨b, a1, a2, by omega, a4, a5⟩)
  · exact .inr (.inr ⟨t, a1, a2, by omega, a4⟩)
end Tb
/-
  SB: rows of bytes: copies, equality. No condition.
-/
namespace Tb
open Go.Sx Go
theorem App.low {c : AV} {l : List AV} {len sz : Nat} {h : T Blk} {nx n0 n1 : Key} (ha : App c l len sz h nx n1) (hn : n0.toNat ≤ n1.toNat) : App c l len sz h nx n0 := by
  refine ⟨?_⟩
  rcases ha.is with ⟨a1, a2, a3⟩ | ⟨b, a1, a2, a3, a4, a5⟩ | ⟨t, a1, a2, a3, a4⟩
  · exact .inl ⟨a1, a2, a3⟩
  · exact .inr (.inl ⟨b, a1, a2, by omega, a4, a5⟩)
  · exact .inr (.inr ⟨t, a1, a2, by omega, a4⟩)
/- a row that grows, appended to a row that grows -/
theorem app_app {orc : Orc} {k k' : Key} {c x : AV} {bs m : List Nat} {tm : T AV} {h : T Blk} {nx n0 : Key} (hk : T.get k tm = some c) (hk' : T.get k' tm = some x) (hc : App c (rowsA eY bs) bs.length 1 h nx n0) (hx : App x (rowsA eY m) m.length 1 h nx n0) (hn : n0.toNat ≤ nx.toNat) (hl : bs.length + m.length ≤ 1048576) :
    ∃ c' h' nx', aOp orc (.append 1 (.t k) (.t k')) tm h nx = .val c' h' nx' ∧ App c' (rowsA eY (bs ++ m)) (bs ++ m).length 1 h' nx' n0 ∧ nx.toNat ≤ nx'.toNat ∧ ∀ b : Key, b.toNat < n0.toNat → T.get b h' = T.get b h := by
  obtain ⟨c2, h2, nx2, g, A2, x1, x2, _⟩ := hc.addN (new := rowsA eY m) (m := m.length) hn (by rw [flatY.rows]) hl (flatY.allc m)
  rw [← rowsA_app] at A2
  refine ⟨c2, h2, nx2, ?_, by rw [List.length_append]; exact A2, x1, x2⟩
  rcases hx.is with ⟨rfl, e1, e2⟩ | ⟨b, rfl, hb, hlo, hlt, hll⟩ | ⟨t, rfl, ht, hlo, hlt⟩
  · have : m = [] := List.eq_nil_of_length_eq_zero e2
    subst this
    simp only [rowsA_nil, List.length_nil] at g
    simp [-appendTo, hk, hk', g]
  · have hz : ∀ H, frzLA (frzA 8) (rowsA eY m) H = (rowsA eY m, H) := fun H => frzLA_stb (flatY.stbs m)
    have hle : m.length ≤ (rowsA eY m).length := by rw [flatY.rows]; omega
    have htk : List.take m.length (rowsA eY m) = rowsA eY m := List.take_of_length_le (by rw [flatY.rows]; omega)
    simp [-appendTo, hk, hk', hb, hz, hle, htk, g]
  · simp [-appendTo, hk, hk', g]
theorem wp_app {C : Cfg} {Q : Post} {dst k k' : Key} {l : List POper} {c x : AV} {bs m : List Nat} {tm : T AV} {h : T Blk} {nx n0 : Key} (hk : T.get k tm = some c) (hk' : T.get k' tm = some x) (hc : App c (rowsA eY bs) bs.length 1 h nx n0) (hx : App x (rowsA eY m) m.length 1 h nx n0) (hn : n0.toNat ≤ nx.toNat) (hl : bs.length + m.length ≤ 1048576)
    (hQ : ∀ c' h' nx', App c' (rowsA eY (bs ++ m)) (bs ++ m).length 1 h' nx' n0 → nx.toNat ≤ nx'.toNat → (∀ b : Key, b.toNat < n0.toNat → T.get b h' = T.get b h) → wpO C Q l (T.set dst (some c') tm) h' nx') : wpO C Q (⟨some dst, .append 1 (.t k) (.t k'), none⟩ :: l) tm h nx := by
  obtain ⟨c', h', nx', g, A, hn', hf⟩ := app_app (orc := C.orc) hk hk' hc hx hn hl
  rw [wpO_cons, wants_none, wpGo_true, g]
  exact hQ c' h' nx' A hn' hf
theorem wp_appS {C : Cfg} {Q : Post} {d : SD} {i : Nat} {dst k k' : Key} {l : List SItem} {c x : AV} {bs m : List Nat} {tm : T AV} {h : T Blk} {nx n0 : Key} (hk : T.get k tm = some c) (hk' : T.get k' tm = some x) (hc : App c (rowsA eY bs) bs.length 1 h nx n0) (hx : App x (rowsA eY m) m.length 1 h nx n0) (hn : n0.toNat ≤ nx.toNat) (hl : bs.length + m.length ≤ 1048576)
    (hQ : ∀ c' h' nx', App c' (rowsA eY (bs ++ m)) (bs ++ m).length 1 h' nx' n0 → nx.toNat ≤ nx'.toNat → (∀ b : Key, b.toNat < n0.toNat → T.get b h' = T.get b h) → wpS C Q d l [] (T.set dst (some c') tm) h' nx') : wpS C Q d (.H i ⟨some dst, .append 1 (.t k) (.t k'), none⟩ [] :: l) [] tm h nx := by
  obtain ⟨c', h', nx', g, A, hn', hf⟩ := app_app (orc := C.orc) hk hk' hc hx hn hl
  rw [wpS_H, wants_none, wpGh_true]
  simp only [List.filter_nil, adoptH_nil]
  rw [g]
  exact hQ c' h' nx' A hn' hf
variable {C : Cfg}
theorem rRaw_ok (S : FnR C n_ref02_Raw ref02_Raw) (SU : FnR C n_ref02_Uint ref02_Uint) (hu : C.raw n_ref02_Uint = false) {l : List Nat} (hl : l.length ≤ 100000) (h : T Blk) (nx : Key) :
    CallA C n_ref02_Raw [.sl (rowsA eY l) l.length 1 .any] h nx (GiveY (vu l.length ++ l) h nx) := by
  refine S.call ?_
  have hw := wrap_len l.length (by omega)
  have hvl : (vu l.length).length ≤ 11 := by
    have : ∀ k n, (vuF k n).length ≤ k + 1 := by
      intro k
      induction k with
      | zero => intro n; simp [vuF]
      | succ k ih => intro n; rw [vuF]; split
                     · simp
                     · have := ih (n / 128); rw [List.length_cons]; omega
    exact this 10 l.length
  simp [ref02_Raw]
  simp [ref02_Raw_r0]
  simp [ref02_Raw_r1, hw, hu]
  refine (rUint_ok SU (n := l.length) (by omega) _ _).mono ?_
  rintro o h1 nx1 ⟨⟨c1, rfl, hA⟩, e1⟩
  obtain ⟨c2, h2, nx2, g, A2, x1, x2, _⟩ := hA.addN (new := rowsA eY l) (m := l.length) e1.n (by rw [flatY.rows]) (by omega) (flatY.allc l)
  rw [← rowsA_app] at A2
  simp [-appendTo, g]
  exact ⟨⟨c2, rfl, by rw [List.length_append]; exact A2⟩, by have := e1.n; omega, fun b hb => by rw [x2 b hb]; exact e1.g b hb⟩
end Tb
/-
  SB: the reference's Encode. No condition.
-/
namespace Tb
open Go.Sx Go
structure StdR (C : Cfg) : Prop where
  w : StdW C
  renc : Fn C n_ref13_Encode ref13_Encode
  rint : FnR C n_ref02_Int ref02_Int
  rraw : FnR C n_ref02_Raw ref02_Raw
  ruint : FnR C n_ref02_Uint ref02_Uint
  rzig : Fn C n_ref02_Zigzag ref02_Zigzag
variable {C : Cfg} (S : StdR C)
include S
theorem rint2 {n : Int} (h1 : -9223372036854775808 ≤ n) (h2 : n < 9223372036854775808) (h : T Blk) (nx : Key) : CallA C n_ref02_Int [I n] h nx (GiveY (vu (zz n)) h nx) :=
  rInt_ok S.rint S.rzig S.ruint (S.w.b.raw _ (by decide)) (S.w.b.raw _ (by decide)) h1 h2 h nx
def REncInv (c : AV) (l : List Br) (h : T Blk) (nx : Key) (k : Nat) (tm' : T AV) (h' : T Blk) (nx' : Key) : Prop :=
  ∃ (j : Nat) (d : AV), k = l.length - j ∧ j ≤ l.length ∧ T.get (K 0) tm' = some c ∧ T.get (K 3) tm' = some d ∧ T.get (K 4) tm' = some (I j) ∧
    App d (rowsA eY (vu (zz l.length) ++ (l.take j).flatMap encB)) (vu (zz l.length) ++ (l.take j).flatMap encB).length 1 h' nx' nx ∧ nx.toNat ≤ nx'.toNat ∧ ∀ b : Key, b.toNat < nx.toNat → T.get b h' = T.get b h
theorem rEncode_ok {c : AV} {l : List Br} (hc : IsL c l) (hin : ∀ x ∈ l, In x) (hl : (encL l).length ≤ 100000) : Pur C n_ref13_Encode [c] (fun o => ∃ c', o = .ret c' ∧ IsR 1 eY c' (encL l)) := by
  intro h nx
  have q1 : C.raw n_ref02_Int = false := S.w.b.raw _ (by decide)
  have q2 : C.raw n_ref02_Raw = false := S.w.b.raw _ (by decide)
  have q3 : C.raw n_ref02_Uint = false := S.w.b.raw _ (by decide)
  have hfl := flat_len l
  have hel : (encL l).length = (vu (zz l.length)).length + (l.flatMap encB).length := by unfold encL; rw [List.length_append]
  refine S.renc.call ?_
  simp [ref13_Encode]
  simp [ref13_Encode_r0]
  have loop : ∀ (tm : T AV) h2 nx2 d, T.get (K 0) tm = some c → T.get (K 3) tm = some d → T.get (K 4) tm = some (I 0) → App d (rowsA eY (vu (zz l.length))) (vu (zz l.length)).length 1 h2 nx2 nx → Ext h nx h2 nx2 →
      W C (.loop ref13_Encode_l0) (blockPost 0 (seqPost (wpC C ((PCode.ops ref13_Encode_r7).seq PCode.ret) (BodyP [RV.tmp (K 2)] fun o h' nx' => (∃ c', o = Out.ret c' ∧ IsR 1 eY c' (encL l)) ∧ Ext h nx h' nx')) (BodyP [RV.tmp (K 2)] fun o h' nx' => (∃ c', o = Out.ret c' ∧ IsR 1 eY c' (encL l)) ∧ Ext h nx h' nx'))) tm h2 nx2 := by
    intro tm h2 nx2 d f0 f3 f4 hA e
    refine W.loopM (n := l.length) (REncInv c l h nx) ?_ ?_
    · exact ⟨0, d, by simp, by omega, f0, f3, by simpa using f4, by simpa using hA, e.n, e.g⟩
    · rintro k tm1 h1 nx1 ⟨j, d, rfl, hj, f0, f3, f4, hA, hn1, hf1⟩
      have fin : ∀ tm', T.get (K 3) tm' = some d → j = l.length → wpC C ((PCode.ops ref13_Encode_r7).seq PCode.ret) (BodyP [RV.tmp (K 2)] fun o h' nx' => (∃ c', o = Out.ret c' ∧ IsR 1 eY c' (encL l)) ∧ Ext h nx h' nx') tm' h1 nx1 := by
        intro tm' g3 hje
        subst hje
        rw [List.take_length] at hA
        obtain ⟨r1, r2⟩ := hA.fastR flatY 7
        simp
        simp [ref13_Encode_r7, g3]
        exact ⟨r1, hn1, fun b hb => by rw [r2 b hb]; exact hf1 b hb⟩
      refine W.of ?_
      simp [ref13_Encode_l0]
      rcases id hc with ⟨e1, e2⟩ | e1
      · have : j = 0 := by rw [e2] at hj; simpa using hj
        subst this
        subst e2
        simp [ref13_Encode_r3, f0, f4, e1]
        simpa using fin _ (by simp [f3]) (by simp)
      · subst e1
        simp [ref13_Encode_r3, f0, f4]
        refine ⟨fun hjlt => ?_, fun hge => ?_⟩
        · have hjl : j < l.length := by omega
          have hr := flatB.rows l
          have h3 : 3 ≤ (rowsA eB l).length - j * 3 := by omega
          have ec := flatB.at hjl
          have hx := hin _ (List.getElem_mem hjl)
          have htl : ((l.take j).flatMap encB).length + (encB l[j]).length ≤ (l.flatMap encB).length := by
            have e : l = l.take j ++ l[j] :: l.drop (j + 1) := by rw [← List.drop_eq_getElem_cons hjl, List.take_append_drop]
            have e2 : l.flatMap encB = (l.take j).flatMap encB ++ (encB l[j] ++ (l.drop (j + 1)).flatMap encB) := by
              conv => lhs; rw [e]
              rw [List.flatMap_append, List.flatMap_cons]
            rw [e2]; simp only [List.length_append]; omega
          have heb : (encB l[j]).length = (vu l[j].a).length + l[j].a + (vu (zz l[j].n)).length + (vu (zz l[j].m)).length := by unfold encB; simp only [List.length_append, sb_len]
          generalize hxx : l[j] = x at hx heb htl ec
          have hz : ∀ H, frzA 8 (.sl (rowsA eY (sb x.a x.b)) x.a 1 .any) H = (.sl (rowsA eY (sb x.a x.b)) x.a 1 .any, H) := fun H => stb_sl _ _ _ 8 H
          have hf0 : (eB x)[0]? = some (.str x.a x.b) := rfl
          have hf1' : (List.drop 1 (eB x))[0]? = some (I x.n) := rfl
          have hf2' : (List.drop 2 (eB x))[0]? = some (I x.m) := rfl
          simp [ref13_Encode_r4, f0, f3, f4, hjl, h3, ec, hf0, bytes_sb, q2, hz]
          have hraw := rRaw_ok S.rraw S.ruint q3 (l := sb x.a x.b) (by rw [sb_len]; omega) h1 nx1
          rw [sb_len] at hraw
          refine hraw.mono ?_
          rintro o h4 nx4 ⟨⟨c4, rfl, A4⟩, e4⟩
          simp only [KO_ret, putTm_some]
          refine wp_app (n0 := nx) (c := d) (x := c4) (by simp) (by simp) (hA.ext e4) (App.low A4 hn1) (by have := e4.n; omega) (by simp only [List.length_append, sb_len]; omega) ?_
          intro c5 h5 nx5 A5 n5 g5
          simp
          have hb1 : AV.beq (I x.m) (I x.m) = true := beq_refl _ rfl
          have hg1 : (eB x)[1] = I x.n := rfl
          have hg2 : (eB x)[2] = I x.m := rfl
          have m4 := e4.n
          simp [ref13_Encode_r5, f0, f4, hjl, h3, ec, hg1, hg2, q1]
          refine (rint2 S hx.n.1 hx.n.2 h5 nx5).mono ?_
          rintro o h6 nx6 ⟨⟨c6, rfl, A6⟩, e6⟩
          simp only [KS_ret, putTm_some]
          rw [wpS_R]
          refine ⟨by simp; exact beq_refl _ rfl, ?_⟩
          refine wp_appS (n0 := nx) (c := c5) (x := c6) (by simp) (by simp) (A5.ext e6) (App.low A6 (by omega)) (by have := e6.n; have := e4.n; omega) (by simp only [List.length_append, sb_len]; omega) ?_
          intro c7 h7 nx7 A7 n7 g7
          rw [wpS_R]
          refine ⟨by simp; exact beq_refl _ rfl, ?_⟩
          simp [q1, hg1, hg2]
          refine (rint2 S hx.m.1 hx.m.2 h7 nx7).mono ?_
          rintro o h8 nx8 ⟨⟨c8, rfl, A8⟩, e8⟩
          simp only [KS_ret, putTm_some]
          rw [wpS_R]
          refine ⟨by simp, ?_⟩
          have m6 := e6.n
          have m8 := e8.n
          refine wp_appS (n0 := nx) (c := c7) (x := c8) (by simp) (by simp) (A7.ext e8) (App.low A8 (by omega)) (by omega) (by simp only [List.length_append, sb_len]; omega) ?_
          intro c9 h9 nx9 A9 n9 g9
          rw [wpS_R]
          refine ⟨by simp, ?_⟩
          simp
          simp [ref13_Encode_r6, f4]
          refine ⟨l.length - (j + 1), by omega, ?_⟩
          unfold REncInv
          refine ⟨j + 1, c9, rfl, by omega, ?_, ?_, ?_, ?_, by omega, fun b hb => ?_⟩
          · simp [f0]
          · simp
          · simp; rw [wrap_id (by omega) (by omega)]
          · rw [List.take_succ_eq_append_getElem hjl, List.flatMap_append, hxx]
            have e : vu (zz l.length) ++ (l.take j).flatMap encB ++ (vu x.a ++ sb x.a x.b) ++ vu (zz x.n) ++ vu (zz x.m) = vu (zz l.length) ++ ((l.take j).flatMap encB ++ [x].flatMap encB) := by
              simp [encB, List.append_assoc]
            rw [← e]; exact A9
          · rw [g9 b hb, e8.g b (by omega), g7 b hb, e6.g b (by omega), g5 b hb, e4.g b (by omega)]; exact hf1 b hb
        · have hjl : j = l.length := by omega
          simpa using fin _ (by simp [f3]) hjl
  rcases id hc with ⟨e1, e2⟩ | e1
  · subst e2
    simp [ref13_Encode_r1, e1, q1]
    refine (by simpa using rint2 S (n := 0) (by omega) (by omega) h nx : CallA C n_ref02_Int [I 0] h nx (GiveY (vu (zz 0)) h nx)).mono ?_
    rintro o h2 nx2 ⟨⟨d, rfl, hA⟩, e2⟩
    simp
    simp [ref13_Encode_r2]
    refine loop _ h2 nx2 d ?_ ?_ ?_ hA e2
    · simp [e1]
    · simp
    · simp
  · simp [ref13_Encode_r1, e1, q1]
    refine (rint2 S (n := l.length) (by omega) (by omega) h nx).mono ?_
    rintro o h2 nx2 ⟨⟨d, rfl, hA⟩, e2⟩
    simp
    simp [ref13_Encode_r2]
    refine loop _ h2 nx2 d ?_ ?_ ?_ hA e2
    · simp [e1]
    · simp
    · simp
end Tb
/-
  SB: rows of bytes, read. No condition.
-/
namespace Tb
open Go.Sx Go
/- a row of bytes that may be read in memory h -/
def Rd (c : AV) (bs : List Nat) (h : T Blk) (nx : Key) : Prop := (c = .nils ∧ bs = []) ∨ (∃ fl, c = .sl (rowsA eY bs) bs.length 1 fl) ∨ ∃ (b : Key) (k : CK), c = .slice b 0 bs.length 1 ∧ T.get b h = some (.cells (rowsA eY bs) k) ∧ b.toNat < nx.toNat
theorem Rd.of {c : AV} {bs : List Nat} {h : T Blk} {nx : Key} (hc : IsR 1 eY c bs) : Rd c bs h nx := by
  rcases hc with h1 | h1
  · exact .inl h1
  · exact .inr (.inl ⟨_, h1⟩)
theorem Rd.ext {c : AV} {bs : List Nat} {h h' : T Blk} {nx nx' : Key} (hc : Rd c bs h nx) (e : Ext h nx h' nx') : Rd c bs h' nx' := by
  rcases hc with h1 | h1 | ⟨b, k, h1, h2, h3⟩
  · exact .inl h1
  · exact .inr (.inl h1)
  · exact .inr (.inr ⟨b, k, h1, by rw [e.g b h3]; exact h2, by have := e.n; omega⟩)
theorem takeY {l : List Nat} {j : Nat} (hj : j < l.length) : List.take 1 (List.drop j (rowsA eY l)) = [.int .u8 (.lit (l[j] : Int))] := by
  have := flatY.at hj
  rw [Nat.mul_one] at this
  exact this
theorem rowY {l : List Nat} {j : Nat} (hj : j < l.length) : (rowsA eY l)[j]? = some (.int .u8 (.lit (l[j] : Int))) := by
  have h0 : (List.take 1 (List.drop j (rowsA eY l)))[0]? = some (.int .u8 (.lit (l[j] : Int))) := by rw [takeY hj]; rfl
  rw [List.getElem?_take_of_lt (by omega), List.getElem?_drop, Nat.add_zero] at h0
  exact h0
variable {C : Cfg}
def SbInv (c d : AV) (l m : List Nat) (h : T Blk) (nx : Key) (k : Nat) (tm' : T AV) (h' : T Blk) (nx' : Key) : Prop :=
  ∃ j : Nat, k = l.length - j ∧ j ≤ l.length ∧ T.get (K 0) tm' = some c ∧ T.get (K 1) tm' = some d ∧ T.get (K 5) tm' = some (I j) ∧ h' = h ∧ nx' = nx ∧ l.take j = m.take j
theorem sameY_ok (S : Fn C n_ref01_SameBytes ref01_SameBytes) {c d : AV} {l m : List Nat} {h : T Blk} {nx : Key} (hc : IsR 1 eY c l) (hd : Rd d m h nx) (hl : l.length ≤ 1000000) :
    CallA C n_ref01_SameBytes [c, d] h nx (fun o h' nx' => o = .ret (.bool (decide (l = m))) ∧ Ext h nx h' nx') := by
  refine S.call ?_
  simp [ref01_SameBytes]
  simp [ref01_SameBytes_r0]
  by_cases hlen : l.length = m.length
  · have hlen' : (l.length : Int) = m.length := by omega
    have go : ∀ tm, T.get (K 0) tm = some c → T.get (K 1) tm = some d → T.get (K 5) tm = some (I 0) → W C (.loop ref01_SameBytes_l0) (blockPost 0 (seqPost (wpC C ((PCode.ops ref01_SameBytes_r8).seq PCode.ret) (BodyP [RV.tmp (K 4)] fun o h' nx' => o = Out.ret (AV.bool (decide (l = m))) ∧ Ext h nx h' nx')) (BodyP [RV.tmp (K 4)] fun o h' nx' => o = Out.ret (AV.bool (decide (l = m))) ∧ Ext h nx h' nx'))) tm h nx := by
      intro tm f0 f1 f5
      refine W.loopM (n := l.length) (SbInv c d l m h nx) ?_ ?_
      · exact ⟨0, by simp, by omega, f0, f1, by simpa using f5, rfl, rfl, by simp⟩
      · rintro k tm1 h1 nx1 ⟨j, rfl, hj, f0, f1, f5, rfl, rfl, hn⟩
        refine W.of ?_
        simp [ref01_SameBytes_l0]
        rcases hc with ⟨rfl, rfl⟩ | rfl
        · have hm : m = [] := List.eq_nil_of_length_eq_zero (by simpa using hlen.symm)
          subst hm
          simp at hj
          subst hj
          simp [ref01_SameBytes_r4, f0, f5]
          simp [ref01_SameBytes_r8]
          exact Ext.refl _ _
        · simp [ref01_SameBytes_r4, f0, f5]
          refine ⟨fun hlt => ?_, fun hge => ?_⟩
          · have hjl : j < l.length := by omega
            have hjm : j < m.length := by omega
            have hr := flatY.rows l
            have hr2 := flatY.rows m
            have h3 : 1 ≤ (rowsA eY l).length - j := by omega
            have h4 : 1 ≤ (rowsA eY m).length - j := by omega
            have ec := takeY hjl
            have ed := takeY hjm
            have er := rowY hjm
            have nxt : ∀ tm2, T.get (K 0) tm2 = some (.sl (rowsA eY l) l.length 1 .any) → T.get (K 1) tm2 = some d → T.get (K 5) tm2 = some (.int .i64 (.lit (wrapF .i64 ((j : Int) + 1)))) → l[j] = m[j] → ∃ k, k < l.length - j ∧ SbInv (.sl (rowsA eY l) l.length 1 .any) d l m h1 nx1 k tm2 h1 nx1 := by
              intro tm2 g0 g1 g5 he
              rw [wrap_id (by omega) (by omega)] at g5
              exact ⟨l.length - (j + 1), by omega, j + 1, rfl, by omega, g0, g1, by simpa using g5, rfl, rfl, by rw [List.take_succ_eq_append_getElem hjl, List.take_succ_eq_append_getElem hjm, hn, he]⟩
            have bad : ¬ (l[j] : Int) = m[j] → l ≠ m := fun h e => h (by subst e; rfl)
            have good : (l[j] : Int) = m[j] → l[j] = m[j] := fun h => by omega
            rcases hd with ⟨rfl, rfl⟩ | ⟨fl, rfl⟩ | ⟨b, kk, rfl, hb, hbn⟩
            · simp at hjm
            · by_cases he : (l[j] : Int) = m[j]
              · have he2 := good he
                simp [ref01_SameBytes_r5, f0, f1, f5, hjl, hjm, h3, h4, ec, ed, he]
                simp [ref01_SameBytes_r7, f5]
                exact nxt _ (by simp [f0]) (by simp [f1]) (by simp) he2
              · have he2 : ¬ l[j] = m[j] := fun e => he (by rw [e])
                have hne := bad he
                simp [ref01_SameBytes_r5, f0, f1, f5, hjl, hjm, h3, h4, ec, ed, he]
                simp [ref01_SameBytes_r6, hne]
                exact Ext.refl _ _
            · by_cases he : (l[j] : Int) = m[j]
              · have he2 := good he
                simp [ref01_SameBytes_r5, f0, f1, f5, hjl, hjm, h3, ec, hb, er, he]
                simp [ref01_SameBytes_r7, f5]
                exact nxt _ (by simp [f0]) (by simp [f1]) (by simp) he2
              · have he2 : ¬ l[j] = m[j] := fun e => he (by rw [e])
                have hne := bad he
                simp [ref01_SameBytes_r5, f0, f1, f5, hjl, hjm, h3, ec, hb, er, he]
                simp [ref01_SameBytes_r6, hne]
                exact Ext.refl _ _
          · have hjl : j = l.length := by omega
            subst hjl
            simp [ref01_SameBytes_r8]
            rw [List.take_length, hlen, List.take_length] at hn
            exact ⟨hn, Ext.refl _ _⟩
    rcases id hc with ⟨e1, e2⟩ | e1
    · have hm : m = [] := List.eq_nil_of_length_eq_zero (by rw [← hlen, e2]; rfl)
      subst hm
      rcases id hd with ⟨e3, _⟩ | ⟨fl, e3⟩ | ⟨b, kk, e3, _, _⟩
      all_goals
        simp [ref01_SameBytes_r1, e1, e3]
        simp [ref01_SameBytes_r3]
        refine go _ ?_ ?_ ?_
        · simp [e1]
        · simp [e3]
        · simp
    · rcases id hd with ⟨e3, e4⟩ | ⟨fl, e3⟩ | ⟨b, kk, e3, _, _⟩
      · have hl0 : l = [] := List.eq_nil_of_length_eq_zero (by rw [hlen, e4]; rfl)
        subst hl0
        subst e4
        simp [ref01_SameBytes_r1, e1, e3]
        simp [ref01_SameBytes_r3]
        refine go _ ?_ ?_ ?_
        · simp [e1]
        · simp [e3]
        · simp
      · simp [ref01_SameBytes_r1, e1, e3, hlen']
        simp [ref01_SameBytes_r3]
        refine go _ ?_ ?_ ?_
        · simp [e1]
        · simp [e3]
        · simp
      · simp [ref01_SameBytes_r1, e1, e3, hlen']
        simp [ref01_SameBytes_r3]
        refine go _ ?_ ?_ ?_
        · simp [e1]
        · simp [e3]
        · simp
  · have hne : l ≠ m := fun e => hlen (by rw [e])
    have hlen' : ¬ (l.length : Int) = m.length := by omega
    have fin : ∀ tm : T AV, wpO C (seqPost (wpC C PCode.ret (BodyP [RV.tmp (K 4)] fun o h' nx' => o = Out.ret (AV.bool (decide (l = m))) ∧ Ext h nx h' nx')) (BodyP [RV.tmp (K 4)] fun o h' nx' => o = Out.ret (AV.bool (decide (l = m))) ∧ Ext h nx h' nx')) ref01_SameBytes_r2 tm h nx := by
      intro tm
      simp [ref01_SameBytes_r2, hne]
      exact Ext.refl _ _
    rcases id hc with ⟨e1, e2⟩ | e1
    · have hm0 : ¬ (0 : Int) = m.length := by rw [e2] at hlen'; simpa using hlen'
      have hm1 : ¬ m = [] := fun e => by rw [e] at hm0; simp at hm0
      rcases id hd with ⟨e3, e4⟩ | ⟨fl, e3⟩ | ⟨b, kk, e3, _, _⟩
      · exact absurd e4 hm1
      all_goals
        simp [ref01_SameBytes_r1, e1, e3, hm0]
        simp [ref01_SameBytes_r2, hne]
        exact Ext.refl _ _
    · rcases id hd with ⟨e3, e4⟩ | ⟨fl, e3⟩ | ⟨b, kk, e3, _, _⟩
      · have hl1 : ¬ l = [] := fun e => hne (by rw [e, e4])
        simp [ref01_SameBytes_r1, e1, e3, hl1]
        simp [ref01_SameBytes_r2, hne]
        exact Ext.refl _ _
      all_goals
        simp [ref01_SameBytes_r1, e1, e3, hlen']
        simp [ref01_SameBytes_r2, hne]
        exact Ext.refl _ _
end Tb
/-
  SB: copies of rows of bytes. No condition.
-/
namespace Tb
open Go.Sx Go
def FewR (c : AV) (bs : List Nat) (h : T Blk) (nx n0 : Key) : Prop := (c = .nils ∧ bs = []) ∨ ∃ q : Key, c = .slice q 0 bs.length 1 ∧ T.get q h = some (.cells (rowsA eY bs) .part) ∧ n0.toNat ≤ q.toNat ∧ q.toNat < nx.toNat
variable {C : Cfg}
theorem few_ok (S : FnR C n_ref01_Few ref01_Few) {c : AV} {l : List Nat} (hc : IsR 1 eY c l) (p : Nat) (hl : p ≤ 1000000) (h : T Blk) (nx : Key) :
    CallA C n_ref01_Few [c, I p] h nx (fun o h' nx' => (∃ c', o = .ret c' ∧ FewR c' (l.take p) h' nx' nx) ∧ Ext h nx h' nx') := by
  have s1 := Key.toNat_succ nx
  refine S.call ?_
  simp [ref01_Few]
  simp [ref01_Few_r0]
  simp [ref01_Few_r1]
  rcases hc with ⟨rfl, rfl⟩ | rfl
  · have h0 : ¬ (p : Int) < 0 := by omega
    simp [ref01_Few_r2, h0]
    exact ⟨.inl ⟨rfl, rfl⟩, Ext.refl _ _⟩
  · have hr := flatY.rows l
    by_cases hlt : (p : Int) < l.length
    · have hlt' : p < l.length := by omega
      have hle : p ≤ l.length := by omega
      have hle2 : p ≤ (rowsA eY l).length := by omega
      have htk : List.take p (rowsA eY l) = rowsA eY (l.take p) := by have := flatY.take l p; rwa [Nat.mul_one] at this
      have hln : (l.take p).length = p := by rw [List.length_take]; omega
      by_cases hp : p = 0
      · subst hp
        simp [ref01_Few_r2, hlt']
        exact ⟨.inl ⟨rfl, rfl⟩, Ext.refl _ _⟩
      · have hbig : p ≤ 1048576 := by omega
        simp [ref01_Few_r2, hlt, hle, hle2, htk, hp, hbig]
        exact ⟨.inr ⟨nx, by rw [hln], by rw [T.get_set_same], Nat.le_refl _, by omega⟩, E0 h nx _⟩
    · have htk : List.take l.length (rowsA eY l) = rowsA eY l := List.take_of_length_le (by omega)
      have hle2 : l.length ≤ (rowsA eY l).length := by omega
      have htp : l.take p = l := List.take_of_length_le (by omega)
      by_cases hp : l.length = 0
      · have : l = [] := List.eq_nil_of_length_eq_zero hp
        subst this
        have h0 : ¬ (p : Int) < 0 := by omega
        simp [ref01_Few_r2, h0]
        exact ⟨.inl ⟨rfl, rfl⟩, Ext.refl _ _⟩
      · have hbig : l.length ≤ 1048576 := by omega
        have hne : ¬ l = [] := fun e => hp (by rw [e]; rfl)
        simp [ref01_Few_r2, hlt, hle2, htk, hp, hbig, hne, htp]
        exact ⟨.inr ⟨nx, rfl, by rw [T.get_set_same], Nat.le_refl _, by omega⟩, E0 h nx _⟩
end Tb
/-
  SB: readers. No condition.
-/
namespace Tb
open Go.Sx Go
/- a reader: what is left, and its error -/
def RS (r : Key) (rest : List Nat) (e : Int) (h : T Blk) (nx n0 : Key) : Prop := n0.toNat ≤ r.toNat ∧ r.toNat < nx.toNat ∧ ∃ (b : Key) (off : Nat) (all : List Nat) (k : CK), T.get r h = some (.cells [.slice b off rest.length 1, I e] .fix) ∧ T.get b h = some (.cells (rowsA eY all) k) ∧ k ≠ .ro ∧ all.drop off = rest ∧ off ≤ all.length ∧ n0.toNat ≤ b.toNat ∧ b.toNat < nx.toNat ∧ b ≠ r
/- what may be appended -/
theorem rd_app {orc : Orc} {kk k' : Key} {q : Key} {c : AV} {m : List Nat} {tm : T AV} {h : T Blk} {nx : Key} {r : OR} (hk : T.get kk tm = some (.slice q 0 0 1)) (hk' : T.get k' tm = some c) (hc : Rd c m h nx) (hr : appendTo 1 (.slice q 0 0 1) (rowsA eY m) m.length h nx = r) : aOp orc (.append 1 (.t kk) (.t k')) tm h nx = r := by
  rcases hc with ⟨rfl, rfl⟩ | ⟨fl, rfl⟩ | ⟨b, k, rfl, hb, hbn⟩
  · simp only [rowsA_nil, List.length_nil] at hr
    simp [-appendTo, hk, hk', hr]
  · simp [-appendTo, hk, hk', hr]
  · have hz : ∀ H, frzLA (frzA 8) (rowsA eY m) H = (rowsA eY m, H) := fun H => frzLA_stb (flatY.stbs m)
    have hle : m.length ≤ (rowsA eY m).length := by rw [flatY.rows]; omega
    have htk : List.take m.length (rowsA eY m) = rowsA eY m := List.take_of_length_le (by rw [flatY.rows]; omega)
    simp [-appendTo, hk, hk', hb, hz, hle, htk, hr]
variable {C : Cfg}
theorem read_ok (S : Fn C n_wire_Read wire_Read) {c : AV} {l : List Nat} {h : T Blk} {nx : Key} (hc : Rd c l h nx) (hl : l.length ≤ 1000000) :
    CallA C n_wire_Read [c] h nx (fun o h' nx' => ∃ r : Key, o = .ret (.ptr r 0) ∧ RS r l 0 h' nx' nx ∧ Ext h nx h' nx') := by
  have s1 := Key.toNat_succ nx
  have s2 := Key.toNat_succ nx.succ
  have s3 := Key.toNat_succ nx.succ.succ
  refine S.call ?_
  simp [wire_Read]
  simp [wire_Read_r0]
  have fin0 : ∀ H : T Blk, T.get nx H = some (.cells [] .fix) → (∀ b : Key, b.toNat < nx.toNat → T.get b H = T.get b h) → RS nx.succ [] 0 (T.set nx.succ (some (.cells [.slice nx 0 0 1, I 0] .fix)) H) nx.succ.succ nx ∧ Ext h nx (T.set nx.succ (some (.cells [.slice nx 0 0 1, I 0] .fix)) H) nx.succ.succ := by
    intro H h1 h2
    refine ⟨⟨by omega, by omega, nx, 0, [], .fix, by rw [T.get_set_same]; rfl, by rw [get_lt (by omega)]; exact h1, by simp, rfl, Nat.le_refl _, Nat.le_refl _, by omega, ne_nat (by omega)⟩, by omega, fun b hb => by rw [get_lt (by omega)]; exact h2 b hb⟩
  have fin1 : ∀ H : T Blk, (∀ b : Key, b.toNat < nx.toNat → T.get b H = T.get b h) → RS nx.succ.succ l 0 (T.set nx.succ.succ (some (.cells [.slice nx.succ 0 l.length 1, I 0] .fix)) (T.set nx.succ (some (.cells (rowsA eY l) .part)) H)) nx.succ.succ.succ nx ∧ Ext h nx (T.set nx.succ.succ (some (.cells [.slice nx.succ 0 l.length 1, I 0] .fix)) (T.set nx.succ (some (.cells (rowsA eY l) .part)) H)) nx.succ.succ.succ := by
    intro H h2
    refine ⟨⟨by omega, by omega, nx.succ, 0, l, .part, by rw [T.get_set_same], by rw [get_lt (by omega), T.get_set_same], by simp, rfl, Nat.zero_le _, by omega, by omega, ne_nat (by omega)⟩, by omega, fun b hb => by rw [get_lt (by omega), get_lt (by omega)]; exact h2 b hb⟩
  have hr := flatY.rows l
  have hall := flatY.allc l
  by_cases hm : l = []
  · subst hm
    rcases hc with ⟨rfl, _⟩ | ⟨fl, rfl⟩ | ⟨b, k, rfl, hb, hbn⟩
    · simp [wire_Read_r1]
      exact fin0 _ (by rw [T.get_set_same]) (fun b hb => by rw [get_lt hb])
    · simp [wire_Read_r1]
      exact fin0 _ (by rw [T.get_set_same]) (fun b hb => by rw [get_lt hb])
    · have hb2 : T.get b (T.set nx (some (.cells [] .fix)) h) = some (.cells [] k) := by rw [get_lt hbn]; exact hb
      simp [wire_Read_r1, hb2]
      exact fin0 _ (by rw [T.get_set_same]) (fun b hb => by rw [get_lt hb])
  · have hm0 : ¬ l.length = 0 := fun e => hm (List.eq_nil_of_length_eq_zero e)
    have hbig : l.length ≤ 1048576 := by omega
    rcases hc with ⟨_, e⟩ | ⟨fl, rfl⟩ | ⟨b, k, rfl, hb, hbn⟩
    · exact absurd e hm
    · simp [wire_Read_r1, hall, hm0, hm, hbig]
      exact fin1 _ (fun b hb => by rw [get_lt hb])
    · have hb2 : T.get b (T.set nx (some (.cells [] .fix)) h) = some (.cells (rowsA eY l) k) := by rw [get_lt hbn]; exact hb
      have hz : ∀ H, frzLA (frzA 8) (rowsA eY l) H = (rowsA eY l, H) := fun H => frzLA_stb (flatY.stbs l)
      have hle : l.length ≤ (rowsA eY l).length := by omega
      have htk : List.take l.length (rowsA eY l) = rowsA eY l := List.take_of_length_le (by omega)
      simp [wire_Read_r1, hb2, hz, hle, htk, hall, hm0, hm, hbig]
      exact fin1 _ (fun b hb => by rw [get_lt hb])
end Tb
/-
  SB: readers: the error, the end. No condition.
-/
namespace Tb
open Go.Sx Go
/- what a reader's call leaves: other blocks as they were -/
def Kr (r : Key) (h : T Blk) (nx n0 : Key) (h' : T Blk) (nx' : Key) : Prop := nx.toNat ≤ nx'.toNat ∧ ∀ b : Key, b.toNat < nx.toNat → b ≠ r → T.get b h' = T.get b h
variable {C : Cfg}
theorem fail_ok (S : Fn C n_wire_Reader_fail wire_Reader_fail) {r : Key} {rest : List Nat} {e : Int} {h : T Blk} {nx n0 : Key} (R : RS r rest e h nx n0) (x : Int) :
    CallA C n_wire_Reader_fail [.ptr r 0, I x] h nx (fun o h' nx' => o = .ret (.tuple []) ∧ RS r rest (if e = 0 then x else e) h' nx' n0 ∧ Kr r h nx n0 h' nx') := by
  obtain ⟨r1, r2, b, off, all, k, a1, a2, a3, a4, a5, a6, a7, a8⟩ := R
  refine S.call ?_
  simp [wire_Reader_fail]
  simp [wire_Reader_fail_r0, a1]
  refine ⟨fun he => ?_, fun he => ?_⟩
  · simp [wire_Reader_fail_r1, a1]
    refine ⟨rfl, ⟨r1, r2, b, off, all, k, by rw [T.get_set_same, if_pos he], by rw [T.get_set_ne _ _ _ _ a8]; exact a2, a3, a4, a5, a6, a7, a8⟩, Nat.le_refl _, fun q _ hq => T.get_set_ne _ _ _ _ hq⟩
  · refine ⟨rfl, ⟨r1, r2, b, off, all, k, by rw [if_neg he]; exact a1, a2, a3, a4, a5, a6, a7, a8⟩, Nat.le_refl _, fun _ _ _ => rfl⟩
theorem end_ok (S : Fn C n_wire_Reader_End wire_Reader_End) {r : Key} {rest : List Nat} {e : Int} {h : T Blk} {nx n0 : Key} (R : RS r rest e h nx n0) :
    CallA C n_wire_Reader_End [.ptr r 0] h nx (fun o h' nx' => o = .ret (I (if e = 0 then if rest = [] then 0 else 2 else e)) ∧ h' = h ∧ nx' = nx) := by
  obtain ⟨r1, r2, b, off, all, k, a1, a2, a3, a4, a5, a6, a7, a8⟩ := R
  refine S.call ?_
  simp [wire_Reader_End]
  simp [wire_Reader_End_r0]
  by_cases he : e = 0
  · subst he
    simp [wire_Reader_End_r1, a1]
    by_cases hr : rest = []
    · subst hr
      simp [wire_Reader_End_r3, a1]
      simp [wire_Reader_End_r5]
    · have hp : 0 < rest.length := List.length_pos_iff.2 hr
      simp [wire_Reader_End_r3, a1, hp, hr]
      simp [wire_Reader_End_r4]
  · simp [wire_Reader_End_r1, a1, he]
    simp [wire_Reader_End_r2, a1]
end Tb
