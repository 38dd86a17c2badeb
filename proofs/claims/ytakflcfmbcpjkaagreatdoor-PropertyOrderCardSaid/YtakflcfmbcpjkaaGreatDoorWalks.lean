/- A part of the proof: SxP22, SxP22b, SxP22c, SxP22d, SxP22e, SxP22f. No condition. -/
import Derived.Test.YtakflcfmbcpjkaaGreatDoorFns
import Derived.KernelRfl
set_option linter.unusedSimpArgs false
set_option linter.unusedVariables false
set_option linter.unusedSectionVars false
namespace Tw
open Go.Sx Go

structure Std (C : Cfg) : Prop where
  fns : C.fns = Tw.fns
  orc : C.orc = []
  raw : ∀ f, C.raw f = false
  rawR : ∀ f, C.rawR f = false
  off : ∀ f l h nx, f ≠ 8 → C.sum f l h nx = none
theorem Std.get {C : Cfg} (S : Std C) (f : Nat) : getFn C f = bif Nat.beq (Key.ofNatF 12 f).toNat f then T.get (Key.ofNatF 12 f) Tw.fns else none := by
  unfold getFn; rw [S.fns]

theorem g3 : (bif Nat.beq (Key.ofNatF 12 3).toNat 3 then T.get (Key.ofNatF 12 3) Tw.fns else none) = some f3 := by kernel_rfl
theorem g4 : (bif Nat.beq (Key.ofNatF 12 4).toNat 4 then T.get (Key.ofNatF 12 4) Tw.fns else none) = some f4 := by kernel_rfl
theorem g5 : (bif Nat.beq (Key.ofNatF 12 5).toNat 5 then T.get (Key.ofNatF 12 5) Tw.fns else none) = some f5 := by kernel_rfl
theorem g6 : (bif Nat.beq (Key.ofNatF 12 6).toNat 6 then T.get (Key.ofNatF 12 6) Tw.fns else none) = some f6 := by kernel_rfl
theorem g7 : (bif Nat.beq (Key.ofNatF 12 7).toNat 7 then T.get (Key.ofNatF 12 7) Tw.fns else none) = some f7 := by kernel_rfl
theorem g9 : (bif Nat.beq (Key.ofNatF 12 9).toNat 9 then T.get (Key.ofNatF 12 9) Tw.fns else none) = some f9 := by kernel_rfl
theorem g10 : (bif Nat.beq (Key.ofNatF 12 10).toNat 10 then T.get (Key.ofNatF 12 10) Tw.fns else none) = some f10 := by kernel_rfl
abbrev I (n : Int) : AV := .int .i64 (.lit n)
abbrev O (k a c : Int) : AV := .agg [I k, I a, I c]
def plc (k : Int) : Int := if k = 1 then 0 else if k = 2 then 1 else if k = 0 then 2 else 3

variable {C : Cfg} (S : Std C)
include S


theorem place_ok (k : Int) : Pure C 9 [I k] (I (plc k)) := by
  intro h nx
  refine CallA.of (p := f9) (S.off _ _ _ _ (by decide)) (by rw [S.get]; exact g9) (S.rawR _) ?_
  simp [f9]
  simp [f9r0]
  simp [f9r1]
  unfold plc
  by_cases h1 : k = 1
  · simp [f9r2, f9r3, f9r4, h1]
    exact ⟨by simp, fun b hb => by simp (disch := omega) [get_lt]⟩
  · by_cases h2 : k = 2
    · simp [f9r2, f9r3, f9r4, h2]
      exact ⟨by simp, fun b hb => by simp (disch := omega) [get_lt]⟩
    · by_cases h0 : k = 0
      · simp [f9r2, f9r3, f9r4, h0]
        exact ⟨by simp, fun b hb => by simp (disch := omega) [get_lt]⟩
      · have e1 : (k == 1) = false := by simpa using h1
        have e2 : (k == 2) = false := by simpa using h2
        have e0 : (k == 0) = false := by simpa using h0
        simp [f9r2, f9r3, f9r4, f9r5, e1, e2, e0, h1, h2, h0]
        exact ⟨by simp, fun b hb => by simp (disch := omega) [get_lt]⟩

theorem fails_ok (k a c : Int) : Pure C 4 [O k a c] (.bool (k == 1 || k == 2)) := by
  intro h nx
  refine CallA.of (p := f4) (S.off _ _ _ _ (by decide)) (by rw [S.get]; exact g4) (S.rawR _) ?_
  simp [f4]
  simp [f4r0]
  by_cases h1 : k = 1
  · simp [f4r1, h1]
    exact ⟨by simp, fun b hb => by simp (disch := omega) [get_lt]⟩
  · have e1 : (k == 1) = false := by simpa using h1
    simp [f4r1, e1, h1]
    exact ⟨by simp, fun b hb => by simp (disch := omega) [get_lt]⟩

def wrs (k a c k' a' c' : Int) : Bool := if plc k ≠ plc k' then decide (plc k < plc k') else if a ≠ a' then decide (a < a') else decide (c < c')


theorem rplace_ok (k a c : Int) : Pure C 10 [O k a c] (I (plc k)) := by
  intro h nx
  refine CallA.of (p := f10) (S.off _ _ _ _ (by decide)) (by rw [S.get]; exact g10) (S.rawR _) ?_
  simp [f10]
  simp [f10r0]
  simp [f10r1]
  unfold plc
  by_cases h1 : k = 1
  · simp [f10r2, f10r3, h1]
    exact ⟨by simp, fun b hb => by simp (disch := omega) [get_lt]⟩
  · by_cases h2 : k = 2
    · simp [f10r2, f10r3, f10r4, f10r5, h2]
      exact ⟨by simp, fun b hb => by simp (disch := omega) [get_lt]⟩
    · by_cases h0 : k = 0
      · simp [f10r2, f10r3, f10r4, f10r5, f10r6, f10r7, h0]
        exact ⟨by simp, fun b hb => by simp (disch := omega) [get_lt]⟩
      · simp [f10r2, f10r4, f10r6, f10r8, h1, h2, h0]
        exact ⟨by simp, fun b hb => by simp (disch := omega) [get_lt]⟩

theorem worse_ok (k a c k' a' c' : Int) : Pure C 5 [O k a c, O k' a' c'] (.bool (wrs k a c k' a' c')) := by
  intro h nx
  refine CallA.of (p := f5) (S.off _ _ _ _ (by decide)) (by rw [S.get]; exact g5) (S.rawR _) ?_
  have s1 := Key.toNat_succ nx
  have s2 := Key.toNat_succ nx.succ
  simp [f5]
  simp [f5r0]
  simp (disch := omega) [f5r1, S.raw, get_lt (α := Blk)]
  refine (place_ok S k _ _).mono ?_
  rintro o h1 nx1 ⟨rfl, e1⟩
  simp at e1
  have t1 := e1.n
  have q0 := e1.g nx (by omega)
  have q1 := e1.g nx.succ (by omega)
  simp (disch := omega) [get_lt (α := Blk)] at q0 q1
  simp [S.raw, q0, q1, AV.beq, SI.beq]
  refine (place_ok S k' _ _).mono ?_
  rintro o h2 nx2 ⟨rfl, e2⟩
  have t2 := e2.n
  have r0 := e2.g nx (by omega)
  have r1 := e2.g nx.succ (by omega)
  rw [q0] at r0
  rw [q1] at r1
  have hE : Ext h nx h2 nx2 := ⟨by omega, fun b hb => by
    rw [e2.g b (by omega), e1.g b (by omega)]
    simp (disch := omega) [get_lt (α := Blk)]⟩
  unfold wrs
  simp [f5r2, f5r3, f5r4, f5r5, f5r6, r0, r1]
  refine ⟨fun hp => ⟨by simp [hp], hE⟩, fun hp => ⟨fun hq => ⟨by simp [hp, hq], hE⟩, fun hq => ⟨by simp [hp, hq], hE⟩⟩⟩


theorem beq_I (n : Int) : AV.beq (I n) (I n) = true := by simp [AV.beq, SI.beq]
theorem beq_O (k a c : Int) : AV.beq (O k a c) (O k a c) = true := by simp [AV.beq, AV.beqs, SI.beq]

theorem rworse_ok (k a c k' a' c' : Int) : Pure C 6 [O k a c, O k' a' c'] (.bool (wrs k a c k' a' c')) := by
  intro h nx
  refine CallA.of (p := f6) (S.off _ _ _ _ (by decide)) (by rw [S.get]; exact g6) (S.rawR _) ?_
  have s1 := Key.toNat_succ nx
  have s2 := Key.toNat_succ nx.succ
  simp [f6]
  simp [f6r0]
  simp (disch := omega) [f6r1, S.raw, get_lt (α := Blk)]
  refine (rplace_ok S k a c _ _).mono ?_
  rintro o h1 nx1 ⟨rfl, e1⟩
  try simp at e1
  have t1 := e1.n
  have q0 := e1.g nx (by omega)
  have q1 := e1.g nx.succ (by omega)
  simp (disch := omega) [get_lt (α := Blk)] at q0 q1
  simp [S.raw, q0, q1, AV.beq, AV.beqs, SI.beq]
  refine (rplace_ok S k' a' c' _ _).mono ?_
  rintro o h2 nx2 ⟨rfl, e2⟩
  try simp at e2
  have t2 := e2.n
  have r0 := e2.g nx (by omega)
  have r1 := e2.g nx.succ (by omega)
  rw [q0] at r0
  rw [q1] at r1
  have hE : Ext h nx h2 nx2 := ⟨by omega, fun b hb => by
    rw [e2.g b (by omega), e1.g b (by omega)]
    simp (disch := omega) [get_lt (α := Blk)]⟩
  unfold wrs
  simp [f6r3, f6r4, f6r5, r0, r1]
  refine ⟨fun hp => ?_, fun hp => ⟨fun hq => ⟨by simp [hp, hq], hE⟩, fun hq => ⟨by simp [hp, hq], hE⟩⟩⟩
  simp (disch := omega) [f6r2, S.raw, get_lt (α := Blk), r0, r1]
  refine (rplace_ok S k a c _ _).mono ?_
  rintro o h3 nx3 ⟨rfl, e3⟩
  try simp at e3
  have t3 := e3.n
  have u0 := e3.g nx (by omega)
  have u1 := e3.g nx.succ (by omega)
  rw [r0] at u0
  rw [r1] at u1
  simp [S.raw, u0, u1, AV.beq, AV.beqs, SI.beq]
  refine (rplace_ok S k' a' c' _ _).mono ?_
  rintro o h4 nx4 ⟨rfl, e4⟩
  try simp at e4
  have t4 := e4.n
  simp [hp]
  exact (hE.trans e3).trans e4

theorem same_ok (k a c k' a' c' : Int) : Pure C 7 [O k a c, O k' a' c'] (.bool ((k == 1 || k == 2) && (k == k' && (a == a' && c == c')))) := by
  intro h nx
  refine CallA.of (p := f7) (S.off _ _ _ _ (by decide)) (by rw [S.get]; exact g7) (S.rawR _) ?_
  have s1 := Key.toNat_succ nx
  have s2 := Key.toNat_succ nx.succ
  simp [f7]
  simp [f7r0]
  simp (disch := omega) [f7r1, S.raw, get_lt (α := Blk)]
  refine (fails_ok S k a c _ _).mono ?_
  rintro o h1 nx1 ⟨rfl, e1⟩
  try simp at e1
  have t1 := e1.n
  have q0 := e1.g nx (by omega)
  have q1 := e1.g nx.succ (by omega)
  simp (disch := omega) [get_lt (α := Blk)] at q0 q1
  have hE : Ext h nx h1 nx1 := ⟨by omega, fun b hb => by
    rw [e1.g b (by omega)]
    simp (disch := omega) [get_lt (α := Blk)]⟩
  cases hb : (k == 1 || k == 2) with
  | false => simp [S.raw, q0, q1]; exact hE
  | true =>
    simp [S.raw, q0, q1]
    cases h1 : k == k' <;> cases h2 : a == a' <;> cases h3 : c == c' <;> simp [h1, h2, h3] <;> exact hE
end Tw
namespace Tw
open Go.Sx Go

abbrev Oc := Int × Int × Int
abbrev Ob (o : Oc) : AV := O o.1 o.2.1 o.2.2
def wr (a b : Oc) : Bool := wrs a.1 a.2.1 a.2.2 b.1 b.2.1 b.2.2
theorem wr_trans {a b c : Oc} (h1 : wr a b = true) (h2 : wr b c = true) : wr a c = true := by
  unfold wr wrs at *
  generalize plc a.1 = pa at *
  generalize plc b.1 = pb at *
  generalize plc c.1 = pc at *
  by_cases e1 : pa = pb
  · by_cases e2 : pb = pc
    · subst e1 e2
      simp only [ne_eq, not_true_eq_false, if_false] at *
      by_cases f1 : a.2.1 = b.2.1
      · by_cases f2 : b.2.1 = c.2.1
        · simp [f1, f2] at *; omega
        · simp [f1, f2] at *; omega
      · by_cases f2 : b.2.1 = c.2.1
        · simp [← f2, f1] at *; omega
        · simp [f1, f2] at *
          have : a.2.1 ≠ c.2.1 := by omega
          simp [this]; omega
    · subst e1
      simp [e2] at *; omega
  · by_cases e2 : pb = pc
    · subst e2
      simp [e1] at *; omega
    · simp [e1, e2] at *
      have : pa ≠ pc := by omega
      simp [this]; omega
theorem wr_irr (a : Oc) : wr a a = false := by simp [wr, wrs]
theorem plc_inj {k k' : Int} (h1 : 0 ≤ k) (h2 : k < 3) (h3 : 0 ≤ k') (h4 : k' < 3) (h : plc k = plc k') : k = k' := by
  unfold plc at h
  have e : k = 0 ∨ k = 1 ∨ k = 2 := by omega
  have e' : k' = 0 ∨ k' = 1 ∨ k' = 2 := by omega
  rcases e with rfl | rfl | rfl <;> rcases e' with rfl | rfl | rfl <;> simp at h ⊢
theorem wr_tot {a b : Oc} (h1 : 0 ≤ a.1) (h2 : a.1 < 3) (h3 : 0 ≤ b.1) (h4 : b.1 < 3) (h : a ≠ b) : wr a b = !(wr b a) := by
  obtain ⟨k, x, c⟩ := a
  obtain ⟨k', x', c'⟩ := b
  simp only at h1 h2 h3 h4
  unfold wr wrs
  simp only
  by_cases hp : plc k = plc k'
  · have := plc_inj h1 h2 h3 h4 hp
    subst this
    by_cases hx : x = x'
    · subst hx
      have hc : c ≠ c' := fun e => h (by rw [e])
      rw [Bool.eq_iff_iff]; simp; omega
    · have hx' : ¬ x' = x := fun e => hx e.symm
      rw [Bool.eq_iff_iff]; simp [hx, hx']; omega
  · have hp' : ¬ plc k' = plc k := fun e => hp e.symm
    rw [Bool.eq_iff_iff]; simp [hp, hp']; omega

structure L6 (cells : List AV) (sel : Nat → Oc) : Prop where
  len : cells.length = 18
  at_ : ∀ i, i < 6 → List.take 3 (List.drop (i * 3) cells) = [I (sel i).1, I (sel i).2.1, I (sel i).2.2]

/- what the slots hold in the loops -/
structure Sl (tm : T AV) (cells : List AV) (fl : SF) (i j : Nat) (fails w : Bool) : Prop where
  l : T.get (K 13) tm = some (.sl cells 6 3 fl)
  i : T.get (K 16) tm = some (I i)
  f : T.get (K 17) tm = some (.bool fails)
  j : T.get (K 18) tm = some (I j)
  w : T.get (K 19) tm = some (.bool w)

variable {C : Cfg} (S : Std C)
include S

theorem loop3 {cells : List AV} {sel : Nat → Oc} (hL : L6 cells sel) (fl : SF) {i j : Nat} (hi : i < 6) (hj : j < 6) (fails : Bool) {Q : Post} (hQ : ∀ tm h nx, Sl tm cells fl i j fails (wr (sel i) (sel j)) → Q (.exit 6) tm h nx)
    {tm : T AV} {h : T Blk} {nx : Key} (hs : Sl tm cells fl i j fails (wr (sel i) (sel j))) (h21 : T.get (K 21) tm = some (I (0 : Nat))) : W C (.loop f3l3) Q tm h nx := by
  refine W.loopM (fun m tm h nx => ∃ n : Nat, n ≤ 6 ∧ m = 6 - n ∧ T.get (K 21) tm = some (I n) ∧ Sl tm cells fl i j fails (wr (sel i) (sel j))) (n := 6) ⟨0, by omega, rfl, h21, hs⟩ ?_
  rintro m tm h nx ⟨n, hn, rfl, hn21, hs⟩
  refine W.of ?_
  have li := hs.l
  have ii := hs.i
  have fi := hs.f
  have ji := hs.j
  have wi := hs.w
  simp [f3l3, f3r21, hn21]
  refine ⟨fun hlt => ?_, fun hge => ?_⟩
  · have hn6 : n < 6 := by omega
    have n3 : 3 ≤ 18 - n * 3 := by omega
    have j3 : 3 ≤ 18 - j * 3 := by omega
    have i3 : 3 ≤ 18 - i * 3 := by omega
    have an := hL.at_ n hn6
    have aj := hL.at_ j hj
    have ai := hL.at_ i hi
    have next : ∀ tm h nx, Sl tm cells fl i j fails (wr (sel i) (sel j)) → T.get (K 21) tm = some (I n) → wpO C (seqPost (fun tm h nx => ∃ m, m < 6 - n ∧ ∃ n : Nat, n ≤ 6 ∧ m = 6 - n ∧ T.get (K 21) tm = some (I n) ∧ Sl tm cells fl i j fails (wr (sel i) (sel j))) Q) f3r24 tm h nx := by
      intro tm h nx hs hn21
      simp [f3r24, hn21]
      refine ⟨_, ?_, n + 1, by omega, rfl, ?_, ?_⟩
      · omega
      · rw [wrap_id (by omega) (by omega)]; rfl
      · exact ⟨by simp [hs.l], by simp [hs.i], by simp [hs.f], by simp [hs.j], by simp [hs.w]⟩
    cases hw : wr (sel i) (sel j) with
    | false =>
      rw [hw] at wi next hs
      simp [f3r22, wi, li, ii, ji, fi, hn21]
      exact next _ _ _ ⟨by simp [li], by simp [ii], by simp [fi], by simp [ji], by simp [wi]⟩ (by simp [hn21])
    | true =>
      rw [hw] at wi next hs
      simp [f3r22, wi, li, ii, ji, fi, hn21, hn6, hj, hi, hL.len, n3, j3, i3, an, aj, ai, S.raw]
      refine (worse_ok S _ _ _ _ _ _ _ _).mono ?_
      rintro o h1 nx1 ⟨rfl, e1⟩
      cases hw2 : wr (sel j) (sel n) with
      | false =>
        have hw2' : wrs (sel j).1 (sel j).2.1 (sel j).2.2 (sel n).1 (sel n).2.1 (sel n).2.2 = false := hw2
        simp [wi, li, ii, ji, fi, hn21, hw2']
        exact next _ _ _ ⟨by simp [li], by simp [ii], by simp [fi], by simp [ji], by simp [wi]⟩ (by simp [hn21])
      | true =>
        have hw2' : wrs (sel j).1 (sel j).2.1 (sel j).2.2 (sel n).1 (sel n).2.1 (sel n).2.2 = true := hw2
        simp [wi, li, ii, ji, fi, hn21, hw2', hn6, hj, hi, hL.len, n3, j3, i3, an, aj, ai, S.raw]
        refine (worse_ok S _ _ _ _ _ _ _ _).mono ?_
        rintro o h2 nx2 ⟨rfl, e2⟩
        have hw3 : wrs (sel i).1 (sel i).2.1 (sel i).2.2 (sel n).1 (sel n).2.1 (sel n).2.2 = true := wr_trans hw hw2
        simp [wi, li, ii, ji, fi, hn21, hw3]
        exact next _ _ _ ⟨by simp [li], by simp [ii], by simp [fi], by simp [ji], by simp [wi]⟩ (by simp [hn21])
  · exact hQ _ _ _ ⟨by simp [li], by simp [ii], by simp [fi], by simp [ji], by simp [wi]⟩
end Tw
namespace Tw
open Go.Sx Go

structure Sm (tm : T AV) (cells : List AV) (fl : SF) (i : Nat) (fails : Bool) : Prop where
  l : T.get (K 13) tm = some (.sl cells 6 3 fl)
  i : T.get (K 16) tm = some (I i)
  f : T.get (K 17) tm = some (.bool fails)
def fl1 (o : Oc) : Bool := o.1 == 1 || o.1 == 2
def knw (a b : Oc) : Bool := decide (0 ≤ a.1) && (decide (a.1 < 3) && (decide (0 ≤ b.1) && decide (b.1 < 3)))

variable {C : Cfg} (S : Std C)
include S

theorem seg14 {cells : List AV} {sel : Nat → Oc} (hL : L6 cells sel) (fl : SF) {i j : Nat} (hi : i < 6) (hj : j < 6) {ds : List Key} {Q : Post} (hQ : ∀ tm h nx, Sl tm cells fl i j (fl1 (sel i)) (wr (sel i) (sel j)) → Q .norm tm h nx)
    {tm : T AV} {h : T Blk} {nx : Key} (hs : Sm tm cells fl i (fl1 (sel i))) (hj18 : T.get (K 18) tm = some (I j)) : wpS C Q ⟨ds, []⟩ f3r14 [] tm h nx := by
  have j3 : 3 ≤ 18 - j * 3 := by omega
  have i3 : 3 ≤ 18 - i * 3 := by omega
  have aj := hL.at_ j hj
  have ai := hL.at_ i hi
  have li := hs.l
  have ii := hs.i
  have fi := hs.f
  simp [f3r14, li, ii, fi, hj18, hj, hi, hL.len, j3, i3, aj, ai, S.raw]
  refine (worse_ok S _ _ _ _ _ _ _ _).mono ?_
  rintro o h1 nx1 ⟨rfl, e1⟩
  simp
  exact hQ _ _ _ ⟨by simp [li], by simp [ii], by simp [fi], by simp [hj18], by simp [wr]⟩

theorem seg15 {cells : List AV} {sel : Nat → Oc} (hL : L6 cells sel) (fl : SF) {i j : Nat} (hi : i < 6) (hj : j < 6) {ds : List Key} {Q : Post} (hQ : ∀ tm h nx, Sl tm cells fl i j (fl1 (sel i)) (wr (sel i) (sel j)) → T.get (K 137) tm = some (.bool false) → Q .norm tm h nx)
    {tm : T AV} {h : T Blk} {nx : Key} (hs : Sl tm cells fl i j (fl1 (sel i)) (wr (sel i) (sel j))) : wpS C Q ⟨ds, []⟩ f3r15 [] tm h nx := by
  have j3 : 3 ≤ 18 - j * 3 := by omega
  have i3 : 3 ≤ 18 - i * 3 := by omega
  have aj := hL.at_ j hj
  have ai := hL.at_ i hi
  have li := hs.l
  have ii := hs.i
  have fi := hs.f
  have ji := hs.j
  have wi := hs.w
  simp [f3r15, li, ii, fi, ji, wi, hj, hi, hL.len, j3, i3, aj, ai, S.raw]
  refine (rworse_ok S _ _ _ _ _ _ _ _).mono ?_
  rintro o h1 nx1 ⟨rfl, e1⟩
  have hw : wrs (sel i).1 (sel i).2.1 (sel i).2.2 (sel j).1 (sel j).2.1 (sel j).2.2 = wr (sel i) (sel j) := rfl
  rw [hw]
  simp [li, ii, fi, ji, wi, hj, hi, hL.len, j3, i3, aj, ai, S.raw]
  refine (same_ok S _ _ _ _ _ _ _ _).mono ?_
  rintro o h2 nx2 ⟨rfl, e2⟩
  cases hf : fl1 (sel i) with
  | false =>
    have hf' : ((sel i).1 == 1 || (sel i).1 == 2) = false := hf
    rw [hf] at fi hQ
    rw [hf']
    simp [li, ii, fi, ji, wi]
    exact hQ _ _ _ ⟨by simp [li], by simp [ii], by simp [fi], by simp [ji], by simp [wi]⟩ (by simp)
  | true =>
    have hf' : ((sel i).1 == 1 || (sel i).1 == 2) = true := hf
    rw [hf] at fi hQ
    rw [hf']
    simp [li, ii, fi, ji, wi, hj, hi, hL.len, j3, i3, aj, ai]
    cases h1 : (sel i).1 == (sel j).1 <;> cases h2 : (sel i).2.1 == (sel j).2.1 <;> cases h3 : (sel i).2.2 == (sel j).2.2 <;> simp
    all_goals exact hQ _ _ _ ⟨by simp [li], by simp [ii], by simp [fi], by simp [ji], by simp [wi]⟩ (by simp)

theorem seg17 {cells : List AV} {sel : Nat → Oc} (hL : L6 cells sel) (fl : SF) {i j : Nat} (hi : i < 6) (hj : j < 6) {Q : Post} (hQ : ∀ tm h nx, Sl tm cells fl i j (fl1 (sel i)) (wr (sel i) (sel j)) → T.get (K 20) tm = some (.bool (knw (sel i) (sel j))) → Q .norm tm h nx)
    {tm : T AV} {h : T Blk} {nx : Key} (hs : Sl tm cells fl i j (fl1 (sel i)) (wr (sel i) (sel j))) : wpO C Q f3r17 tm h nx := by
  have j3 : 3 ≤ 18 - j * 3 := by omega
  have i3 : 3 ≤ 18 - i * 3 := by omega
  have aj := hL.at_ j hj
  have ai := hL.at_ i hi
  have li := hs.l
  have ii := hs.i
  have fi := hs.f
  have ji := hs.j
  have wi := hs.w
  unfold knw at hQ
  have fin : ∀ tm h nx, Sl tm cells fl i j (fl1 (sel i)) (wr (sel i) (sel j)) → ∀ b, T.get (K 20) tm = some (.bool b) → (decide (0 ≤ (sel i).1) && (decide ((sel i).1 < 3) && (decide (0 ≤ (sel j).1) && decide ((sel j).1 < 3)))) = b → Q .norm tm h nx := by
    intro tm h nx h1 b h2 h3
    subst h3
    exact hQ tm h nx h1 h2
  clear hQ
  by_cases c1 : (sel i).1 < 0
  · simp [f3r17, li, ii, fi, ji, wi, hj, hi, hL.len, j3, i3, aj, ai, c1]
    exact fin _ _ _ ⟨by simp [li], by simp [ii], by simp [fi], by simp [ji], by simp [wi]⟩ _ (by simp; rfl) (by simp; omega)
  · by_cases c2 : (sel i).1 < 3
    · by_cases c3 : (sel j).1 < 0
      · simp [f3r17, li, ii, fi, ji, wi, hj, hi, hL.len, j3, i3, aj, ai, c1, c2, c3]
        exact fin _ _ _ ⟨by simp [li], by simp [ii], by simp [fi], by simp [ji], by simp [wi]⟩ _ (by simp; rfl) (by simp; omega)
      · by_cases c4 : (sel j).1 < 3
        · simp [f3r17, li, ii, fi, ji, wi, hj, hi, hL.len, j3, i3, aj, ai, c1, c2, c3, c4]
          exact fin _ _ _ ⟨by simp [li], by simp [ii], by simp [fi], by simp [ji], by simp [wi]⟩ _ (by simp; rfl) (by simp; omega)
        · simp [f3r17, li, ii, fi, ji, wi, hj, hi, hL.len, j3, i3, aj, ai, c1, c2, c3, c4]
          exact fin _ _ _ ⟨by simp [li], by simp [ii], by simp [fi], by simp [ji], by simp [wi]⟩ _ (by simp; rfl) (by simp; omega)
    · simp [f3r17, li, ii, fi, ji, wi, hj, hi, hL.len, j3, i3, aj, ai, c1, c2]
      exact fin _ _ _ ⟨by simp [li], by simp [ii], by simp [fi], by simp [ji], by simp [wi]⟩ _ (by simp; rfl) (by simp; omega)

theorem seg18 {cells : List AV} {sel : Nat → Oc} (hL : L6 cells sel) (fl : SF) {i j : Nat} (hi : i < 6) (hj : j < 6) {ds : List Key} {Q : Post} (hQ : ∀ tm h nx, Sl tm cells fl i j (fl1 (sel i)) (wr (sel i) (sel j)) → T.get (K 192) tm = some (.bool false) → Q .norm tm h nx)
    {tm : T AV} {h : T Blk} {nx : Key} (hs : Sl tm cells fl i j (fl1 (sel i)) (wr (sel i) (sel j))) (h20 : T.get (K 20) tm = some (.bool (knw (sel i) (sel j)))) : wpS C Q ⟨ds, []⟩ f3r18 [] tm h nx := by
  have j3 : 3 ≤ 18 - j * 3 := by omega
  have i3 : 3 ≤ 18 - i * 3 := by omega
  have aj := hL.at_ j hj
  have ai := hL.at_ i hi
  have li := hs.l
  have ii := hs.i
  have fi := hs.f
  have ji := hs.j
  have wi := hs.w
  cases hk : knw (sel i) (sel j) with
  | false =>
    rw [hk] at h20
    simp [f3r18, li, ii, fi, ji, wi, h20]
    exact hQ _ _ _ ⟨by simp [li], by simp [ii], by simp [fi], by simp [ji], by simp [wi]⟩ (by simp)
  | true =>
    rw [hk] at h20
    unfold knw at hk
    simp only [Bool.and_eq_true, decide_eq_true_eq] at hk
    obtain ⟨k1, k2, k3, k4⟩ := hk
    by_cases hab : sel i = sel j
    · have e1 : ((sel i).1 == (sel j).1) = true := by rw [hab]; simp
      have e2 : ((sel i).2.1 == (sel j).2.1) = true := by rw [hab]; simp
      have e3 : ((sel i).2.2 == (sel j).2.2) = true := by rw [hab]; simp
      simp [f3r18, li, ii, fi, ji, wi, h20, hj, hi, hL.len, j3, i3, aj, ai, e1, e2, e3]
      exact hQ _ _ _ ⟨by simp [li], by simp [ii], by simp [fi], by simp [ji], by simp [wi]⟩ (by simp)
    · have hw := wr_tot k1 k2 k3 k4 hab
      have fin : ∀ tm h nx, T.get (K 13) tm = some (.sl cells 6 3 fl) → T.get (K 16) tm = some (I i) → T.get (K 17) tm = some (.bool (fl1 (sel i))) → T.get (K 18) tm = some (I j) → T.get (K 19) tm = some (.bool (wr (sel i) (sel j))) → T.get (K 192) tm = some (.bool (wr (sel i) (sel j) == wr (sel j) (sel i))) → Q .norm tm h nx := by
        intro tm h nx a1 a2 a3 a4 a5 a6
        refine hQ _ _ _ ⟨a1, a2, a3, a4, a5⟩ ?_
        rw [a6, hw]
        cases wr (sel j) (sel i) <;> rfl
      have ne : ¬ ((sel i).1 = (sel j).1 ∧ (sel i).2.1 = (sel j).2.1 ∧ (sel i).2.2 = (sel j).2.2) := by
        rintro ⟨a1, a2, a3⟩
        exact hab (Prod.ext a1 (Prod.ext a2 a3))
      cases h1 : (sel i).1 == (sel j).1 <;> cases h2 : (sel i).2.1 == (sel j).2.1 <;> cases h3 : (sel i).2.2 == (sel j).2.2
      case true.true.true =>
        exact absurd ⟨by simpa using h1, by simpa using h2, by simpa using h3⟩ ne
      all_goals
        simp [f3r18, li, ii, fi, ji, wi, h20, hj, hi, hL.len, j3, i3, aj, ai, h1, h2, h3, S.raw]
        refine (worse_ok S _ _ _ _ _ _ _ _).mono ?_
        rintro o h4 nx4 ⟨rfl, e4⟩
        simp [li, ii, fi, ji, wi]
        exact fin _ _ _ (by simp [li]) (by simp [ii]) (by simp [fi]) (by simp [ji]) (by simp [wi]) (by simp [wr])
end Tw
namespace Tw
open Go.Sx Go

variable {C : Cfg} (S : Std C)
include S

theorem body2 {cells : List AV} {sel : Nat → Oc} (hL : L6 cells sel) (fl : SF) {i j : Nat} (hi : i < 6) (hj : j < 6) {Q : Post} (hQ : ∀ tm h nx, Sm tm cells fl i (fl1 (sel i)) → T.get (K 18) tm = some (I j) → Q .norm tm h nx)
    {d1 d2 d3 : List Key} {tm : T AV} {h : T Blk} {nx : Key} (hs : Sm tm cells fl i (fl1 (sel i))) (hj18 : T.get (K 18) tm = some (I j)) :
    W C (.block 5 (.seq (.staged f3r14 ⟨d1, []⟩) (.seq (.seq (.staged f3r15 ⟨d2, []⟩) (.cond (.t k137) (.seq (.ops f3r16) .ret) .skip)) (.seq (.ops f3r17) (.seq (.seq (.staged f3r18 ⟨d3, []⟩) (.cond (.t k192) (.seq (.ops f3r19) .ret) .skip)) (.seq (.ops f3r20) (.block 6 (.loop f3l3)))))))) Q tm h nx := by
  refine W.blockM ?_
  refine W.seqM (fun tm h nx => Sl tm cells fl i j (fl1 (sel i)) (wr (sel i) (sel j))) (W.of ?_) ?_
  · rw [wpC_staged]
    exact seg14 S hL fl hi hj (fun tm h nx hs => by simpa using hs) hs hj18
  clear hs hj18
  intro tm h nx hs
  refine W.seqM (fun tm h nx => Sl tm cells fl i j (fl1 (sel i)) (wr (sel i) (sel j))) (W.of ?_) ?_
  · rw [wpC_seq, wpC_staged]
    exact seg15 S hL fl hi hj (fun tm h nx hs h137 => by simp [h137]; exact hs) hs
  clear hs
  intro tm h nx hs
  refine W.seqM (fun tm h nx => Sl tm cells fl i j (fl1 (sel i)) (wr (sel i) (sel j)) ∧ T.get (K 20) tm = some (.bool (knw (sel i) (sel j)))) (W.of ?_) ?_
  · rw [wpC_ops]
    exact seg17 S hL fl hi hj (fun tm h nx hs h20 => by simp; exact ⟨hs, h20⟩) hs
  clear hs
  rintro tm h nx ⟨hs, h20⟩
  refine W.seqM (fun tm h nx => Sl tm cells fl i j (fl1 (sel i)) (wr (sel i) (sel j))) (W.of ?_) ?_
  · rw [wpC_seq, wpC_staged]
    exact seg18 S hL fl hi hj (fun tm h nx hs h192 => by simp [h192]; exact hs) hs h20
  clear hs h20
  intro tm h nx hs
  refine W.seqM (fun tm h nx => Sl tm cells fl i j (fl1 (sel i)) (wr (sel i) (sel j)) ∧ T.get (K 21) tm = some (I (0 : Nat))) (W.of ?_) ?_
  · simp [f3r20]
    exact ⟨by simp [hs.l], by simp [hs.i], by simp [hs.f], by simp [hs.j], by simp [hs.w]⟩
  rintro tm h nx ⟨hs, h21⟩
  refine W.blockM (loop3 S hL fl hi hj _ ?_ hs h21)
  intro tm h nx hs
  simp
  exact hQ _ _ _ ⟨hs.l, hs.i, hs.f⟩ hs.j

theorem loop2 {cells : List AV} {sel : Nat → Oc} (hL : L6 cells sel) (fl : SF) {i : Nat} (hi : i < 6) {Q : Post} (hQ : ∀ tm h nx, Sm tm cells fl i (fl1 (sel i)) → Q (.exit 4) tm h nx)
    {tm : T AV} {h : T Blk} {nx : Key} (hs : Sm tm cells fl i (fl1 (sel i))) (h18 : T.get (K 18) tm = some (I (0 : Nat))) : W C (.loop f3l2) Q tm h nx := by
  refine W.loopM (fun m tm h nx => ∃ j : Nat, j ≤ 6 ∧ m = 6 - j ∧ T.get (K 18) tm = some (I j) ∧ Sm tm cells fl i (fl1 (sel i))) (n := 6) ⟨0, by omega, rfl, h18, hs⟩ ?_
  rintro m tm h nx ⟨j, hj, rfl, hj18, hs⟩
  unfold f3l2
  refine W.seqM (fun tm h nx => j < 6 ∧ T.get (K 18) tm = some (I j) ∧ Sm tm cells fl i (fl1 (sel i))) (W.of ?_) ?_
  · simp [f3r13, hj18]
    refine ⟨fun hlt => ⟨by omega, by simp [hs.l], by simp [hs.i], by simp [hs.f]⟩, fun _ => hQ _ _ _ ⟨by simp [hs.l], by simp [hs.i], by simp [hs.f]⟩⟩
  rintro tm h nx ⟨hj, hj18, hs⟩
  refine W.seqM (fun tm h nx => T.get (K 18) tm = some (I j) ∧ Sm tm cells fl i (fl1 (sel i))) (body2 S hL fl hi hj (fun tm h nx hs h18 => by simp; exact ⟨h18, hs⟩) hs hj18) ?_
  rintro tm h nx ⟨hj18, hs⟩
  refine W.of ?_
  simp [f3r25, hj18]
  refine ⟨_, ?_, j + 1, by omega, rfl, ?_, ?_⟩
  · omega
  · rw [wrap_id (by omega) (by omega)]; rfl
  · exact ⟨by simp [hs.l], by simp [hs.i], by simp [hs.f]⟩

theorem seg9 {cells : List AV} {sel : Nat → Oc} (hL : L6 cells sel) (fl : SF) {i : Nat} (hi : i < 6) {Q : Post} (hQ : ∀ tm h nx, Sm tm cells fl i (fl1 (sel i)) → Q .norm tm h nx)
    {tm : T AV} {h : T Blk} {nx : Key} (li : T.get (K 13) tm = some (.sl cells 6 3 fl)) (ii : T.get (K 16) tm = some (I i)) : wpO C Q f3r9 tm h nx := by
  have i3 : 3 ≤ 18 - i * 3 := by omega
  have ai := hL.at_ i hi
  cases h1 : (sel i).1 == 1 with
  | true =>
    simp [f3r9, li, ii, hi, hL.len, i3, ai, h1]
    exact hQ _ _ _ ⟨by simp [li], by simp [ii], by simp [fl1, h1]⟩
  | false =>
    simp [f3r9, li, ii, hi, hL.len, i3, ai, h1]
    exact hQ _ _ _ ⟨by simp [li], by simp [ii], by simp [fl1, h1]⟩

theorem seg10 {cells : List AV} {sel : Nat → Oc} (hL : L6 cells sel) (fl : SF) {i : Nat} (hi : i < 6) {ds : List Key} {Q : Post} (hQ : ∀ tm h nx, Sm tm cells fl i (fl1 (sel i)) → T.get (K 89) tm = some (.bool false) → Q .norm tm h nx)
    {tm : T AV} {h : T Blk} {nx : Key} (hs : Sm tm cells fl i (fl1 (sel i))) : wpS C Q ⟨ds, []⟩ f3r10 [] tm h nx := by
  have i3 : 3 ≤ 18 - i * 3 := by omega
  have ai := hL.at_ i hi
  have li := hs.l
  have ii := hs.i
  have fi := hs.f
  simp [f3r10, li, ii, fi, hi, hL.len, i3, ai, S.raw]
  refine (fails_ok S _ _ _ _ _).mono ?_
  rintro o h1 nx1 ⟨rfl, e1⟩
  have hf : ((sel i).1 == 1 || (sel i).1 == 2) = fl1 (sel i) := rfl
  rw [hf]
  simp [li, ii, fi, hi, hL.len, i3, ai, S.raw]
  refine (worse_ok S _ _ _ _ _ _ _ _).mono ?_
  rintro o h2 nx2 ⟨rfl, e2⟩
  have hw : wrs (sel i).1 (sel i).2.1 (sel i).2.2 (sel i).1 (sel i).2.1 (sel i).2.2 = false := wr_irr (sel i)
  rw [hw]
  simp
  exact hQ _ _ _ ⟨by simp [li], by simp [ii], by simp [fi]⟩ (by simp)

theorem loop1 {cells : List AV} {sel : Nat → Oc} (hL : L6 cells sel) (fl : SF) {Q : Post} (hQ : ∀ tm h nx, Q (.exit 2) tm h nx)
    {tm : T AV} {h : T Blk} {nx : Key} (hl : T.get (K 13) tm = some (.sl cells 6 3 fl)) (h16 : T.get (K 16) tm = some (I (0 : Nat))) : W C (.loop f3l1) Q tm h nx := by
  refine W.loopM (fun m tm h nx => ∃ i : Nat, i ≤ 6 ∧ m = 6 - i ∧ T.get (K 16) tm = some (I i) ∧ T.get (K 13) tm = some (.sl cells 6 3 fl)) (n := 6) ⟨0, by omega, rfl, h16, hl⟩ ?_
  rintro m tm h nx ⟨i, hi, rfl, ii, li⟩
  unfold f3l1
  refine W.seqM (fun tm h nx => i < 6 ∧ T.get (K 16) tm = some (I i) ∧ T.get (K 13) tm = some (.sl cells 6 3 fl)) (W.of ?_) ?_
  · simp [f3r8, ii, li]
    exact ⟨fun hlt => by omega, fun _ => hQ _ _ _⟩
  clear ii li
  rintro tm h nx ⟨hi, ii, li⟩
  refine W.seqM (fun tm h nx => T.get (K 16) tm = some (I i) ∧ T.get (K 13) tm = some (.sl cells 6 3 fl)) (W.blockM ?_) ?_
  · refine W.seqM (fun tm h nx => Sm tm cells fl i (fl1 (sel i))) (W.of ?_) ?_
    · rw [wpC_ops]
      exact seg9 S hL fl hi (fun tm h nx hs => by simpa using hs) li ii
    intro tm h nx hs
    refine W.seqM (fun tm h nx => Sm tm cells fl i (fl1 (sel i))) (W.of ?_) ?_
    · rw [wpC_seq, wpC_staged]
      exact seg10 S hL fl hi (fun tm h nx hs h89 => by simp [h89]; exact hs) hs
    clear hs
    intro tm h nx hs
    refine W.seqM (fun tm h nx => Sm tm cells fl i (fl1 (sel i)) ∧ T.get (K 18) tm = some (I (0 : Nat))) (W.of ?_) ?_
    · simp [f3r12]
      exact ⟨by simp [hs.l], by simp [hs.i], by simp [hs.f]⟩
    rintro tm h nx ⟨hs, h18⟩
    refine W.blockM (loop2 S hL fl hi ?_ hs h18)
    intro tm h nx hs
    simp
    exact ⟨hs.i, hs.l⟩
  rintro tm h nx ⟨ii, li⟩
  refine W.of ?_
  simp [f3r26, ii, li]
  refine ⟨_, ?_, i + 1, by omega, rfl, ?_⟩
  · omega
  · rw [wrap_id (by omega) (by omega)]; rfl
end Tw
namespace Tw
open Go.Sx Go

@[simp] theorem natOf_num (k : IntKind) (n : Nat) : natOf (.int k (.lit (no_index (@OfNat.ofNat Int n instOfNat)))) = some (@OfNat.ofNat Nat n (instOfNatNat n)) := rfl
/- the list in the making -/
structure F0 (a b c x y k : Int) (tm : T AV) (h : T Blk) (nx : Key) (acc : AV) (i : Int) : Prop where
  k3 : T.get (K 3) tm = some (I x)
  k4 : T.get (K 4) tm = some (I y)
  k5 : T.get (K 5) tm = some (I k)
  k15 : T.get (K 15) tm = some (I i)
  k13 : T.get (K 13) tm = some acc
  ex : ∃ kb, T.get (K 14) tm = some (.slice kb 0 6 1) ∧ T.get kb h = some (.cells [I a, I b, I c, I 1, I 2, I 0] .fix) ∧ kb.toNat < nx.toNat

variable {C : Cfg} (S : Std C)
include S

theorem it0 {a b c x y k : Int} {Q : Post} {tm : T AV} {h : T Blk} {nx : Key} (hs : F0 a b c x y k tm h nx .nils 0)
    (hQ : ∀ tm h nx t, F0 a b c x y k tm h nx (.sl [I a, I x, I k] 1 3 (.tok t)) 1 → T.get t h = some .tok → t.toNat < nx.toNat → W C (.loop f3l0) Q tm h nx) : W C (.loop f3l0) Q tm h nx := by
  refine W.unroll (W.of ?_)
  obtain ⟨q3, q4, q5, q15, q13, kb, q14, qb, hkb⟩ := hs
  have s1 := Key.toNat_succ nx
  have s2 := Key.toNat_succ nx.succ
  have s3 := Key.toNat_succ nx.succ.succ
  have s4 := Key.toNat_succ nx.succ.succ.succ
  simp [f3l0, f3r4, q15]
  simp (disch := omega) [f3r5, q3, q4, q5, q15, q13, q14, qb, List.filter_cons, get_lt (α := Blk), get_gt (α := Blk)]
  simp
  simp (disch := omega) [get_lt (α := Blk), get_gt (α := Blk)]
  simp [f3r6, q15]
  refine hQ _ _ _ nx.succ.succ.succ ⟨by simp [q3], by simp [q4], by simp [q5], ?_, by simp, kb, by simp [q14], ?_, by omega⟩ ?_ (by omega)
  · simp [wrap_id]
  · simp (disch := omega) [get_lt (α := Blk), qb]
  · simp

theorem it1 {a b c x y k : Int} {Q : Post} {tm : T AV} {h : T Blk} {nx : Key} {P : List AV} {t0 : Key} (ht : T.get t0 h = some .tok) (htn : t0.toNat < nx.toNat) (hs : F0 a b c x y k tm h nx (.sl P 1 3 (.tok t0)) 1)
    (hQ : ∀ tm h nx t, F0 a b c x y k tm h nx (.sl (P ++ [I b, I y, I k]) 2 3 (.tok t)) 2 → T.get t h = some .tok → t.toNat < nx.toNat → W C (.loop f3l0) Q tm h nx) : W C (.loop f3l0) Q tm h nx := by
  refine W.unroll (W.of ?_)
  obtain ⟨q3, q4, q5, q15, q13, kb, q14, qb, hkb⟩ := hs
  have hne : kb ≠ t0 := fun e => by rw [e, ht] at qb; simp at qb
  have s1 := Key.toNat_succ nx
  have s2 := Key.toNat_succ nx.succ
  have s3 := Key.toNat_succ nx.succ.succ
  have s4 := Key.toNat_succ nx.succ.succ.succ
  simp [f3l0, f3r4, q15]
  simp (disch := omega) [f3r5, q3, q4, q5, q15, q13, q14, qb, ht, List.filter_cons, get_lt (α := Blk), get_gt (α := Blk)]
  simp
  simp (disch := omega) [ht, get_lt (α := Blk), get_gt (α := Blk)]
  simp [f3r6, q15]
  refine hQ _ _ _ nx.succ.succ.succ ⟨by simp [q3], by simp [q4], by simp [q5], ?_, by simp, kb, by simp [q14], ?_, by omega⟩ ?_ (by omega)
  · simp [wrap_id]
  · simp (disch := omega) [get_lt (α := Blk)]
    rw [T.get_set_ne _ _ _ _ hne]
    simp (disch := omega) [get_lt (α := Blk), qb]
  · simp

theorem it2 {a b c x y k : Int} {Q : Post} {tm : T AV} {h : T Blk} {nx : Key} {P : List AV} {t0 : Key} (ht : T.get t0 h = some .tok) (htn : t0.toNat < nx.toNat) (hs : F0 a b c x y k tm h nx (.sl P 2 3 (.tok t0)) 2)
    (hQ : ∀ tm h nx t, F0 a b c x y k tm h nx (.sl (P ++ [I c, I x, I x]) 3 3 (.tok t)) 3 → T.get t h = some .tok → t.toNat < nx.toNat → W C (.loop f3l0) Q tm h nx) : W C (.loop f3l0) Q tm h nx := by
  refine W.unroll (W.of ?_)
  obtain ⟨q3, q4, q5, q15, q13, kb, q14, qb, hkb⟩ := hs
  have hne : kb ≠ t0 := fun e => by rw [e, ht] at qb; simp at qb
  have s1 := Key.toNat_succ nx
  have s2 := Key.toNat_succ nx.succ
  have s3 := Key.toNat_succ nx.succ.succ
  have s4 := Key.toNat_succ nx.succ.succ.succ
  simp [f3l0, f3r4, q15]
  simp (disch := omega) [f3r5, q3, q4, q5, q15, q13, q14, qb, ht, List.filter_cons, get_lt (α := Blk), get_gt (α := Blk)]
  simp
  simp (disch := omega) [ht, get_lt (α := Blk), get_gt (α := Blk)]
  simp [f3r6, q15]
  refine hQ _ _ _ nx.succ.succ.succ ⟨by simp [q3], by simp [q4], by simp [q5], ?_, by simp, kb, by simp [q14], ?_, by omega⟩ ?_ (by omega)
  · simp [wrap_id]
  · simp (disch := omega) [get_lt (α := Blk)]
    rw [T.get_set_ne _ _ _ _ hne]
    simp (disch := omega) [get_lt (α := Blk), qb]
  · simp

theorem it3 {a b c x y k : Int} {Q : Post} {tm : T AV} {h : T Blk} {nx : Key} {P : List AV} {t0 : Key} (ht : T.get t0 h = some .tok) (htn : t0.toNat < nx.toNat) (hs : F0 a b c x y k tm h nx (.sl P 3 3 (.tok t0)) 3)
    (hQ : ∀ tm h nx t, F0 a b c x y k tm h nx (.sl (P ++ [I 1, I x, I k]) 4 3 (.tok t)) 4 → T.get t h = some .tok → t.toNat < nx.toNat → W C (.loop f3l0) Q tm h nx) : W C (.loop f3l0) Q tm h nx := by
  refine W.unroll (W.of ?_)
  obtain ⟨q3, q4, q5, q15, q13, kb, q14, qb, hkb⟩ := hs
  have hne : kb ≠ t0 := fun e => by rw [e, ht] at qb; simp at qb
  have s1 := Key.toNat_succ nx
  have s2 := Key.toNat_succ nx.succ
  have s3 := Key.toNat_succ nx.succ.succ
  have s4 := Key.toNat_succ nx.succ.succ.succ
  simp [f3l0, f3r4, q15]
  simp (disch := omega) [f3r5, q3, q4, q5, q15, q13, q14, qb, ht, List.filter_cons, get_lt (α := Blk), get_gt (α := Blk)]
  simp
  simp (disch := omega) [ht, get_lt (α := Blk), get_gt (α := Blk)]
  simp [f3r6, q15]
  refine hQ _ _ _ nx.succ.succ.succ ⟨by simp [q3], by simp [q4], by simp [q5], ?_, by simp, kb, by simp [q14], ?_, by omega⟩ ?_ (by omega)
  · simp [wrap_id]
  · simp (disch := omega) [get_lt (α := Blk)]
    rw [T.get_set_ne _ _ _ _ hne]
    simp (disch := omega) [get_lt (α := Blk), qb]
  · simp

theorem it4 {a b c x y k : Int} {Q : Post} {tm : T AV} {h : T Blk} {nx : Key} {P : List AV} {t0 : Key} (ht : T.get t0 h = some .tok) (htn : t0.toNat < nx.toNat) (hs : F0 a b c x y k tm h nx (.sl P 4 3 (.tok t0)) 4)
    (hQ : ∀ tm h nx t, F0 a b c x y k tm h nx (.sl (P ++ [I 2, I y, I k]) 5 3 (.tok t)) 5 → T.get t h = some .tok → t.toNat < nx.toNat → W C (.loop f3l0) Q tm h nx) : W C (.loop f3l0) Q tm h nx := by
  refine W.unroll (W.of ?_)
  obtain ⟨q3, q4, q5, q15, q13, kb, q14, qb, hkb⟩ := hs
  have hne : kb ≠ t0 := fun e => by rw [e, ht] at qb; simp at qb
  have s1 := Key.toNat_succ nx
  have s2 := Key.toNat_succ nx.succ
  have s3 := Key.toNat_succ nx.succ.succ
  have s4 := Key.toNat_succ nx.succ.succ.succ
  simp [f3l0, f3r4, q15]
  simp (disch := omega) [f3r5, q3, q4, q5, q15, q13, q14, qb, ht, List.filter_cons, get_lt (α := Blk), get_gt (α := Blk)]
  simp
  simp (disch := omega) [ht, get_lt (α := Blk), get_gt (α := Blk)]
  simp [f3r6, q15]
  refine hQ _ _ _ nx.succ.succ.succ ⟨by simp [q3], by simp [q4], by simp [q5], ?_, by simp, kb, by simp [q14], ?_, by omega⟩ ?_ (by omega)
  · simp [wrap_id]
  · simp (disch := omega) [get_lt (α := Blk)]
    rw [T.get_set_ne _ _ _ _ hne]
    simp (disch := omega) [get_lt (α := Blk), qb]
  · simp

theorem it5 {a b c x y k : Int} {Q : Post} {tm : T AV} {h : T Blk} {nx : Key} {P : List AV} {t0 : Key} (ht : T.get t0 h = some .tok) (htn : t0.toNat < nx.toNat) (hs : F0 a b c x y k tm h nx (.sl P 5 3 (.tok t0)) 5)
    (hQ : ∀ tm h nx t, F0 a b c x y k tm h nx (.sl (P ++ [I 0, I x, I x]) 6 3 (.tok t)) 6 → T.get t h = some .tok → t.toNat < nx.toNat → W C (.loop f3l0) Q tm h nx) : W C (.loop f3l0) Q tm h nx := by
  refine W.unroll (W.of ?_)
  obtain ⟨q3, q4, q5, q15, q13, kb, q14, qb, hkb⟩ := hs
  have hne : kb ≠ t0 := fun e => by rw [e, ht] at qb; simp at qb
  have s1 := Key.toNat_succ nx
  have s2 := Key.toNat_succ nx.succ
  have s3 := Key.toNat_succ nx.succ.succ
  have s4 := Key.toNat_succ nx.succ.succ.succ
  simp [f3l0, f3r4, q15]
  simp (disch := omega) [f3r5, q3, q4, q5, q15, q13, q14, qb, ht, List.filter_cons, get_lt (α := Blk), get_gt (α := Blk)]
  simp
  simp (disch := omega) [ht, get_lt (α := Blk), get_gt (α := Blk)]
  simp [f3r6, q15]
  refine hQ _ _ _ nx.succ.succ.succ ⟨by simp [q3], by simp [q4], by simp [q5], ?_, by simp, kb, by simp [q14], ?_, by omega⟩ ?_ (by omega)
  · simp [wrap_id]
  · simp (disch := omega) [get_lt (α := Blk)]
    rw [T.get_set_ne _ _ _ _ hne]
    simp (disch := omega) [get_lt (α := Blk), qb]
  · simp
end Tw
namespace Tw
open Go.Sx Go

def six (a b c x y k : Int) : List AV := [I a, I x, I k] ++ [I b, I y, I k] ++ [I c, I x, I x] ++ [I 1, I x, I k] ++ [I 2, I y, I k] ++ [I 0, I x, I x]
def sel6 (a b c x y k : Int) : Nat → Oc
  | 0 => (a, x, k)
  | 1 => (b, y, k)
  | 2 => (c, x, x)
  | 3 => (1, x, k)
  | 4 => (2, y, k)
  | _ => (0, x, x)
theorem six_ok (a b c x y k : Int) : L6 (six a b c x y k) (sel6 a b c x y k) := by
  refine ⟨rfl, fun i hi => ?_⟩
  match i, hi with
  | 0, _ => rfl
  | 1, _ => rfl
  | 2, _ => rfl
  | 3, _ => rfl
  | 4, _ => rfl
  | 5, _ => rfl

variable {C : Cfg} (S : Std C)
include S

theorem loop0 {a b c x y k : Int} {Q : Post} {tm : T AV} {h : T Blk} {nx : Key} (hs : F0 a b c x y k tm h nx .nils 0)
    (hQ : ∀ tm h nx fl, T.get (K 13) tm = some (.sl (six a b c x y k) 6 3 fl) → Q (.exit 0) tm h nx) : W C (.loop f3l0) Q tm h nx := by
  refine it0 S hs fun tm h nx t hs ht hn => ?_
  refine it1 S ht hn hs fun tm h nx t hs ht hn => ?_
  refine it2 S ht hn hs fun tm h nx t hs ht hn => ?_
  refine it3 S ht hn hs fun tm h nx t hs ht hn => ?_
  refine it4 S ht hn hs fun tm h nx t hs ht hn => ?_
  refine it5 S ht hn hs fun tm h nx t hs ht hn => ?_
  refine W.unroll (W.of ?_)
  have q15 := hs.k15
  have q13 := hs.k13
  simp [f3l0, f3r4, q15]
  exact hQ _ _ _ (.tok t) (by simp [q13]; rfl)

theorem order_ok (h8 : ∀ h nx, CallA C 8 [] h nx (fun o h' nx' => o = .ret (.bool true))) (a b c x y k : Int) (h : T Blk) (nx : Key) :
    CallA C 3 [I a, I b, I c, I x, I y, I k] h nx (fun o h' nx' => o = .ret (.bool true)) := by
  refine CallA.ofW (p := f3) (S.off _ _ _ _ (by decide)) (by rw [S.get]; exact g3) (S.rawR _) ?_
  unfold f3
  refine W.seqM (fun tm h nx => T.get (K 0) tm = some (I a) ∧ T.get (K 1) tm = some (I b) ∧ T.get (K 2) tm = some (I c) ∧ T.get (K 3) tm = some (I x) ∧ T.get (K 4) tm = some (I y) ∧ T.get (K 5) tm = some (I k)) (W.of ?_) ?_
  · simp [f3r0]
  rintro tm h nx ⟨a0, a1, a2, a3, a4, a5⟩
  refine W.seqM (fun tm h nx => T.get (K 0) tm = some (I a) ∧ T.get (K 1) tm = some (I b) ∧ T.get (K 2) tm = some (I c) ∧ T.get (K 3) tm = some (I x) ∧ T.get (K 4) tm = some (I y) ∧ T.get (K 5) tm = some (I k) ∧ T.get (K 13) tm = some .nils) (W.of ?_) ?_
  · simp [f3r1, a0, a1, a2, a3, a4, a5]
  clear a0 a1 a2 a3 a4 a5
  rintro tm h nx ⟨a0, a1, a2, a3, a4, a5, a13⟩
  refine W.seqM (fun tm h nx => F0 a b c x y k (T.set (K 15) (some (I 0)) tm) h nx .nils 0) (W.of ?_) ?_
  · simp [f3r2, a0, a1, a2, a3, a4, a5, a13]
    exact ⟨by simp [a3], by simp [a4], by simp [a5], by simp, by simp [a13], nx, by simp, by simp, by simp⟩
  clear a0 a1 a2 a3 a4 a5 a13
  intro tm h nx hs
  refine W.seqM (fun tm h nx => ∃ fl, T.get (K 13) tm = some (.sl (six a b c x y k) 6 3 fl)) ?_ ?_
  · refine W.seqM (fun tm h nx => F0 a b c x y k tm h nx .nils 0) (W.of ?_) ?_
    · simp [f3r3]
      exact hs
    intro tm h nx hs
    refine W.blockM (loop0 S hs ?_)
    intro tm h nx fl q
    simp
    exact ⟨fl, q⟩
  rintro tm h nx ⟨fl, q⟩
  refine W.seqM (fun tm h nx => True) ?_ ?_
  · refine W.seqM (fun tm h nx => T.get (K 13) tm = some (.sl (six a b c x y k) 6 3 fl) ∧ T.get (K 16) tm = some (I (0 : Nat))) (W.of ?_) ?_
    · simp [f3r7, q]
    rintro tm h nx ⟨q, r⟩
    refine W.blockM (loop1 S (six_ok a b c x y k) fl ?_ q r)
    intro tm h nx
    simp
  intro tm h nx _
  refine W.of ?_
  simp [f3r27, S.raw]
  refine (h8 _ _).mono ?_
  rintro o h' nx' rfl
  simp
end Tw
