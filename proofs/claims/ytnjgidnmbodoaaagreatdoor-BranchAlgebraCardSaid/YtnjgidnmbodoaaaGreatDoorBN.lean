/-
  SB: the law of the algebra: parts. No condition.
-/
import Derived.Test.YtnjgidnmbodoaaaGreatDoorBL
set_option linter.unusedSimpArgs false
set_option linter.unusedVariables false
set_option linter.unusedSectionVars false
namespace Tb
open Go.Sx Go
variable {C : Cfg} (S : Std C)
include S
def IncInv (l : List Br) (h : T Blk) (nx : Key) (k : Nat) (tm' : T AV) (h' : T Blk) (nx' : Key) : Prop :=
  ∃ j : Nat, k = l.length - j ∧ j ≤ l.length ∧ T.get (K 0) tm' = some (.sl (rowsA eB l) l.length 3 .any) ∧ T.get (K 3) tm' = some (I ((j : Int) + 1)) ∧ Ext h nx h' nx'
theorem incr_ok {c : AV} {l : List Br} (hc : IsL c l) (hl : l.length ≤ 1000) (hs : Sr l) : Pur C n_law13_increasing [c] (· = .ret (.bool true)) := by
  intro h nx
  have q1 : C.raw n_branch_Compare = false := S.raw _ (by decide)
  refine S.c_law13_increasing.call ?_
  simp [law13_increasing]
  simp [law13_increasing_r0]
  simp [law13_increasing_r1]
  rcases hc with ⟨rfl, rfl⟩ | rfl
  · refine W.unroll (W.of ?_)
    simp [law13_increasing_l0]
    simp [law13_increasing_r2]
    simp [law13_increasing_r6]
    exact Ext.refl _ _
  · refine W.loopM (n := l.length) (IncInv l h nx) ?_ ?_
    · refine ⟨0, by simp, by omega, ?_, ?_, Ext.refl _ _⟩ <;> simp
    · rintro k tm1 h1 nx1 ⟨j, rfl, hj, f0, f3, e1⟩
      refine W.of ?_
      simp [law13_increasing_l0]
      by_cases hlt : j + 1 < l.length
      · have hlt' : (j : Int) + 1 < l.length := by omega
        have hj0 : j < l.length := by omega
        have r := flatB.rows l
        have h3 : 3 ≤ (rowsA eB l).length - j * 3 := by omega
        have h4 : 3 ≤ (rowsA eB l).length - (j + 1) * 3 := by omega
        have ea := flatB.at hj0
        have eb := flatB.at hlt
        have za : ∀ H, frzLA (frzA 7) (eB l[j]) H = (eB l[j], H) := fun H => frzLA_stb (flatB.stb _)
        have zb : ∀ H, frzLA (frzA 7) (eB l[j + 1]) H = (eB l[j + 1], H) := fun H => frzLA_stb (flatB.stb _)
        have hw : wrapF .i64 (j : Int) = j := wrap_id (by omega) (by omega)
        have hn : ∀ k : IntKind, natOf (.int k (.lit ((j : Int) + 1))) = some (j + 1) := fun k => by rw [show (j : Int) + 1 = ((j + 1 : Nat) : Int) by omega]; rfl
        have hneg : cmpB l[j] l[j + 1] < 0 := List.pairwise_iff_getElem.1 hs j (j + 1) hj0 hlt (by omega)
        have hneg' : ¬ 0 ≤ cmpB l[j] l[j + 1] := by omega
        simp [law13_increasing_r2, f0, f3, hlt']
        simp [law13_increasing_r3, f0, f3, hw, hn, hj0, hlt, h3, h4, ea, eb, q1, za, zb]
        refine (cmpB_ok S _ _ _ _).mono ?_
        rintro o h2 nx2 ⟨rfl, e2⟩
        simp [hneg]
        have hw2 : wrapF .i64 ((j : Int) + 1 + 1) = (j : Int) + 1 + 1 := wrap_id (by omega) (by omega)
        simp [law13_increasing_r5, f3, hw2]
        refine ⟨l.length - (j + 1), by omega, ?_⟩
        unfold IncInv
        refine ⟨j + 1, rfl, by omega, ?_, ?_, e1.trans e2⟩
        · simp [f0]
        · simp
      · have hlt' : ¬ (j : Int) + 1 < l.length := by omega
        simp [law13_increasing_r2, f0, f3, hlt']
        simp [law13_increasing_r6]
        exact e1
end Tb
/-
  SB: the law of the algebra: the loop. No condition.
-/
namespace Tb
open Go.Sx Go
/- a row that grows, from an empty literal on -/
def Acc (c : AV) (us : List Br) (h : T Blk) (nx n0 : Key) : Prop := (∃ b : Key, c = .slice b 0 0 3 ∧ us = [] ∧ T.get b h = some (.cells [] .fix) ∧ n0.toNat ≤ b.toNat ∧ b.toNat < nx.toNat) ∨ App c (rowsA eB us) us.length 3 h nx n0
theorem Acc.add {c : AV} {us : List Br} {h : T Blk} {nx n0 : Key} (ha : Acc c us h nx n0) (h0 : n0.toNat ≤ nx.toNat) (m : List Br) (hl : us.length + m.length ≤ 1048576) :
    ∃ c' h' nx', appendTo 3 c (rowsA eB m) m.length h nx = .val c' h' nx' ∧ Acc c' (us ++ m) h' nx' n0 ∧ nx.toNat ≤ nx'.toNat ∧ (∀ b : Key, b.toNat < n0.toNat → T.get b h' = T.get b h) := by
  rcases ha with ⟨b, rfl, rfl, hb, hlo, hlt⟩ | ha
  · have s1 := Key.toNat_succ nx
    by_cases hm : m = []
    · subst hm
      refine ⟨.slice b 0 0 3, T.set b (some (.cells [] .fix)) h, nx, by simp [hb], .inl ⟨b, rfl, rfl, by rw [T.get_set_same], hlo, hlt⟩, Nat.le_refl _, fun k hk => get_lt (by omega)⟩
    · have hmp : 0 < m.length := List.length_pos_iff.2 hm
      have hm0 : ¬ m.length = 0 := by omega
      have hm1 : m.length ≤ 1048576 := by simpa using hl
      have hr := flatB.rows m
      have hall := flatB.allc m
      refine ⟨.slice nx 0 m.length 3, T.set nx (some (.cells (rowsA eB m) .part)) h, nx.succ, by simp [hb, hm0, hm1, hall]; rw [show decide (m.length * 3 = 0) = false from decide_eq_false (by omega)]; rfl, .inr ⟨.inr (.inl ⟨nx, rfl, by rw [T.get_set_same]; simp, by omega, by omega, by simpa using hr⟩)⟩, by omega, fun k hk => get_lt (by omega)⟩
  · obtain ⟨c', h', nx', a1, a2, a3, a4, _⟩ := ha.addN (new := rowsA eB m) (m := m.length) h0 (by rw [flatB.rows]) hl (flatB.allc m)
    exact ⟨c', h', nx', a1, .inr (by rw [rowsA_app, List.length_append]; exact a2), a3, a4⟩
variable {C : Cfg} (S : Std C)
include S
omit S in
theorem row8 {ca cb cc : AV} {a b c : List Br} (ia : IsL ca a) (ib : IsL cb b) (ic : IsL cc c) (hla : a.length ≤ 14) (hlb : b.length ≤ 14) (hlc : c.length ≤ 14) {h : T Blk} {nx : Key} {tm : T AV} (f7 : T.get (K 7) tm = some ca) (f8 : T.get (K 8) tm = some cb) (f9 : T.get (K 9) tm = some cc) {R : Post}
    (hR : ∀ tm' c' h' nx', T.get (K 7) tm' = some ca → T.get (K 8) tm' = some cb → T.get (K 9) tm' = some cc → T.get (K 10) tm' = T.get (K 10) tm → T.get (K 11) tm' = T.get (K 11) tm → T.get (K 12) tm' = some c' → Acc c' (a ++ b ++ c) h' nx' nx → Ext h nx h' nx' → R .norm tm' h' nx') :
    wpC C (.ops law13_BranchAlgebra_r8) R tm h nx := by
  have s1 := Key.toNat_succ nx
  have A0 : Acc (.slice nx 0 0 3) [] (T.set nx (some (.cells [] .fix)) h) nx.succ nx := .inl ⟨nx, rfl, rfl, by rw [T.get_set_same], Nat.le_refl _, by omega⟩
  obtain ⟨c1, h1, nx1, g1, A1, n1, k1⟩ := A0.add (by omega) a (by simp; omega)
  obtain ⟨c2, h2, nx2, g2, A2, n2, k2⟩ := A1.add (by omega) b (by simp; omega)
  obtain ⟨c3, h3, nx3, g3, A3, n3, k3⟩ := A2.add (by omega) c (by simp; omega)
  have hE : Ext h nx h3 nx3 := ⟨by omega, fun q hq => by rw [k3 q hq, k2 q hq, k1 q hq, get_lt hq]⟩
  have fin : ∀ tm', T.get (K 7) tm' = some ca → T.get (K 8) tm' = some cb → T.get (K 9) tm' = some cc → T.get (K 10) tm' = T.get (K 10) tm → T.get (K 11) tm' = T.get (K 11) tm → T.get (K 12) tm' = some c3 → R .norm tm' h3 nx3 := fun tm' a1 a2 a3 a4 a5 a6 => hR tm' c3 h3 nx3 a1 a2 a3 a4 a5 a6 A3 hE
  clear hR A0 A1 A2 A3 k1 k2 k3
  rcases ia with ⟨rfl, rfl⟩ | rfl <;> rcases ib with ⟨rfl, rfl⟩ | rfl <;> rcases ic with ⟨rfl, rfl⟩ | rfl
  all_goals
    try simp only [rowsA_nil, List.length_nil] at g1
    try simp only [rowsA_nil, List.length_nil] at g2
    try simp only [rowsA_nil, List.length_nil] at g3
    simp [-appendTo, law13_BranchAlgebra_r8, f7, f8, f9, g1, g2, g3]
    refine fin _ ?_ ?_ ?_ ?_ ?_ ?_
    · simp [f7]
    · simp [f8]
    · simp [f9]
    · simp
    · simp
    · simp

def AlgInv2 (ca cb cu cd : AV) (us : List Br) (tk : Key) (cc : AV) (h : T Blk) (nx : Key) (k : Nat) (tm' : T AV) (h' : T Blk) (nx' : Key) : Prop :=
  ∃ i : Nat, k = us.length - i ∧ i ≤ us.length ∧ T.get (K 7) tm' = some ca ∧ T.get (K 8) tm' = some cb ∧ T.get (K 10) tm' = some cu ∧ T.get (K 11) tm' = some cd ∧ T.get (K 12) tm' = some (.sl (rowsA eB us) us.length 3 (.tok tk)) ∧ T.get (K 13) tm' = some (I i) ∧  Ext h nx h' nx' ∧ T.get (K 9) tm' = some cc ∧ nx.toNat ≤ nx'.toNat
theorem algLoop2 {ca cb cu cd cc : AV} {a b ru rd us : List Br} (ia : IsL ca a) (ib : IsL cb b) (iu : IsL cu ru) (id : IsL cd rd) (hla : a.length ≤ 14) (hlb : b.length ≤ 14) (hlu : ru.length ≤ 100) (hld : rd.length ≤ 100) (hus : us.length ≤ 100) (hoa : AllOk a)
    (su : SetOf (fun y => y ∈ a ∨ y ∈ b) ru) (sd : SetOf (fun y => y ∈ a ∧ y ∉ b) rd) {tk : Key} {h : T Blk} {nx : Key} {tm : T AV} (f7 : T.get (K 7) tm = some ca) (f8 : T.get (K 8) tm = some cb) (f10 : T.get (K 10) tm = some cu) (f11 : T.get (K 11) tm = some cd) (f12 : T.get (K 12) tm = some (.sl (rowsA eB us) us.length 3 (.tok tk))) (f13 : T.get (K 13) tm = some (I 0)) (f9 : T.get (K 9) tm = some cc)  :
    W C (.loop law13_BranchAlgebra_l0) (fun e tm' h' nx' => e = .exit 0 ∧ T.get (K 7) tm' = some ca ∧ T.get (K 8) tm' = some cb ∧ T.get (K 9) tm' = some cc ∧ T.get (K 10) tm' = some cu ∧ T.get (K 11) tm' = some cd ∧ Ext h nx h' nx') tm h nx := by
  have q1 : C.raw n_branch_Has = false := S.raw _ (by decide)
  have q2 : C.raw n_branch_Set = false := S.raw _ (by decide)
  have as : ∀ n h, frzA n ca h = (ca, h) := IsR.stb ia
  have bs : ∀ n h, frzA n cb h = (cb, h) := IsR.stb ib
  have us' : ∀ n h, frzA n cu h = (cu, h) := IsR.stb iu
  have ds : ∀ n h, frzA n cd h = (cd, h) := IsR.stb id
  refine W.loopM (n := us.length) (AlgInv2 ca cb cu cd us tk cc h nx) ?_ ?_
  · exact ⟨0, by simp, by omega, f7, f8, f10, f11, f12, by simpa using f13,  Ext.refl _ _, f9, Nat.le_refl _⟩
  · rintro k tm1 h1 nx1 ⟨i, rfl, hi, f7, f8, f10, f11, f12, f13,  e1, f9, hnn⟩
    refine W.of ?_
    simp [law13_BranchAlgebra_l0]
    simp [law13_BranchAlgebra_r10, f12, f13]
    refine ⟨fun hilt => ?_, fun hge => ?_⟩
    · have hil : i < us.length := by omega
      have hr := flatB.rows us
      have h3 : 3 ≤ (rowsA eB us).length - i * 3 := by omega
      have ea := flatB.at hil
      have za : ∀ H, frzLA (frzA 7) (eB us[i]) H = (eB us[i], H) := fun H => frzLA_stb (flatB.stb _)
      have ba : AV.beqs (eB us[i]) (eB us[i]) = true := beqs_refl _ rfl
      simp [law13_BranchAlgebra_r11, f7, f12, f13, hil, h3, ea, q1, za, as]
      refine (has_ok S ia (by omega) _ _ _).mono ?_
      rintro o h2 nx2 ⟨rfl, e2⟩
      simp
      simp [law13_BranchAlgebra_r12, f8, f12, f13, hil, h3, ea, q1, za, bs]
      refine (has_ok S ib (by omega) _ _ _).mono ?_
      rintro o h4 nx4 ⟨rfl, e3⟩
      simp
      simp [law13_BranchAlgebra_r13, f7, f12, f13, hil, h3, ea, q2, za, as]
      refine (setB_ok S ia (by omega) hoa _ _).mono ?_
      rintro o h5 nx5 ⟨⟨cs, rfl, rs, is, ss, ls⟩, e4⟩
      have cs' : ∀ n h, frzA n cs h = (cs, h) := IsR.stb is
      simp [f7, f12, f13, hil, h3, ea, q1, za, cs', AV.beq, ba]
      refine (has_ok S is (by omega) _ _ _).mono ?_
      rintro o h6 nx6 ⟨rfl, e5⟩
      have d1 : decide (us[i] ∈ rs) = decide (us[i] ∈ a) := by rw [decide_eq_decide]; exact ss.mem _
      simp [f10, f12, f13, hil, h3, ea, q1, za, us', d1]
      refine (has_ok S iu (by omega) _ _ _).mono ?_
      rintro o h7 nx7 ⟨rfl, e6⟩
      have d2 : (us[i] ∈ ru) = (us[i] ∈ a ∨ us[i] ∈ b) := propext (su.mem _)
      have d3 : (us[i] ∈ rd) = (us[i] ∈ a ∧ us[i] ∉ b) := propext (sd.mem _)
      have fin : ∀ (tm2 : T AV) h8 nx8, T.get (K 7) tm2 = some ca → T.get (K 8) tm2 = some cb → T.get (K 9) tm2 = some cc → T.get (K 10) tm2 = some cu → T.get (K 11) tm2 = some cd → T.get (K 12) tm2 = some (.sl (rowsA eB us) us.length 3 (.tok tk)) → T.get (K 13) tm2 = some (I ((i : Int) + 1)) → Ext h7 nx7 h8 nx8 → ∃ m, m < us.length - i ∧ AlgInv2 ca cb cu cd us tk cc h nx m tm2 h8 nx8 := by
        intro tm2 h8 nx8 g7 g8 g9 g10 g11 g12 g13 e8
        have eA := e1.trans (e2.trans (e3.trans (e4.trans (e5.trans (e6.trans e8)))))
        refine ⟨us.length - (i + 1), by omega, ?_⟩
        unfold AlgInv2
        exact ⟨i + 1, rfl, by omega, g7, g8, g10, g11, g12, g13,  eA, g9, eA.n⟩
      have hw : wrapF .i64 ((i : Int) + 1) = (i : Int) + 1 := wrap_id (by omega) (by omega)
      by_cases p : us[i] ∈ a <;> by_cases q : us[i] ∈ b
      all_goals
        simp [d2, p, q, f11, f12, f13, hil, h3, ea, q1, za, ds]
        refine (has_ok S id (by omega) _ _ _).mono ?_
        rintro o h8 nx8 ⟨rfl, e7⟩
        simp [d3, p, q]
        simp [law13_BranchAlgebra_r15, f13, hw]
        refine fin _ _ _ ?_ ?_ ?_ ?_ ?_ ?_ ?_ e7
        · simp [f7]
        · simp [f8]
        · simp [f9]
        · simp [f10]
        · simp [f11]
        · simp [f12]
        · simp
    · simp [f7, f8, f9, f10, f11]
      exact e1

def AlgInv1 (ca cb cu cd : AV) (us : List Br) (kb : Key) (kk : CK) (cc : AV) (h : T Blk) (nx : Key) (k : Nat) (tm' : T AV) (h' : T Blk) (nx' : Key) : Prop :=
  ∃ i : Nat, k = us.length - i ∧ i ≤ us.length ∧ T.get (K 7) tm' = some ca ∧ T.get (K 8) tm' = some cb ∧ T.get (K 10) tm' = some cu ∧ T.get (K 11) tm' = some cd ∧ T.get (K 12) tm' = some (.slice kb 0 us.length 3) ∧ T.get (K 13) tm' = some (I i) ∧ T.get kb h' = some (.cells (rowsA eB us) kk) ∧ kb.toNat < nx.toNat ∧ Ext h nx h' nx' ∧ T.get (K 9) tm' = some cc ∧ nx.toNat ≤ nx'.toNat
theorem algLoop1 {ca cb cu cd cc : AV} {a b ru rd us : List Br} (ia : IsL ca a) (ib : IsL cb b) (iu : IsL cu ru) (id : IsL cd rd) (hla : a.length ≤ 14) (hlb : b.length ≤ 14) (hlu : ru.length ≤ 100) (hld : rd.length ≤ 100) (hus : us.length ≤ 100) (hoa : AllOk a)
    (su : SetOf (fun y => y ∈ a ∨ y ∈ b) ru) (sd : SetOf (fun y => y ∈ a ∧ y ∉ b) rd) {kb : Key} {kk : CK} {h : T Blk} {nx : Key} {tm : T AV} (f7 : T.get (K 7) tm = some ca) (f8 : T.get (K 8) tm = some cb) (f10 : T.get (K 10) tm = some cu) (f11 : T.get (K 11) tm = some cd) (f12 : T.get (K 12) tm = some (.slice kb 0 us.length 3)) (f13 : T.get (K 13) tm = some (I 0)) (f9 : T.get (K 9) tm = some cc) (hk : T.get kb h = some (.cells (rowsA eB us) kk)) (hbn : kb.toNat < nx.toNat) :
    W C (.loop law13_BranchAlgebra_l0) (fun e tm' h' nx' => e = .exit 0 ∧ T.get (K 7) tm' = some ca ∧ T.get (K 8) tm' = some cb ∧ T.get (K 9) tm' = some cc ∧ T.get (K 10) tm' = some cu ∧ T.get (K 11) tm' = some cd ∧ Ext h nx h' nx') tm h nx := by
  have q1 : C.raw n_branch_Has = false := S.raw _ (by decide)
  have q2 : C.raw n_branch_Set = false := S.raw _ (by decide)
  have as : ∀ n h, frzA n ca h = (ca, h) := IsR.stb ia
  have bs : ∀ n h, frzA n cb h = (cb, h) := IsR.stb ib
  have us' : ∀ n h, frzA n cu h = (cu, h) := IsR.stb iu
  have ds : ∀ n h, frzA n cd h = (cd, h) := IsR.stb id
  refine W.loopM (n := us.length) (AlgInv1 ca cb cu cd us kb kk cc h nx) ?_ ?_
  · exact ⟨0, by simp, by omega, f7, f8, f10, f11, f12, by simpa using f13, by rw [hk], hbn, Ext.refl _ _, f9, Nat.le_refl _⟩
  · rintro k tm1 h1 nx1 ⟨i, rfl, hi, f7, f8, f10, f11, f12, f13, hbs, hbk, e1, f9, hnn⟩
    refine W.of ?_
    simp [law13_BranchAlgebra_l0]
    simp [law13_BranchAlgebra_r10, f12, f13]
    refine ⟨fun hilt => ?_, fun hge => ?_⟩
    · have hil : i < us.length := by omega
      have hr := flatB.rows us
      have h3 : 3 ≤ (rowsA eB us).length - i * 3 := by omega
      have ea := flatB.at hil
      have za : ∀ H, frzLA (frzA 7) (eB us[i]) H = (eB us[i], H) := fun H => frzLA_stb (flatB.stb _)
      have ba : AV.beqs (eB us[i]) (eB us[i]) = true := beqs_refl _ rfl
      simp [law13_BranchAlgebra_r11, f7, f12, f13, hil, h3, ea, q1, za, as, hbs]
      refine (has_ok S ia (by omega) _ _ _).mono ?_
      rintro o h2 nx2 ⟨rfl, e2⟩
      have hbs2 : T.get kb h2 = some (.cells (rowsA eB us) kk) := by rw [(e2).g kb (by have := e1.n; omega)]; exact hbs
      simp
      simp [law13_BranchAlgebra_r12, f8, f12, f13, hil, h3, ea, q1, za, bs, hbs2]
      refine (has_ok S ib (by omega) _ _ _).mono ?_
      rintro o h4 nx4 ⟨rfl, e3⟩
      have hbs3 : T.get kb h4 = some (.cells (rowsA eB us) kk) := by rw [(e2.trans e3).g kb (by have := e1.n; omega)]; exact hbs
      simp
      simp [law13_BranchAlgebra_r13, f7, f12, f13, hil, h3, ea, q2, za, as, hbs3]
      refine (setB_ok S ia (by omega) hoa _ _).mono ?_
      rintro o h5 nx5 ⟨⟨cs, rfl, rs, is, ss, ls⟩, e4⟩
      have hbs4 : T.get kb h5 = some (.cells (rowsA eB us) kk) := by rw [(e2.trans (e3.trans e4)).g kb (by have := e1.n; omega)]; exact hbs
      have cs' : ∀ n h, frzA n cs h = (cs, h) := IsR.stb is
      simp [f7, f12, f13, hil, h3, ea, q1, za, cs', AV.beq, ba, hbs4]
      refine (has_ok S is (by omega) _ _ _).mono ?_
      rintro o h6 nx6 ⟨rfl, e5⟩
      have hbs5 : T.get kb h6 = some (.cells (rowsA eB us) kk) := by rw [(e2.trans (e3.trans (e4.trans e5))).g kb (by have := e1.n; omega)]; exact hbs
      have d1 : decide (us[i] ∈ rs) = decide (us[i] ∈ a) := by rw [decide_eq_decide]; exact ss.mem _
      simp [f10, f12, f13, hil, h3, ea, q1, za, us', d1, hbs5]
      refine (has_ok S iu (by omega) _ _ _).mono ?_
      rintro o h7 nx7 ⟨rfl, e6⟩
      have hbs6 : T.get kb h7 = some (.cells (rowsA eB us) kk) := by rw [(e2.trans (e3.trans (e4.trans (e5.trans e6)))).g kb (by have := e1.n; omega)]; exact hbs
      have d2 : (us[i] ∈ ru) = (us[i] ∈ a ∨ us[i] ∈ b) := propext (su.mem _)
      have d3 : (us[i] ∈ rd) = (us[i] ∈ a ∧ us[i] ∉ b) := propext (sd.mem _)
      have fin : ∀ (tm2 : T AV) h8 nx8, T.get (K 7) tm2 = some ca → T.get (K 8) tm2 = some cb → T.get (K 9) tm2 = some cc → T.get (K 10) tm2 = some cu → T.get (K 11) tm2 = some cd → T.get (K 12) tm2 = some (.slice kb 0 us.length 3) → T.get (K 13) tm2 = some (I ((i : Int) + 1)) → Ext h7 nx7 h8 nx8 → ∃ m, m < us.length - i ∧ AlgInv1 ca cb cu cd us kb kk cc h nx m tm2 h8 nx8 := by
        intro tm2 h8 nx8 g7 g8 g9 g10 g11 g12 g13 e8
        have eA := e1.trans (e2.trans (e3.trans (e4.trans (e5.trans (e6.trans e8)))))
        refine ⟨us.length - (i + 1), by omega, ?_⟩
        unfold AlgInv1
        exact ⟨i + 1, rfl, by omega, g7, g8, g10, g11, g12, g13, by rw [(e2.trans (e3.trans (e4.trans (e5.trans (e6.trans e8))))).g kb (by omega)]; exact hbs, hbk, eA, g9, eA.n⟩
      have hw : wrapF .i64 ((i : Int) + 1) = (i : Int) + 1 := wrap_id (by omega) (by omega)
      by_cases p : us[i] ∈ a <;> by_cases q : us[i] ∈ b
      all_goals
        simp [d2, p, q, f11, f12, f13, hil, h3, ea, q1, za, ds, hbs6]
        refine (has_ok S id (by omega) _ _ _).mono ?_
        rintro o h8 nx8 ⟨rfl, e7⟩
        simp [d3, p, q]
        simp [law13_BranchAlgebra_r15, f13, hw]
        refine fin _ _ _ ?_ ?_ ?_ ?_ ?_ ?_ ?_ e7
        · simp [f7]
        · simp [f8]
        · simp [f9]
        · simp [f10]
        · simp [f11]
        · simp [f12]
        · simp
    · simp [f7, f8, f9, f10, f11]
      exact e1
end Tb
/-
  SB: the law of the algebra. No condition.
-/
namespace Tb
open Go.Sx Go
variable {C : Cfg} (S : Std C)
include S
/- the lists at hand -/
structure Lists (ca cb cc cu cd : AV) (a b c ru rd : List Br) : Prop where
  ia : IsL ca a
  ib : IsL cb b
  ic : IsL cc c
  iu : IsL cu ru
  id : IsL cd rd
  la : a.length ≤ 14
  lb : b.length ≤ 14
  lc : c.length ≤ 14
  lu : ru.length ≤ 28
  ld : rd.length ≤ 14
  oa : AllOk a
  ob : AllOk b
  oc : AllOk c
  su : SetOf (fun y => y ∈ a ∨ y ∈ b) ru
  sd : SetOf (fun y => y ∈ a ∧ y ∉ b) rd
structure Slots (ca cb cc cu cd : AV) (tm : T AV) : Prop where
  f7 : T.get (K 7) tm = some ca
  f8 : T.get (K 8) tm = some cb
  f9 : T.get (K 9) tm = some cc
  f10 : T.get (K 10) tm = some cu
  f11 : T.get (K 11) tm = some cd
variable {ca cb cc cu cd : AV} {a b c ru rd : List Br}
theorem row6 (L : Lists ca cb cc cu cd a b c ru rd) {h : T Blk} {nx : Key} {tm : T AV} (F : Slots ca cb cc cu cd tm) {R : Post}
    (hR : ∀ tm' h' nx', Slots ca cb cc cu cd tm' → T.get (K 41) tm' = some (.bool false) → Ext h nx h' nx' → R .norm tm' h' nx') : wpC C (.ops law13_BranchAlgebra_r6) R tm h nx := by
  obtain ⟨f7, f8, f9, f10, f11⟩ := F
  have q1 : C.raw n_law13_increasing = false := S.raw _ (by decide)
  have q2 : C.raw n_branch_Set = false := S.raw _ (by decide)
  have as : ∀ n h, frzA n ca h = (ca, h) := IsR.stb L.ia
  have us : ∀ n h, frzA n cu h = (cu, h) := IsR.stb L.iu
  have ds : ∀ n h, frzA n cd h = (cd, h) := IsR.stb L.id
  simp [law13_BranchAlgebra_r6, f10, q1, us]
  refine (incr_ok S L.iu (by have := L.lu; omega) L.su.sr _ _).mono ?_
  rintro o h1 nx1 ⟨rfl, e1⟩
  simp [f11, q1, ds]
  refine (incr_ok S L.id (by have := L.ld; omega) L.sd.sr _ _).mono ?_
  rintro o h2 nx2 ⟨rfl, e2⟩
  simp [f7, q2, as]
  refine (setB_ok S L.ia (by have := L.la; omega) L.oa _ _).mono ?_
  rintro o h3 nx3 ⟨⟨c1, rfl, r1, i1, s1, l1⟩, e3⟩
  have z1 : ∀ n h, frzA n c1 h = (c1, h) := IsR.stb i1
  simp [q1, z1]
  refine (incr_ok S i1 (by have := L.la; omega) s1.sr _ _).mono ?_
  rintro o h4 nx4 ⟨rfl, e4⟩
  simp
  refine hR _ _ _ ⟨?_, ?_, ?_, ?_, ?_⟩ ?_ (e1.trans (e2.trans (e3.trans e4)))
  · simp [f7]
  · simp [f8]
  · simp [f9]
  · simp [f10]
  · simp [f11]
  · simp
theorem same_congr {p q : Br → Prop} {c d : AV} {r s : List Br} {h : T Blk} {nx : Key} (hc : IsL c r) (hd : IsL d s) (hr : SetOf p r) (hs : SetOf q s) (hpq : ∀ y, q y ↔ p y) (ho : ∀ y, p y → OkB y) (hl : r.length ≤ 4000) : CallA C n_ref13_Same [c, d] h nx (fun o h' nx' => o = .ret (.bool true) ∧ Ext h nx h' nx') :=
  same_sets S hc hd hr (hs.congr hpq) ho hl
theorem row16 (L : Lists ca cb cc cu cd a b c ru rd) {h : T Blk} {nx : Key} {tm : T AV} (F : Slots ca cb cc cu cd tm) {R : Post}
    (hR : ∀ tm' h' nx', Slots ca cb cc cu cd tm' → T.get (K 132) tm' = some (.bool false) → Ext h nx h' nx' → R .norm tm' h' nx') : wpC C (.ops law13_BranchAlgebra_r16) R tm h nx := by
  obtain ⟨f7, f8, f9, f10, f11⟩ := F
  have b1 := L.la
  have b2 := L.lb
  have b3 := L.lc
  have b4 := L.lu
  have b5 := L.ld
  have q1 : C.raw n_branch_Union = false := S.raw _ (by decide)
  have q2 : C.raw n_ref13_Same = false := S.raw _ (by decide)
  have q3 : C.raw n_branch_Minus = false := S.raw _ (by decide)
  have as : ∀ n h, frzA n ca h = (ca, h) := IsR.stb L.ia
  have bs : ∀ n h, frzA n cb h = (cb, h) := IsR.stb L.ib
  have cs' : ∀ n h, frzA n cc h = (cc, h) := IsR.stb L.ic
  have us : ∀ n h, frzA n cu h = (cu, h) := IsR.stb L.iu
  have ds : ∀ n h, frzA n cd h = (cd, h) := IsR.stb L.id
  have ou : AllOk ru := fun y hy => ((L.su.mem y).1 hy).elim (L.oa y) (L.ob y)
  have od : AllOk rd := fun y hy => L.oa y ((L.sd.mem y).1 hy).1
  simp [law13_BranchAlgebra_r16, f7, f8, q1, as, bs, f9, f10, f11, q2, q3, cs', us, ds]
  refine (unionB_ok S L.ib L.ia (by omega) (by omega) L.ob L.oa _ _).mono ?_
  rintro o h1 nx1 ⟨⟨c1, rfl, r1, i1, s1, l1⟩, e1⟩
  have z1 : ∀ n h, frzA n c1 h = (c1, h) := IsR.stb i1
  simp [f10, q2, us, z1, f7, f8, f9, f11, q1, q3, as, bs, cs', ds]
  refine (same_congr S L.iu i1 L.su s1 (fun y => or_comm) (fun y hy => hy.elim (L.oa y) (L.ob y)) (by omega)).mono ?_
  rintro o h2 nx2 ⟨rfl, e2⟩
  simp [f9, f10, q1, us, cs', f7, f8, f11, q2, q3, as, bs, ds]
  refine (unionB_ok S L.iu L.ic (by omega) (by omega) ou L.oc _ _).mono ?_
  rintro o h3 nx3 ⟨⟨c2, rfl, r2, i2, s2, l2⟩, e3⟩
  simp [f7, f8, f9, q1, bs, cs', f10, f11, q2, q3, as, us, ds]
  refine (unionB_ok S L.ib L.ic (by omega) (by omega) L.ob L.oc _ _).mono ?_
  rintro o h4 nx4 ⟨⟨c3, rfl, r3, i3, s3, l3⟩, e4⟩
  have z3 : ∀ n h, frzA n c3 h = (c3, h) := IsR.stb i3
  have o3 : AllOk r3 := fun y hy => ((s3.mem y).1 hy).elim (L.ob y) (L.oc y)
  simp [q1, as, z3, f7, f8, f9, f10, f11, q2, q3, bs, cs', us, ds]
  refine (unionB_ok S L.ia i3 (by omega) (by omega) L.oa o3 _ _).mono ?_
  rintro o h5 nx5 ⟨⟨c4, rfl, r4, i4, s4, l4⟩, e5⟩
  have z2 : ∀ n h, frzA n c2 h = (c2, h) := IsR.stb i2
  have z4 : ∀ n h, frzA n c4 h = (c4, h) := IsR.stb i4
  simp [q2, z2, z4, f7, f8, f9, f10, f11, q1, q3, as, bs, cs', us, ds]
  refine (same_congr S i2 i4 s2 s4 (fun y => by rw [s3.mem y, L.su.mem y, or_assoc]) (fun y hy => hy.elim (ou y) (L.oc y)) (by omega)).mono ?_
  rintro o h6 nx6 ⟨rfl, e6⟩
  simp [f9, f11, q3, ds, cs', f7, f8, f10, q1, q2, as, bs, us]
  refine (minusB_ok S L.id L.ic (by omega) (by omega) od _ _).mono ?_
  rintro o h7 nx7 ⟨⟨c5, rfl, r5, i5, s5, l5⟩, e7⟩
  simp [f7, f8, f9, q1, bs, cs', f10, f11, q2, q3, as, us, ds]
  refine (unionB_ok S L.ib L.ic (by omega) (by omega) L.ob L.oc _ _).mono ?_
  rintro o h8 nx8 ⟨⟨c6, rfl, r6, i6, s6, l6⟩, e8⟩
  have z6 : ∀ n h, frzA n c6 h = (c6, h) := IsR.stb i6
  simp [q3, as, z6, f7, f8, f9, f10, f11, q1, q2, bs, cs', us, ds]
  refine (minusB_ok S L.ia i6 (by omega) (by omega) L.oa _ _).mono ?_
  rintro o h9 nx9 ⟨⟨c7, rfl, r7, i7, s7, l7⟩, e9⟩
  have z5 : ∀ n h, frzA n c5 h = (c5, h) := IsR.stb i5
  have z7 : ∀ n h, frzA n c7 h = (c7, h) := IsR.stb i7
  simp [q2, z5, z7, f7, f8, f9, f10, f11, q1, q3, as, bs, cs', us, ds]
  refine (same_congr S i5 i7 s5 s7 (fun y => by rw [s6.mem y, L.sd.mem y, not_or, and_assoc]) (fun y hy => od y hy.1) (by omega)).mono ?_
  rintro o h10 nx10 ⟨rfl, e10⟩
  simp
  refine hR _ _ _ ⟨?_, ?_, ?_, ?_, ?_⟩ ?_ (e1.trans (e2.trans (e3.trans (e4.trans (e5.trans (e6.trans (e7.trans (e8.trans (e9.trans e10)))))))))
  · simp [f7]
  · simp [f8]
  · simp [f9]
  · simp [f10]
  · simp [f11]
  · simp
theorem row18 (hlive : Pur C n_law13_lives [] (· = .ret (.bool true))) (L : Lists ca cb cc cu cd a b c ru rd) {h : T Blk} {nx : Key} {tm : T AV} (F : Slots ca cb cc cu cd tm) {R : Post}
    (hR : ∀ tm' h' nx', T.get (K 6) tm' = some (.bool true) → Ext h nx h' nx' → R .norm tm' h' nx') : wpC C (.ops law13_BranchAlgebra_r18) R tm h nx := by
  obtain ⟨f7, f8, f9, f10, f11⟩ := F
  have b1 := L.la
  have b2 := L.lb
  have b4 := L.lu
  have b5 := L.ld
  have q1 : C.raw n_branch_Union = false := S.raw _ (by decide)
  have q2 : C.raw n_ref13_Same = false := S.raw _ (by decide)
  have q3 : C.raw n_branch_Minus = false := S.raw _ (by decide)
  have q4 : C.raw n_law13_lives = false := S.raw _ (by decide)
  have as : ∀ n h, frzA n ca h = (ca, h) := IsR.stb L.ia
  have bs : ∀ n h, frzA n cb h = (cb, h) := IsR.stb L.ib
  have us : ∀ n h, frzA n cu h = (cu, h) := IsR.stb L.iu
  have ds : ∀ n h, frzA n cd h = (cd, h) := IsR.stb L.id
  have od : AllOk rd := fun y hy => L.oa y ((L.sd.mem y).1 hy).1
  simp [law13_BranchAlgebra_r18, f8, f11, q1, ds, bs, f7, f9, f10, q2, q3, as, us]
  refine (unionB_ok S L.id L.ib (by omega) (by omega) od L.ob _ _).mono ?_
  rintro o h1 nx1 ⟨⟨c1, rfl, r1, i1, s1, l1⟩, e1⟩
  have z1 : ∀ n h, frzA n c1 h = (c1, h) := IsR.stb i1
  simp [f10, q2, us, z1, f7, f8, f9, f11, q1, q3, as, bs, ds]
  refine (same_congr S i1 L.iu s1 L.su (fun y => ?_) (fun y hy => hy.elim (od y) (L.ob y)) (by omega)).mono ?_
  · rw [L.sd.mem y]
    by_cases hb : y ∈ b <;> simp [hb]
  rintro o h2 nx2 ⟨rfl, e2⟩
  simp [f7, q3, as, f8, f9, f10, f11, q1, q2, bs, us, ds]
  refine (minusB_ok S L.ia L.ia (by omega) (by omega) L.oa _ _).mono ?_
  rintro o h3 nx3 ⟨⟨c2, rfl, r2, i2, s2, l2⟩, e3⟩
  have hr2 : r2 = [] := by
    cases r2 with
    | nil => rfl
    | cons y r => exact absurd ((s2.mem y).1 (by simp)) (fun h => h.2 h.1)
  subst hr2
  rcases i2 with ⟨rfl, _⟩ | rfl
  all_goals
    simp [q4]
    refine (hlive _ _).mono ?_
    rintro o h4 nx4 ⟨rfl, e4⟩
    simp
    refine hR _ _ _ ?_ (e1.trans (e2.trans (e3.trans e4)))
    simp
end Tb
/-
  SB: the law of the algebra: whole. No condition.
-/
namespace Tb
open Go.Sx Go
variable {C : Cfg} (S : Std C)
include S
variable {ca cb cc cu cd : AV} {a b c ru rd : List Br}
theorem algLoop (L : Lists ca cb cc cu cd a b c ru rd) {us : List Br} (hus : us.length ≤ 100) {c12 : AV} {h : T Blk} {nx n0 : Key} {tm : T AV} (F : Slots ca cb cc cu cd tm) (f12 : T.get (K 12) tm = some c12) (f13 : T.get (K 13) tm = some (I 0)) (hA : Acc c12 us h nx n0) :
    W C (.loop law13_BranchAlgebra_l0) (fun e tm' h' nx' => e = .exit 0 ∧ T.get (K 7) tm' = some ca ∧ T.get (K 8) tm' = some cb ∧ T.get (K 9) tm' = some cc ∧ T.get (K 10) tm' = some cu ∧ T.get (K 11) tm' = some cd ∧ Ext h nx h' nx') tm h nx := by
  obtain ⟨f7, f8, f9, f10, f11⟩ := F
  have b4 := L.lu
  have b5 := L.ld
  rcases hA with ⟨k, rfl, rfl, hk, hlo, hlt⟩ | ⟨⟨rfl, hr, hl⟩ | ⟨k, rfl, hk, hlo, hlt, hll⟩ | ⟨t, rfl, ht, hlo, hlt⟩⟩
  · exact algLoop1 S (us := []) L.ia L.ib L.iu L.id L.la L.lb (by omega) (by omega) (by simp) L.oa L.su L.sd f7 f8 f10 f11 f12 f13 f9 hk hlt
  · refine W.unroll (W.of ?_)
    simp [law13_BranchAlgebra_l0]
    simp [law13_BranchAlgebra_r10, f12, f13]
    simp [f7, f8, f9, f10, f11]
    exact Ext.refl _ _
  · exact algLoop1 S L.ia L.ib L.iu L.id L.la L.lb (by omega) (by omega) hus L.oa L.su L.sd f7 f8 f10 f11 f12 f13 f9 hk hlt
  · exact algLoop2 S L.ia L.ib L.iu L.id L.la L.lb (by omega) (by omega) hus L.oa L.su L.sd f7 f8 f10 f11 f12 f13 f9
/- behind the lists -/
theorem alg_rest (hlive : Pur C n_law13_lives [] (· = .ret (.bool true))) (L : Lists ca cb cc cu cd a b c ru rd) {h : T Blk} {nx : Key} {tm : T AV} (F : Slots ca cb cc cu cd tm) {P : Out → T Blk → Key → Prop} (hP : ∀ h' nx', Ext h nx h' nx' → P (.ret (.bool true)) h' nx') :
    wpC C (.seq (.seq (.ops law13_BranchAlgebra_r6) (.cond (.t k41) (.seq (.ops law13_BranchAlgebra_r7) .ret) .skip)) (.seq (.ops law13_BranchAlgebra_r8) (.seq (.seq (.ops law13_BranchAlgebra_r9) (.block 0 (.loop law13_BranchAlgebra_l0)))
      (.seq (.seq (.ops law13_BranchAlgebra_r16) (.cond (.t k132) (.seq (.ops law13_BranchAlgebra_r17) .ret) .skip)) (.seq (.ops law13_BranchAlgebra_r18) .ret))))) (BodyP [.tmp (K 6)] P) tm h nx := by
  have b1 := L.la
  have b2 := L.lb
  have b3 := L.lc
  simp
  refine wpO_of (row6 S L F ?_)
  intro tm1 h1 nx1 F1 f41 e1
  simp [f41]
  refine wpO_of (row8 L.ia L.ib L.ic b1 b2 b3 F1.f7 F1.f8 F1.f9 ?_)
  intro tm2 c' h2 nx2 g7 g8 g9 g10 g11 g12 hA e2
  simp
  simp [law13_BranchAlgebra_r9]
  refine (algLoop S L (us := a ++ b ++ c) (by simp; omega) ⟨?_, ?_, ?_, ?_, ?_⟩ ?_ ?_ hA).mono ?_
  · simp [g7]
  · simp [g8]
  · simp [g9]
  · simp [g10, F1.f10]
  · simp [g11, F1.f11]
  · simp [g12]
  · simp
  rintro e tm3 h3 nx3 ⟨rfl, k7, k8, k9, k10, k11, e3⟩
  simp
  refine wpO_of (row16 S L ⟨k7, k8, k9, k10, k11⟩ ?_)
  intro tm4 h4 nx4 F4 f132 e4
  simp [f132]
  refine wpO_of (row18 S hlive L F4 ?_)
  intro tm5 h5 nx5 f6 e5
  simp [f6]
  exact hP _ _ (e1.trans (e2.trans (e3.trans (e4.trans e5))))
theorem algebra_ok (hlive : Pur C n_law13_lives [] (· = .ret (.bool true))) {x y z : AV} {l m n : List Int} (hx : IsR 1 eI x l) (hy : IsR 1 eI y m) (hz : IsR 1 eI z n) (hl : inR l) (hm : inR m) (hn : inR n) : Pur C n_law13_BranchAlgebra [x, y, z] (· = .ret (.bool true)) := by
  intro h nx
  have q1 : C.raw n_ref13_List = false := S.raw _ (by decide)
  have q2 : C.raw n_branch_Union = false := S.raw _ (by decide)
  have q3 : C.raw n_branch_Minus = false := S.raw _ (by decide)
  have xs : ∀ n h, frzA n x h = (x, h) := IsR.stb hx
  have ys : ∀ n h, frzA n y h = (y, h) := IsR.stb hy
  have zs : ∀ n h, frzA n z h = (z, h) := IsR.stb hz
  refine S.c_law13_BranchAlgebra.call ?_
  simp [law13_BranchAlgebra]
  simp [law13_BranchAlgebra_r0]
  simp [law13_BranchAlgebra_r1, q1, xs]
  refine (list_ok S hx hl _ _).mono ?_
  rintro o h1 nx1 ⟨⟨ca, rfl, ia⟩, e1⟩
  simp
  simp [law13_BranchAlgebra_r2, q1, ys]
  refine (list_ok S hy hm _ _).mono ?_
  rintro o h2 nx2 ⟨⟨cb, rfl, ib⟩, e2⟩
  simp
  simp [law13_BranchAlgebra_r3, q1, zs]
  refine (list_ok S hz hn _ _).mono ?_
  rintro o h3 nx3 ⟨⟨cc, rfl, ic⟩, e3⟩
  have as : ∀ n h, frzA n ca h = (ca, h) := IsR.stb ia
  have bs : ∀ n h, frzA n cb h = (cb, h) := IsR.stb ib
  have b1 := lst_len l
  have b2 := lst_len m
  have b3 := lst_len n
  simp
  simp [law13_BranchAlgebra_r4, q2, as, bs]
  refine (unionB_ok S ia ib (by omega) (by omega) (lst_ok l) (lst_ok m) _ _).mono ?_
  rintro o h4 nx4 ⟨⟨cu, rfl, ru, iu, su, lu⟩, e4⟩
  simp
  simp [law13_BranchAlgebra_r5, q3, as, bs]
  refine (minusB_ok S ia ib (by omega) (by omega) (lst_ok l) _ _).mono ?_
  rintro o h5 nx5 ⟨⟨cd, rfl, rd, id, sd, ld⟩, e5⟩
  have L : Lists ca cb cc cu cd (lst l) (lst m) (lst n) ru rd := ⟨ia, ib, ic, iu, id, b1, b2, b3, by omega, by omega, lst_ok l, lst_ok m, lst_ok n, su, sd⟩
  have eA := e1.trans (e2.trans (e3.trans (e4.trans e5)))
  have key := fun tm F => alg_rest S hlive L (h := h5) (nx := nx5) (tm := tm) F (P := fun o h' nx' => o = .ret (.bool true) ∧ Ext h nx h' nx') (fun h' nx' e => ⟨rfl, eA.trans e⟩)
  simp only [KO_ret, wpO_nil]
  simp
  simpa using key _ ⟨by simp, by simp, by simp, by simp, by simp⟩
end Tb
