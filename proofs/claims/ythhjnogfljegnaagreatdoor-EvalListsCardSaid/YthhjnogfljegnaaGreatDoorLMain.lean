/-
  SV: the law of lists. No condition.
-/
import Derived.Test.YthhjnogfljegnaaGreatDoorLLaw
import Derived.Test.YthhjnogfljegnaaGreatDoorRunA
set_option linter.unusedSimpArgs false
set_option linter.unusedVariables false
set_option linter.unusedSectionVars false
namespace Tz
open Go.Sx Go
/- known calls -/
structure Known (C : Cfg) : Prop where
  lives : ∀ h nx, C.sum n_law12_lives [] h nx = some (.bool true, h, nx)
  dec : ∀ (k : Nat), k < 5 → ∀ h nx, C.sum n_ref01_Decimal [I k] h nx = some (.str 1 (48 + k), h, nx)
  p0 : ∀ h nx, C.sum n_parser_ParseExpr [tx0] h nx = some (vP0, h, nx)
  p1 : ∀ h nx, C.sum n_parser_ParseExpr [tx1] h nx = some (vP1, h, nx)
  p2 : ∀ h nx, C.sum n_parser_ParseExpr [tx2] h nx = some (vP2, h, nx)
  p3 : ∀ h nx, C.sum n_parser_ParseExpr [tx3] h nx = some (vP3, h, nx)
  p4 : ∀ h nx, C.sum n_parser_ParseExpr [tx4] h nx = some (vP4, h, nx)
  p5 : ∀ h nx, C.sum n_parser_ParseExpr [tx5] h nx = some (vP5, h, nx)
  p6 : ∀ h nx, C.sum n_parser_ParseExpr [tx6] h nx = some (vP6, h, nx)
  p7 : ∀ h nx, C.sum n_parser_ParseExpr [tx7] h nx = some (vP7, h, nx)
  p8 : ∀ h nx, C.sum n_parser_ParseExpr [tx8] h nx = some (vP8, h, nx)
  p9 : ∀ h nx, C.sum n_parser_ParseExpr [tx9] h nx = some (vP9, h, nx)
  p10 : ∀ h nx, C.sum n_parser_ParseExpr [tx10] h nx = some (vP10, h, nx)
  p11 : ∀ h nx, C.sum n_parser_ParseExpr [tx11] h nx = some (vP11, h, nx)
theorem isE0 : IsE vE0 e0 := decE_ok 50 _ _ (by kernel_rfl)
theorem isE1 : IsE vE1 e1 := decE_ok 50 _ _ (by kernel_rfl)
theorem isE2 : IsE vE2 e2 := decE_ok 50 _ _ (by kernel_rfl)
theorem isE3 : IsE vE3 e3 := decE_ok 50 _ _ (by kernel_rfl)
theorem isE4 : IsE vE4 e4 := decE_ok 50 _ _ (by kernel_rfl)
theorem isE5 : IsE vE5 e5 := decE_ok 50 _ _ (by kernel_rfl)
theorem isE6 : IsE vE6 e6 := decE_ok 50 _ _ (by kernel_rfl)
theorem isE7 : IsE vE7 e7 := decE_ok 50 _ _ (by kernel_rfl)
theorem isE8 : IsE vE8 e8 := decE_ok 50 _ _ (by kernel_rfl)
theorem isE9 : IsE vE9 e9 := decE_ok 50 _ _ (by kernel_rfl)
theorem isE10 : IsE vE10 e10 := decE_ok 50 _ _ (by kernel_rfl)
theorem isE11 : IsE vE11 e11 := decE_ok 50 _ _ (by kernel_rfl)

theorem true_ev {s : Sc} {e : E} (h : True' s e) : ∃ st, ev LP M0 5100 (0, 0) s e st0 = .ok (boolV true) st := by
  obtain ⟨d, n, hd, hn, hc⟩ := h
  obtain ⟨st', h1, _⟩ := hc.2 5100 (0, 0) st0 (by omega) (by simp [st0]; omega)
  exact ⟨st', h1⟩
theorem comes_ev {s : Sc} {e : E} {d n : Nat} {v : V} (hc : Comes s e d n v) (hd : d ≤ 100) (hn : n ≤ 4000) : ∃ st, ev LP M0 5100 (0, 0) s e st0 = .ok v st := by
  obtain ⟨st', h1, _⟩ := hc.2 5100 (0, 0) st0 (by omega) (by simp [st0]; omega)
  exact ⟨st', h1⟩
theorem stops_ev {s : Sc} {e : E} {d n : Nat} {c : Int} (hc : Stops s e d n c) (hd : d ≤ 100) (hn : n ≤ 4000) : ∃ st, ev LP M0 5100 (0, 0) s e st0 = .stop c st := hc 5100 (0, 0) st0 (by omega) (by simp [st0]; omega)

variable {C : Cfg} (S : StdL C) (Kn : Known C)
include S Kn

/- the run of the k-th text for an element -/
theorem runK {vs : List V} {c : AV} (hc : IsK c vs) (hnum : ∀ v ∈ vs, isNum v) (hl : vs.length ≤ 5) {i x : Int} {m : Nat} (hi : i = m) (hm : m < vs.length) (hz : (listV vs).size ≤ 1073741824) (k : Nat) (hk : k < vs.length) (h : T Blk) (nx : Key) :
    CallA C n_law12_run [.str 19 (10947737093893965125404531468715694781537 + (48 + k) * 256 ^ 17 + 41 * 256 ^ 18), .agg [I 2, I 0, .str 0 0, c], I i, I x] h nx
      (fun o h' nx' => Fk h nx h' nx' ∧ ∃ l v, IsV l v ∧ isNum v ∧ (k ≠ m → v = vs[k]) ∧ o = .ret (.tuple [.agg l, I 0])) := by
  have go : ∀ (t : Nat) (le : List AV) (e : E), IsE le e → (e.k = 3 ∨ e.k = 9) → (∀ h nx, C.sum n_parser_ParseExpr [.str 19 t] h nx = some (.tuple [.agg le, I 0, I 0], h, nx)) → (∃ d n v, d ≤ 100 ∧ n ≤ 4000 ∧ Comes (scV vs i x) e d n v ∧ isNum v ∧ (k ≠ m → v = vs[k])) →
      CallA C n_law12_run [.str 19 t, .agg [I 2, I 0, .str 0 0, c], I i, I x] h nx (fun o h' nx' => Fk h nx h' nx' ∧ ∃ l v, IsV l v ∧ isNum v ∧ (k ≠ m → v = vs[k]) ∧ o = .ret (.tuple [.agg l, I 0])) := by
    intro t le e hE h39 hp hx
    obtain ⟨d, n, v, hd, hn, hcm, hv, hvk⟩ := hx
    obtain ⟨st, hev⟩ := comes_ev hcm hd hn
    refine (run_ok S hE h39 hp hc hz i x h nx).mono ?_
    rintro o h1 nx1 ⟨f1, hO⟩
    rw [hev] at hO
    obtain ⟨l, hlv, rfl⟩ := hO
    exact ⟨f1, l, v, hlv, hv, hvk, rfl⟩
  have hk5 : k < 5 := by omega
  rcases k with _ | _ | _ | _ | _ | k
  · exact go _ vE7 e7 isE7 (.inl rfl) Kn.p7 (t7 hnum hl hi hm hk)
  · exact go _ vE8 e8 isE8 (.inl rfl) Kn.p8 (t8 hnum hl hi hm hk)
  · exact go _ vE9 e9 isE9 (.inl rfl) Kn.p9 (t9 hnum hl hi hm hk)
  · exact go _ vE10 e10 isE10 (.inl rfl) Kn.p10 (t10 hnum hl hi hm hk)
  · exact go _ vE11 e11 isE11 (.inl rfl) Kn.p11 (t11 hnum hl hi hm hk)
  · omega
end Tz
/-
  SV: the law of lists, as a whole. No condition.
-/
namespace Tz
open Go.Sx Go
def LInv (vs : List V) (c : AV) (i x : Int) (k7 k10 : Key) (la : List AV) (h : T Blk) (nx : Key) (mm : Nat) (tm' : T AV) (h' : T Blk) (nx' : Key) : Prop :=
  ∃ (j : Nat), mm = vs.length - j ∧ j ≤ vs.length ∧ T.get (K 2) tm' = some (I x) ∧ T.get (K 7) tm' = some (.ptr k7 0) ∧ T.get (K 8) tm' = some (I vs.length) ∧ T.get (K 9) tm' = some (I i) ∧ T.get (K 10) tm' = some (.ptr k10 0) ∧ T.get (K 11) tm' = some (I 0) ∧ T.get (K 14) tm' = some (I j) ∧
    k7.toNat < nx'.toNat ∧ k10.toNat < nx'.toNat ∧ Fk h nx h' nx' ∧ T.get k7 h' = some (.cells [I 2, I 0, .str 0 0, c] .fix) ∧ T.get k10 h' = some (.cells la .fix)
theorem num_cells {l : List AV} {v : V} (h : IsV l v) (hv : isNum v) : ∃ n c, v = numV n ∧ l = [I 0, I n, .str 0 0, c] ∧ IsK c [] := by
  obtain ⟨n, rfl⟩ := hv
  obtain ⟨c, rfl, hK⟩ := h.cells
  exact ⟨n, c, rfl, rfl, hK⟩
variable {C : Cfg} (S : StdL C) (Kn : Known C)
include S Kn

theorem lists_loop {vs : List V} {cs : List AV} (hcs : IsVs cs vs) (hnum : ∀ v ∈ vs, isNum v) (hl : vs.length ≤ 5) {i x : Int} {m : Nat} (hi : i = m) (hm : m < vs.length) (hz : (listV vs).size ≤ 1073741824) {k7 k10 : Key} {la : List AV} {h : T Blk} {nx : Key} {tm : T AV} {h1 : T Blk} {nx1 : Key} {Q : Post}
    (hI : LInv vs (.sl cs vs.length 4 .any) i x k7 k10 la h nx vs.length tm h1 nx1) (hq : ∀ tm' h' nx', LInv vs (.sl cs vs.length 4 .any) i x k7 k10 la h nx 0 tm' h' nx' → Q (.exit 0) tm' h' nx') : W C (.loop law12_EvalLists_l0) Q tm h1 nx1 := by
  have hc : IsK (.sl cs vs.length 4 .any) vs := .inr ⟨cs, rfl, by omega, hcs⟩
  refine W.loopM (n := vs.length) (LInv vs (.sl cs vs.length 4 .any) i x k7 k10 la h nx) hI ?_
  rintro mm tm2 h2 nx2 ⟨j, rfl, hj, f2, f7, f8, f9, f10, f11, f14, l7, l10, F, g7, g10⟩
  have t2 := F.n
  refine W.of ?_
  simp [law12_EvalLists_l0]
  simp [law12_EvalLists_r11, f8, f14]
  refine ⟨fun hlt => ?_, fun hge => ?_⟩
  · have hjl : j < vs.length := by omega
    obtain ⟨st6, h6⟩ := true_ev (t6 (x := x) hnum hl hi hm)
    simp [law12_EvalLists_r12, f2, f7, f9, g7, S.e.raw]
    refine (holds_ok S isE6 (.inr rfl) Kn.p6 hc hz i x h6 _ _).mono ?_
    rintro o h3 nx3 ⟨f3, rfl⟩
    have t3 := f3.n
    have u3 := Key.toNat_succ nx3
    have g73 := (f3.g k7 (by omega) (by rw [g7]; trivial)).trans g7
    have g103 := (f3.g k10 (by omega) (by rw [g10]; trivial)).trans g10
    simp
    simp [law12_EvalLists_r13, f2, f7, f9, f14, g73, S.e.raw, List.filter_cons]
    refine .inl ⟨_, _, _, Kn.dec j (by omega) _ _, ?_⟩
    have hstr : (10947737093893965125404531468715694781537 + (48 + j) <<< 136 + 914330553139755548802964449178582821745197056 : Nat) = 10947737093893965125404531468715694781537 + (48 + j) * 256 ^ 17 + 41 * 256 ^ 18 := by
      rw [Nat.shiftLeft_eq, show (2 : Nat) ^ 136 = 256 ^ 17 from by kernel_rfl, show (41 * 256 ^ 18 : Nat) = 914330553139755548802964449178582821745197056 from by kernel_rfl]
    have hcq := IsK.beq hc
    simp [f7, g73, AV.beq, AV.beqs, SI.beq, S.e.raw, List.filter_cons] 
    have hq1 : AV.beqs cs cs = true := by simpa [AV.beq, sfBeq_refl] using hcq
    refine ⟨⟨hq1, sfBeq_refl _⟩, ?_⟩
    rw [hstr]
    refine (runK S Kn hc hnum hl hi hm hz j hjl _ _).mono ?_
    rintro o h4 nx4 ⟨f4, lb, vb, hlb, hvb, hvk, rfl⟩
    have t4 := f4.n
    have g74 := (f4.g k7 (by omega) (by rw [g73]; trivial)).trans g73
    have g104 := (f4.g k10 (by omega) (by rw [g103]; trivial)).trans g103
    obtain ⟨nb, cb, rfl, rfl, hKb⟩ := num_cells hlb hvb
    have hcb := IsK.cell hKb
    have hcb' : ∀ n h, frzA n cb h = (cb, h) := IsK.stb hKb
    simp [List.filter_cons, hcb]
    have gk7 : ∀ u t, T.get k7 (T.set nx3 u t) = T.get (α := Blk) k7 t := fun u t => get_lt (by omega)
    have gk10 : ∀ u t, T.get k10 (T.set nx3 u t) = T.get (α := Blk) k10 t := fun u t => get_lt (by omega)
    have hFa : ∀ (B : Option Blk), Fk h nx (T.set nx3 B h4) nx4 := by
      intro B
      refine ⟨by omega, fun bb hb hk => ?_⟩
      have k2 := F.g bb hb hk
      have k3 := f3.g bb (by omega) (by rw [k2]; exact hk)
      rw [get_lt (by omega), f4.g bb (by omega) (by rw [k3, k2]; exact hk), k3, k2]
    by_cases hjm : j = m
    · have hjm' : ((j : Int) == i) = true := by simp [hi, hjm]
      simp [law12_EvalLists_r14, f14, f9, hjm']
      simp [law12_EvalLists_r16, f14]
      refine ⟨vs.length - (j + 1), by omega, j + 1, rfl, by omega, by simp [f2], by simp [f7], by simp [f8], by simp [f9], by simp [f10], by simp [f11], ?_, by omega, by omega, hFa _, by rw [gk7]; exact g74, by rw [gk10]; exact g104⟩
      simp; rw [wrap_id (by omega) (by omega)]
    · have hjm' : ((j : Int) == i) = false := by simp [hi]; omega
      have hvb2 := hvk hjm
      obtain ⟨cj, ecj, hKj⟩ := hcs.at hjl
      rw [← hvb2] at ecj hKj
      have hcj' : ∀ n h, frzA n cj h = (cj, h) := IsK.stb hKj
      have h4' : 4 ≤ cs.length - j * 4 := by have := hcs.hc; omega
      have ecj' : List.take 4 (List.drop (j * 4) cs) = [I 0, I nb, .str 0 0, cj] := ecj
      simp [law12_EvalLists_r14, f7, f14, f9, hjm', gk7, g74, hjl, h4', ecj', S.e.raw, hcb', hcj']
      refine (equal_ok S nb hKb hKj _ _).mono ?_
      rintro o h5 nx5 ⟨rfl, e5⟩
      have t5 := e5.n
      simp
      simp [law12_EvalLists_r16, f14]
      refine ⟨vs.length - (j + 1), by omega, j + 1, rfl, by omega, by simp [f2], by simp [f7], by simp [f8], by simp [f9], by simp [f10], by simp [f11], ?_, by omega, by omega, (hFa _).trans (Fk.ext e5), ?_, ?_⟩
      · simp; rw [wrap_id (by omega) (by omega)]
      · rw [e5.g k7 (by omega), gk7]; exact g74
      · rw [e5.g k10 (by omega), gk10]; exact g104
  · have hjl : j = vs.length := by omega
    subst hjl
    exact hq _ _ _ ⟨vs.length, by simp, by omega, by simp [f2], by simp [f7], by simp [f8], by simp [f9], by simp [f10], by simp [f11], by simp [f14], l7, l10, F, g7, g10⟩
end Tz
/-
  SV: the law of lists returns true. No condition.
-/
namespace Tz
open Go.Sx Go
variable {C : Cfg} (S : StdL C) (Kn : Known C)
include S Kn

theorem lists_ok {cl : AV} {l : List Int} (hcl : IsNs cl l) (hl : inR l) (at_ x : Int) (ha : -9223372036854775808 ≤ at_ ∧ at_ < 9223372036854775808) (h : T Blk) (nx : Key) :
    CallA C n_law12_EvalLists [cl, I at_, I x] h nx (fun o _ _ => o = .ret (.bool true)) := by
  have hcl' : ∀ n h, frzA n cl h = (cl, h) := IsNs.stb S hcl
  refine S.lists.call ?_
  simp [law12_EvalLists]
  simp [law12_EvalLists_r0]
  simp [law12_EvalLists_r1, S.e.raw, hcl']
  refine (ints_ok S hcl hl _ _).mono ?_
  rintro o h1 nx1 ⟨⟨vs, c, hvl, hnum, hc, rfl⟩, e1⟩
  have hc' : ∀ n h, frzA n c h = (c, h) := IsK.stb hc
  have hcc := IsK.cell hc
  have u1 := Key.toNat_succ nx1
  have hz : (listV vs).size ≤ 1073741824 := by rw [listV, V.size, sizes_num hnum]; omega
  obtain ⟨a0, a1⟩ := arF_low ha.1 ha.2 (m := 9) (by omega)
  simp [hcc]
  -- from the length on
  have main : ∀ tm, T.get (K 1) tm = some (I at_) → T.get (K 2) tm = some (I x) → T.get (K 7) tm = some (.ptr nx1 0) → T.get (K 8) tm = some (I vs.length) →
      wpC C (.seq (.ops law12_EvalLists_r3) (.seq (.seq (.ops law12_EvalLists_r4) (.cond (.t (K 51)) (.seq (.ops law12_EvalLists_r5) .ret) .skip)) (.seq (.ops law12_EvalLists_r6) (.seq (.ops law12_EvalLists_r7) (.seq (.seq (.ops law12_EvalLists_r8) (.cond (.t (K 72)) (.seq (.ops law12_EvalLists_r9) .ret) .skip))
        (.seq (.seq (.ops law12_EvalLists_r10) (.block 0 (.loop law12_EvalLists_l0))) (.seq (.staged law12_EvalLists_r17 ⟨[K 123, K 124, K 125, K 126, K 127, K 128, K 129, K 130, K 131, K 132, K 133, K 134, K 135, K 136, K 6], []⟩) .ret)))))))
        (BodyP [.tmp (K 6)] (fun o _ _ => o = .ret (.bool true))) tm (T.set nx1 (some (.cells [I 2, I 0, .str 0 0, c] .fix)) h1) nx1.succ := by
    intro tm f1 f2 f7 f8
    simp [law12_EvalLists_r3, f1, S.e.raw]
    refine (around_ok S _ 9 (by omega) _ _).mono ?_
    rintro o h2 nx2 ⟨rfl, e2⟩
    have t2 := e2.n
    have hw : wrapF .i64 (arF at_ 9 - 2) = arF at_ 9 - 2 := wrap_id (by omega) (by omega)
    simp [hw]
    generalize hi : arF at_ 9 - 2 = i
    have g2 := e2.g nx1 (by omega)
    simp at g2
    obtain ⟨s0', v0⟩ := true_ev (Go.Sx.t0 (i := i) (x := x) hnum hvl)
    obtain ⟨s1', v1⟩ := true_ev (Go.Sx.t1 (i := i) (x := x) hnum hvl)
    obtain ⟨s2', v2⟩ := true_ev (Go.Sx.t2 (i := i) (x := x) hnum hvl)
    obtain ⟨s3', v3⟩ := true_ev (Go.Sx.t3 (i := i) (x := x) hnum hvl)
    simp [law12_EvalLists_r4, f7, f2, g2, S.e.raw, hc']
    refine (holds_ok S isE0 (.inr rfl) Kn.p0 hc hz i x v0 _ _).mono ?_
    rintro o h3 nx3 ⟨f3, rfl⟩
    have t3 := f3.n
    have g3 := (f3.g nx1 (by omega) (by rw [g2]; trivial)).trans g2
    simp [f7, f2, g3, S.e.raw, hc']
    refine (holds_ok S isE1 (.inr rfl) Kn.p1 hc hz i x v1 _ _).mono ?_
    rintro o h4 nx4 ⟨f4, rfl⟩
    have t4 := f4.n
    have g4 := (f4.g nx1 (by omega) (by rw [g3]; trivial)).trans g3
    simp [f7, f2, g4, S.e.raw, hc']
    refine (holds_ok S isE2 (.inr rfl) Kn.p2 hc hz i x v2 _ _).mono ?_
    rintro o h5 nx5 ⟨f5, rfl⟩
    have t5 := f5.n
    have g5 := (f5.g nx1 (by omega) (by rw [g4]; trivial)).trans g4
    simp [f7, f2, g5, S.e.raw, hc']
    refine (holds_ok S isE3 (.inr rfl) Kn.p3 hc hz i x v3 _ _).mono ?_
    rintro o h6 nx6 ⟨f6, rfl⟩
    have t6 := f6.n
    have g6 := (f6.g nx1 (by omega) (by rw [g5]; trivial)).trans g5
    simp
    simp [law12_EvalLists_r6, f7, f2, g6, S.e.raw, hc']
    refine (run_ok S isE4 (.inl rfl) Kn.p4 hc hz i x _ _).mono ?_
    rintro o h7 nx7 ⟨f7', hO7⟩
    have t7' := f7'.n
    have u7 := Key.toNat_succ nx7
    have g7 := (f7'.g nx1 (by omega) (by rw [g6]; trivial)).trans g6
    by_cases hout : i < 0 ∨ (vs.length : Int) ≤ i
    · obtain ⟨d4, n4, hd4, hn4, hs4⟩ := t4s (x := x) hnum hvl hout
      obtain ⟨s4', v4⟩ := stops_ev hs4 hd4 hn4
      obtain ⟨d5, n5, hd5, hn5, hs5⟩ := t5s (x := x) hnum hvl hout
      obtain ⟨s5', v5⟩ := stops_ev hs5 hd5 hn5
      rw [v4] at hO7
      have hO7 : o = .ret (.tuple [.agg [I 0, I 0, .str 0 0, .nils], I 13]) := hO7
      subst hO7
      simp
      have g7b : T.get nx1 (T.set nx7 (some (.cells [I 0, I 0, .str 0 0, .nils] .fix)) h7) = some (.cells [I 2, I 0, .str 0 0, c] .fix) := by rw [get_lt (by omega)]; exact g7
      simp [law12_EvalLists_r7, f7, f2, g7b, S.e.raw, hc']
      refine (run_ok S isE5 (.inl rfl) Kn.p5 hc hz i x _ _).mono ?_
      rintro o h8 nx8 ⟨f8', hO8⟩
      rw [v5] at hO8
      have hO8 : o = .ret (.tuple [.agg [I 0, I 0, .str 0 0, .nils], I 13]) := hO8
      subst hO8
      simp
      by_cases h0 : i < 0
      · simp [law12_EvalLists_r8, h0]
        simp [law12_EvalLists_r9, S.e.raw]
        refine .inl ⟨_, _, _, Kn.lives _ _, ?_⟩
        simp
      · have h1' : (vs.length : Int) ≤ i := by omega
        have h2' : ¬ i < vs.length := by omega
        simp [law12_EvalLists_r8, f8, h0, h1', h2']
        simp [law12_EvalLists_r9, S.e.raw]
        refine .inl ⟨_, _, _, Kn.lives _ _, ?_⟩
        simp
    · obtain ⟨m, hm⟩ := Int.eq_ofNat_of_zero_le (show 0 ≤ i by omega)
      have hml : m < vs.length := by omega
      obtain ⟨d4, n4, hd4, hn4, hs4⟩ := t4c (x := x) hnum hvl hm hml
      obtain ⟨s4', v4⟩ := comes_ev hs4 hd4 hn4
      obtain ⟨d5, n5, hd5, hn5, hs5⟩ := t5c (x := x) hnum hvl hm hml
      obtain ⟨s5', v5⟩ := comes_ev hs5 hd5 hn5
      rw [v4] at hO7
      obtain ⟨la, hla, rfl⟩ := hO7
      obtain ⟨na, ca, hna, rfl, hKa⟩ := num_cells hla (hnum _ (List.getElem_mem hml))
      have hcca := IsK.cell hKa
      have hca' : ∀ n h, frzA n ca h = (ca, h) := IsK.stb hKa
      simp [hcca]
      have g7b : T.get nx1 (T.set nx7 (some (.cells [I 0, I na, .str 0 0, ca] .fix)) h7) = some (.cells [I 2, I 0, .str 0 0, c] .fix) := by rw [get_lt (by omega)]; exact g7
      simp [law12_EvalLists_r7, f7, f2, g7b, S.e.raw, hc']
      refine (run_ok S isE5 (.inl rfl) Kn.p5 hc hz i x _ _).mono ?_
      rintro o h8 nx8 ⟨f8', hO8⟩
      have t8 := f8'.n
      have u8 := Key.toNat_succ nx8
      rw [v5] at hO8
      obtain ⟨lb, hlb, rfl⟩ := hO8
      obtain ⟨cb, rfl, hKb⟩ := hlb.cells
      have hccb := IsK.cell hKb
      have g8 := (f8'.g nx1 (by omega) (by rw [g7b]; trivial)).trans g7b
      have w8 := f8'.g nx7 (by omega) (by simp; trivial)
      simp at w8
      simp [hccb]
      have h0 : ¬ i < 0 := by omega
      have h1' : ¬ (vs.length : Int) ≤ i := by omega
      have h2' : i < vs.length := by omega
      simp [law12_EvalLists_r8, f8, h0, h1', h2']
      simp [law12_EvalLists_r10]
      rcases id hc with ⟨rfl, hx⟩ | ⟨cs, rfl, hvl4, hcs⟩
      · simp [hx] at hml
      · refine lists_loop S Kn hcs hnum hvl (x := x) hm hml hz (k7 := nx1) (k10 := nx7) (la := [I 0, I na, .str 0 0, ca]) (h := h8) (nx := nx8) ?_ ?_
        · refine ⟨0, by simp, by omega, ?_, ?_, ?_, ?_, ?_, ?_, ?_, by omega, by omega, ?_, ?_, ?_⟩
          · simp [f2]
          · simp [f7]
          · simp [f8]
          · simp
          · simp
          · simp
          · simp
          · exact Fk.ext (E0 _ _ _)
          · rw [get_lt (by omega)]; exact g8
          · rw [get_lt (by omega)]; exact w8
        · rintro tm' h9 nx9 ⟨j, _, _, b2, b7, b8, b9, b10, b11, b14, l7, l10, F9, g9, w9⟩
          obtain ⟨cj, ecj, hKj⟩ := hcs.at hml
          rw [hna] at ecj hKj
          have hcj' : ∀ n h, frzA n cj h = (cj, h) := IsK.stb hKj
          have h4' : 4 ≤ cs.length - m * 4 := by have := hcs.hc; omega
          have ecj' : List.take 4 (List.drop (m * 4) cs) = [I 0, I na, .str 0 0, cj] := ecj
          subst hm
          simp [law12_EvalLists_r17, b11, b10, b7, b9, g9, w9, hml, h4', ecj', S.e.raw, hca', hcj']
          refine (equal_ok S na hKa hKj _ _).mono ?_
          rintro o h10 nx10 ⟨rfl, e10⟩
          simp [S.e.raw]
          refine .inl ⟨_, _, _, Kn.lives _ _, ?_⟩
          simp
  rcases id hc with ⟨rfl, hx⟩ | ⟨cs, rfl, hvl4, hcs⟩
  · simp [law12_EvalLists_r2]
    have := main
    simp [hx] at this
    refine this _ ?_ ?_ ?_ ?_ <;> simp
  · simp [law12_EvalLists_r2]
    have := main
    simp at this
    refine this _ ?_ ?_ ?_ ?_ <;> simp
end Tz
