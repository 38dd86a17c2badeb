/-
  SV: the law of integers returns true. No condition.
-/
import Derived.Test.YthhjnogfljegnaaGreatDoorLLaw
import Derived.Test.YthhjnogfljegnaaGreatDoorRunA
set_option linter.unusedSimpArgs false
set_option linter.unusedVariables false
set_option linter.unusedSectionVars false
namespace Tz
open Go.Sx Go
/- known calls -/
structure Known (C : Cfg) : Prop where
  lives : ∀ h nx, C.sum n_law12_lives [] h nx = some (.bool true, h, nx)
  p0 : ∀ h nx, C.sum n_parser_ParseExpr [tx0] h nx = some (vP0, h, nx)
  p1 : ∀ h nx, C.sum n_parser_ParseExpr [tx1] h nx = some (vP1, h, nx)
  p2 : ∀ h nx, C.sum n_parser_ParseExpr [tx2] h nx = some (vP2, h, nx)
  p3 : ∀ h nx, C.sum n_parser_ParseExpr [tx3] h nx = some (vP3, h, nx)
  p4 : ∀ h nx, C.sum n_parser_ParseExpr [tx4] h nx = some (vP4, h, nx)
  p5 : ∀ h nx, C.sum n_parser_ParseExpr [tx5] h nx = some (vP5, h, nx)
  p6 : ∀ h nx, C.sum n_parser_ParseExpr [tx6] h nx = some (vP6, h, nx)
theorem isE0 : IsE vE0 e0 := decE_ok 50 _ _ (by kernel_rfl)
theorem isE1 : IsE vE1 e1 := decE_ok 50 _ _ (by kernel_rfl)
theorem isE2 : IsE vE2 e2 := decE_ok 50 _ _ (by kernel_rfl)
theorem isE3 : IsE vE3 e3 := decE_ok 50 _ _ (by kernel_rfl)
theorem isE4 : IsE vE4 e4 := decE_ok 50 _ _ (by kernel_rfl)
theorem isE5 : IsE vE5 e5 := decE_ok 50 _ _ (by kernel_rfl)
theorem isE6 : IsE vE6 e6 := decE_ok 50 _ _ (by kernel_rfl)

theorem true_ev {s : Sc} {e : E} (h : True' s e) : ∃ st, ev LP M0 5100 (0, 0) s e st0 = .ok (boolV true) st := by
  obtain ⟨d, n, hd, hn, hc⟩ := h
  obtain ⟨st', h1, _⟩ := hc.2 5100 (0, 0) st0 (by omega) (by simp [st0]; omega)
  exact ⟨st', h1⟩
theorem comes_ev {s : Sc} {e : E} {d n : Nat} {v : V} (hc : Comes s e d n v) (hd : d ≤ 100) (hn : n ≤ 4000) : ∃ st, ev LP M0 5100 (0, 0) s e st0 = .ok v st := by
  obtain ⟨st', h1, _⟩ := hc.2 5100 (0, 0) st0 (by omega) (by simp [st0]; omega)
  exact ⟨st', h1⟩

variable {C : Cfg} (S : StdI C) (Kn : Known C)
include S Kn

/- a run that comes to a number -/
theorem runN {a b : Nat} {le : List AV} {e : E} (hE : IsE le e) (h39 : e.k = 3 ∨ e.k = 9) (hp : ∀ h nx, C.sum n_parser_ParseExpr [.str a b] h nx = some (.tuple [.agg le, I 0, I 0], h, nx)) (i x : Int) {z : Int} {d n : Nat} (hc : Comes (scV [] i x) e d n (numV z)) (hd : d ≤ 100) (hn : n ≤ 4000) (h : T Blk) (nx : Key) :
    CallA C n_law12_run [.str a b, .agg [I 2, I 0, .str 0 0, .nils], I i, I x] h nx (fun o h' nx' => Fk h nx h' nx' ∧ ∃ c, IsK c [] ∧ o = .ret (.tuple [.agg [I 0, I z, .str 0 0, c], I 0])) := by
  obtain ⟨st, hev⟩ := comes_ev hc hd hn
  refine (run_ok S hE h39 hp (c := .nils) (vs := []) (.inl ⟨rfl, rfl⟩) (by simp [listV, V.size, V.sizes]) i x h nx).mono ?_
  rintro o h1 nx1 ⟨f1, hO⟩
  rw [hev] at hO
  obtain ⟨l, hlv, rfl⟩ := hO
  obtain ⟨c, rfl, hK⟩ := hlv.cells
  exact ⟨f1, c, hK, rfl⟩
theorem holdsN {a b : Nat} {le : List AV} {e : E} (hE : IsE le e) (h39 : e.k = 3 ∨ e.k = 9) (hp : ∀ h nx, C.sum n_parser_ParseExpr [.str a b] h nx = some (.tuple [.agg le, I 0, I 0], h, nx)) (i x : Int) (ht : True' (scV [] i x) e) (h : T Blk) (nx : Key) :
    CallA C n_law12_holds [.str a b, .agg [I 2, I 0, .str 0 0, .nils], I i, I x] h nx (fun o h' nx' => Fk h nx h' nx' ∧ o = .ret (.bool true)) := by
  obtain ⟨st, hev⟩ := true_ev ht
  exact holds_ok S hE h39 hp (c := .nils) (vs := []) (.inl ⟨rfl, rfl⟩) (by simp [listV, V.size, V.sizes]) i x hev h nx
end Tz
/-
  SV: the law of integers, its second part. No condition.
-/
namespace Tz
open Go.Sx Go
def scAB (va vb : V) : Sc := [((1, 98), vb), ((1, 97), va)]
variable {C : Cfg} (S : StdI C) (Kn : Known C)
include S Kn

/- from the parse of a == b on -/
theorem partC {la lb : List AV} {va vb : V} (ha : IsV la va) (hb : IsV lb vb) (za : va.size ≤ 13) (zb : vb.size ≤ 13) {ka kb : Key} {tm : T AV} {h : T Blk} {nx : Key} (f7 : T.get (K 7) tm = some (.ptr ka 0)) (f8 : T.get (K 8) tm = some (.ptr kb 0)) (ga : T.get ka h = some (.cells la .fix)) (gb : T.get kb h = some (.cells lb .fix)) (ta : ka.toNat < nx.toNat) (tb : kb.toNat < nx.toNat) :
    wpC C (.seq (.ops law12_EvalIntegers_r13) (.seq (.staged law12_EvalIntegers_r14 ⟨[K 127, K 128, K 129, K 130, K 131, K 132, K 133, K 134, K 135, K 136, K 126, K 137, K 138, K 139, K 140, K 19, K 20, K 21, K 22], []⟩)
      (.seq (.staged law12_EvalIntegers_r15 ⟨[K 141, K 142, K 143, K 144, K 145, K 146, K 147, K 148, K 149, K 150, K 151, K 152, K 153, K 154, K 155, K 6], []⟩) .ret))) (BodyP [.tmp (K 6)] (fun o _ _ => o = .ret (.bool true))) tm h nx := by
  have ha0 := ha
  have hb0 := hb
  obtain ⟨ca, rfl, hKa⟩ := ha.cells
  obtain ⟨cb, rfl, hKb⟩ := hb.cells
  have ca' : ∀ n h, frzA n ca h = (ca, h) := IsK.stb hKa
  have cb' : ∀ n h, frzA n cb h = (cb, h) := IsK.stb hKb
  have cca := IsK.cell hKa
  have ccb := IsK.cell hKb
  have cqa := IsK.beq hKa
  have cqb := IsK.beq hKb
  have cla := IsK.cells hKa
  have clb := IsK.cells hKb
  obtain ⟨cn, cs, ck, hle, s1, s2, s3, i1, i2, i3, b1, b2, b3⟩ := IsE.ready isE6
  have s1' : ∀ n h, frzA n cn h = (cn, h) := s1
  have s2' : ∀ n h, frzA n cs h = (cs, h) := s2
  have s3' : ∀ n h, frzA n ck h = (ck, h) := s3
  have u1 := Key.toNat_succ nx
  have u2 := Key.toNat_succ nx.succ
  have u3 := Key.toNat_succ nx.succ.succ
  have u4 := Key.toNat_succ nx.succ.succ.succ
  have hp : ∀ h nx, C.sum n_parser_ParseExpr [.str 6 107890605891681] h nx = some (.tuple [.agg [I e6.k, SA e6.name, I e6.n, cn, cs, ck, I e6.at_], I 0, I 0], h, nx) := by
    rw [← hle]; exact Kn.p6
  simp [law12_EvalIntegers_r13, S.e.raw]
  refine .inl ⟨_, _, _, hp _ _, ?_⟩
  simp [i1, i2, i3]
  have ga1 : ∀ u t, T.get ka (T.set nx u t) = T.get (α := Blk) ka t := fun u t => get_lt (by omega)
  have gb1 : ∀ u t, T.get kb (T.set nx u t) = T.get (α := Blk) kb t := fun u t => get_lt (by omega)
  simp [law12_EvalIntegers_r14, f7, f8, ga1, gb1, ga, gb, S.e.raw, List.filter_cons, cca, ccb, cla, clb]
  refine (plenty_ok S _ _).mono ?_
  rintro o h1 nx1 ⟨rfl, e1⟩
  have t1 := e1.n
  have q0 := e1.g nx (by omega)
  have qa := e1.g ka (by omega)
  have qb := e1.g kb (by omega)
  simp [ga1, gb1, ga, gb] at q0 qa qb
  have hfz : frzA 8 (.slice nx.succ 0 2 5) (T.set nx.succ (some (.cells [.str 1 97, I va.k, I va.n, .str va.a va.b, ca, .str 1 98, I vb.k, I vb.n, .str vb.a vb.b, cb] .fix)) h1)
      = (.sl [.str 1 97, I va.k, I va.n, .str va.a va.b, ca, .str 1 98, I vb.k, I vb.n, .str vb.a vb.b, cb] 2 5 .any, T.set nx.succ (some (.cells [.str 1 97, I va.k, I va.n, .str va.a va.b, ca, .str 1 98, I vb.k, I vb.n, .str vb.a vb.b, cb] .ro)) h1) := by
    rw [frz_fix (l := [.str 1 97, I va.k, I va.n, .str va.a va.b, ca, .str 1 98, I vb.k, I vb.n, .str vb.a vb.b, cb]) (by simp) rfl ?_, set_set]
    have j1 : ∀ n : Int, Stb (I n) := fun n k h => by cases k <;> rfl
    intro y hy
    simp at hy
    rcases hy with rfl | rfl | rfl | rfl | rfl | rfl | rfl | rfl | rfl | rfl
    all_goals first | exact j1 _ | exact stb_str _ _ | exact IsK.stb hKa | exact IsK.stb hKb
  simp [q0, qa, qb, f7, f8, AV.beq, AV.beqs, SI.beq, cqa, cqb, b1, b2, b3, S.e.raw, hfz, s1', s2', s3', List.filter_cons]
  have henv : IsEnv (.sl [.str 1 97, I va.k, I va.n, .str va.a va.b, ca, .str 1 98, I vb.k, I vb.n, .str vb.a vb.b, cb] 2 5 .any) [((1, 97), va), ((1, 98), vb)] := by
    refine .inr ⟨_, rfl, by simp, ⟨by simp, fun k hk => ?_⟩⟩
    rcases k with _ | _ | k
    · exact ⟨ca, hKa, by simp⟩
    · exact ⟨cb, hKb, by simp⟩
    · simp at hk; omega
  have hcall := expr0_ok S.e (fu := 5000) (ro := 1000) (se := 0) (att := 0) (by omega) (by omega) (by omega) (by omega) (gas := 5100) (by omega) henv (by
    intro y hy
    simp at hy
    rcases hy with rfl | rfl
    · simp; omega
    · simp; omega) isE6 (.inr rfl) (T.set nx.succ (some (.cells [.str 1 97, I va.k, I va.n, .str va.a va.b, ca, .str 1 98, I vb.k, I vb.n, .str vb.a vb.b, cb] .ro)) h1) nx1
  have hrev : ([((1, 97), va), ((1, 98), vb)] : Sc).reverse = scAB va vb := rfl
  rw [hrev, hle] at hcall
  refine hcall.mono ?_
  rintro o h2 nx2 ⟨f2, hO⟩
  have t2 := f2.n
  have hO : ResOut (ev LP M0 5100 (0, 0) (scAB va vb) e6 st0) o := hO
  have sa : smallV va := ⟨by omega, fun hh => by
    have := V.size_eq va
    have h3 : ∀ l : List V, l.length ≤ V.sizes l := by
      intro l
      induction l with
      | nil => simp
      | cons v l ih => have := V.size_eq v; rw [V.sizes]; simp; omega
    have := h3 va.kids
    omega⟩
  have sb : smallV vb := ⟨by omega, fun hh => by
    have := V.size_eq vb
    have h3 : ∀ l : List V, l.length ≤ V.sizes l := by
      intro l
      induction l with
      | nil => simp
      | cons v l ih => have := V.size_eq v; rw [V.sizes]; simp; omega
    have := h3 vb.kids
    omega⟩
  obtain ⟨st6, hev⟩ := comes_ev (Go.Sx.t6 sa sb) (by omega) (by omega)
  have hev' : ev LP M0 5100 (0, 0) (scAB va vb) e6 st0 = .ok (boolV (va.cmp vb == 0)) st6 := hev
  rw [hev'] at hO
  obtain ⟨lv, cb3, hv, hB, rfl⟩ := hO
  obtain ⟨c2, rfl, hK⟩ := hv.cells
  have hcc2 := IsK.cell hK
  have hbf : ∀ n h, frzA n cb3 h = (cb3, h) := (IsBrs.stb S.e hB).1
  have na : ka ≠ nx.succ := fun e => by rw [e] at ta; omega
  have nb : kb ≠ nx.succ := fun e => by rw [e] at tb; omega
  have wa := f2.g ka (by omega) (by rw [T.get_set_ne _ _ _ _ na, qa]; trivial)
  have wb := f2.g kb (by omega) (by rw [T.get_set_ne _ _ _ _ nb, qb]; trivial)
  rw [T.get_set_ne _ _ _ _ na, qa] at wa
  rw [T.get_set_ne _ _ _ _ nb, qb] at wb
  simp [List.filter_cons, hcc2]
  have xa2 : ∀ u t, T.get ka (T.set nx.succ.succ u t) = T.get (α := Blk) ka t := fun u t => get_lt (by omega)
  have xa3 : ∀ u t, T.get ka (T.set nx.succ.succ.succ u t) = T.get (α := Blk) ka t := fun u t => get_lt (by omega)
  have xb2 : ∀ u t, T.get kb (T.set nx.succ.succ u t) = T.get (α := Blk) kb t := fun u t => get_lt (by omega)
  have xb3 : ∀ u t, T.get kb (T.set nx.succ.succ.succ u t) = T.get (α := Blk) kb t := fun u t => get_lt (by omega)
  simp [law12_EvalIntegers_r15, f7, f8, xa2, xa3, xb2, xb3, wa, wb, S.e.raw, ca', cb']
  refine (compare_ok S.e ha0 hb0 _ _).mono ?_
  rintro o h3 nx3 ⟨rfl, e3⟩
  have t3 := e3.n
  have w3 := e3.g nx.succ.succ (by omega)
  simp at w3
  have hn : ((boolV (va.cmp vb == 0)).n == 1) = (va.cmp vb == 0) := by
    cases va.cmp vb == 0 <;> rfl
  simp [w3, hn, S.e.raw]
  refine .inl ⟨_, _, _, Kn.lives _ _, ?_⟩
  simp
end Tz
/-
  SV: the law of integers returns true. No condition.
-/
namespace Tz
open Go.Sx Go
variable {C : Cfg} (S : StdI C) (Kn : Known C)
include S Kn

/- from the validity of the values on -/
theorem partB {la lb : List AV} {va vb : V} (ha : IsV la va) (hb : IsV lb vb) (za : va.size ≤ 13) (zb : vb.size ≤ 13) (sna : Sane va) (snb : Sane vb) {ka kb : Key} {tm : T AV} {h : T Blk} {nx : Key} (f7 : T.get (K 7) tm = some (.ptr ka 0)) (f8 : T.get (K 8) tm = some (.ptr kb 0)) (ga : T.get ka h = some (.cells la .fix)) (gb : T.get kb h = some (.cells lb .fix)) (ta : ka.toNat < nx.toNat) (tb : kb.toNat < nx.toNat) :
    wpC C (.seq (.seq (.ops law12_EvalIntegers_r11) (.cond (.t (K 119)) (.seq (.ops law12_EvalIntegers_r12) .ret) .skip)) (.seq (.ops law12_EvalIntegers_r13) (.seq (.staged law12_EvalIntegers_r14 ⟨[K 127, K 128, K 129, K 130, K 131, K 132, K 133, K 134, K 135, K 136, K 126, K 137, K 138, K 139, K 140, K 19, K 20, K 21, K 22], []⟩)
      (.seq (.staged law12_EvalIntegers_r15 ⟨[K 141, K 142, K 143, K 144, K 145, K 146, K 147, K 148, K 149, K 150, K 151, K 152, K 153, K 154, K 155, K 6], []⟩) .ret)))) (BodyP [.tmp (K 6)] (fun o _ _ => o = .ret (.bool true))) tm h nx := by
  have ha0 := ha
  have hb0 := hb
  obtain ⟨ca, rfl, hKa⟩ := ha.cells
  obtain ⟨cb, rfl, hKb⟩ := hb.cells
  have ca' : ∀ n h, frzA n ca h = (ca, h) := IsK.stb hKa
  have cb' : ∀ n h, frzA n cb h = (cb, h) := IsK.stb hKb
  simp [law12_EvalIntegers_r11, f7, f8, ga, gb, S.e.raw, ca', cb']
  refine (valid_ok S ha0 sna _ _).mono ?_
  rintro o h1 nx1 ⟨⟨e1, rfl⟩, x1⟩
  have t1 := x1.n
  have ga1 := (x1.g ka ta).trans ga
  have gb1 := (x1.g kb tb).trans gb
  by_cases n1 : e1 = 0
  · subst n1
    simp [f7, f8, ga1, gb1, S.e.raw, ca', cb']
    refine (valid_ok S hb0 snb _ _).mono ?_
    rintro o h2 nx2 ⟨⟨e2, rfl⟩, x2⟩
    have t2 := x2.n
    have ga2 := (x2.g ka (by omega)).trans ga1
    have gb2 := (x2.g kb (by omega)).trans gb1
    by_cases n2 : e2 = 0
    · subst n2
      simp [f7, f8, ga2, gb2, S.e.raw, ca', cb']
      refine (size_ok S.e ha0 (by omega) _ _).mono ?_
      rintro o h3 nx3 ⟨rfl, x3⟩
      have t3 := x3.n
      have ga3 := (x3.g ka (by omega)).trans ga2
      have gb3 := (x3.g kb (by omega)).trans gb2
      have l1 : ¬ (900 : Int) < va.size := by omega
      simp [f7, f8, ga3, gb3, S.e.raw, ca', cb', l1]
      refine (size_ok S.e hb0 (by omega) _ _).mono ?_
      rintro o h4 nx4 ⟨rfl, x4⟩
      have t4 := x4.n
      have ga4 := (x4.g ka (by omega)).trans ga3
      have gb4 := (x4.g kb (by omega)).trans gb3
      have l2 : ¬ (900 : Int) < vb.size := by omega
      simp [l2]
      have := fun tm f7 f8 => partC S Kn ha0 hb0 za zb (ka := ka) (kb := kb) (tm := tm) f7 f8 ga4 gb4 (nx := nx4) (by omega) (by omega)
      simp at this
      refine this _ ?_ ?_ <;> simp [f7, f8]
    · have m2 : (e2 == 0) = false := by simpa using n2
      simp [n2, m2]
      simp [law12_EvalIntegers_r12, S.e.raw]
      refine .inl ⟨_, _, _, Kn.lives _ _, ?_⟩
      simp
  · have m1 : (e1 == 0) = false := by simpa using n1
    simp [n1, m1]
    simp [law12_EvalIntegers_r12, S.e.raw]
    refine .inl ⟨_, _, _, Kn.lives _ _, ?_⟩
    simp

theorem ints_ok {cl : AV} {l : List Int} (hcl : IsNs cl l) (hl : inR l) (i x : Int) (h : T Blk) (nx : Key) :
    CallA C n_law12_EvalIntegers [I i, I x, cl] h nx (fun o _ _ => o = .ret (.bool true)) := by
  have hcl' : ∀ n h, frzA n cl h = (cl, h) := IsNs.stb hcl
  refine S.ints.call ?_
  simp [law12_EvalIntegers]
  simp [law12_EvalIntegers_r0]
  simp [law12_EvalIntegers_r1, S.e.raw, hcl']
  refine (refval_ok S hcl hl 0 _ _).mono ?_
  rintro o h1 nx1 ⟨⟨va, la, ha, za, sna, rfl⟩, x1⟩
  have ha0 := ha
  obtain ⟨ca, rfl, hKa⟩ := ha.cells
  have u1 := Key.toNat_succ nx1
  simp [IsK.cell hKa]
  simp [law12_EvalIntegers_r2, S.e.raw, hcl']
  refine (refval_ok S hcl hl 5 _ _).mono ?_
  rintro o h2 nx2 ⟨⟨vb, lb, hb, zb, snb, rfl⟩, x2⟩
  have hb0 := hb
  obtain ⟨cb, rfl, hKb⟩ := hb.cells
  have t2 := x2.n
  have u2 := Key.toNat_succ nx2
  have u3 := Key.toNat_succ nx2.succ
  have ga2 := x2.g nx1 (by omega)
  simp at ga2
  simp [IsK.cell hKb]
  simp [law12_EvalIntegers_r3]
  generalize hH : T.set nx2.succ (some (.cells [I 2, I 0, .str 0 0, .nils] .fix)) (T.set nx2 (some (.cells [I vb.k, I vb.n, .str vb.a vb.b, cb] .fix)) h2) = H3
  have q9 : T.get nx2.succ H3 = some (.cells [I 2, I 0, .str 0 0, .nils] .fix) := by rw [← hH]; simp
  have qb : T.get nx2 H3 = some (.cells [I vb.k, I vb.n, .str vb.a vb.b, cb] .fix) := by rw [← hH]; simp
  have qa : T.get nx1 H3 = some (.cells [I va.k, I va.n, .str va.a va.b, ca] .fix) := by rw [← hH, get_lt (by omega), get_lt (by omega)]; exact ga2
  simp [law12_EvalIntegers_r4, q9, S.e.raw]
  refine (runN S Kn isE0 (.inr rfl) Kn.p0 i x Go.Sx.t0 (by omega) (by omega) _ _).mono ?_
  rintro o h4 nx4 ⟨f4, c4, hK4, rfl⟩
  have t4 := f4.n
  have u4 := Key.toNat_succ nx4
  have q94 := (f4.g nx2.succ (by omega) (by rw [q9]; trivial)).trans q9
  have qb4 := (f4.g nx2 (by omega) (by rw [qb]; trivial)).trans qb
  have qa4 := (f4.g nx1 (by omega) (by rw [qa]; trivial)).trans qa
  simp [IsK.cell hK4]
  have y9 : ∀ u t, T.get nx2.succ (T.set nx4 u t) = T.get (α := Blk) nx2.succ t := fun u t => get_lt (by omega)
  simp [law12_EvalIntegers_r5, y9, q94, S.e.raw]
  refine (runN S Kn isE1 (.inr rfl) Kn.p1 i x Go.Sx.t1 (by omega) (by omega) _ _).mono ?_
  rintro o h5 nx5 ⟨f5, c5, hK5, rfl⟩
  have t5 := f5.n
  have u5 := Key.toNat_succ nx5
  have q95 := f5.g nx2.succ (by omega) (by rw [y9, q94]; trivial)
  have qb5 := f5.g nx2 (by omega) (by rw [get_lt (by omega), qb4]; trivial)
  have qa5 := f5.g nx1 (by omega) (by rw [get_lt (by omega), qa4]; trivial)
  have qs5 := f5.g nx4 (by omega) (by simp; trivial)
  rw [get_lt (by omega)] at q95 qb5 qa5
  rw [q94] at q95
  rw [qb4] at qb5
  rw [qa4] at qa5
  simp at qs5
  simp [IsK.cell hK5]
  have z9 : ∀ u t, T.get nx2.succ (T.set nx5 u t) = T.get (α := Blk) nx2.succ t := fun u t => get_lt (by omega)
  simp [law12_EvalIntegers_r6, z9, q95, S.e.raw]
  refine (runN S Kn isE2 (.inr rfl) Kn.p2 i x Go.Sx.t2 (by omega) (by omega) _ _).mono ?_
  rintro o h6 nx6 ⟨f6, c6, hK6, rfl⟩
  have t6 := f6.n
  have u6 := Key.toNat_succ nx6
  have q96 := f6.g nx2.succ (by omega) (by rw [z9, q95]; trivial)
  have qb6 := f6.g nx2 (by omega) (by rw [get_lt (by omega), qb5]; trivial)
  have qa6 := f6.g nx1 (by omega) (by rw [get_lt (by omega), qa5]; trivial)
  have qs6 := f6.g nx4 (by omega) (by rw [get_lt (by omega), qs5]; trivial)
  have qd6 := f6.g nx5 (by omega) (by simp; trivial)
  rw [get_lt (by omega)] at q96 qb6 qa6 qs6
  rw [q95] at q96
  rw [qb5] at qb6
  rw [qa5] at qa6
  rw [qs5] at qs6
  simp at qd6
  simp [IsK.cell hK6]
  have w4 : ∀ u t, T.get nx4 (T.set nx6 u t) = T.get (α := Blk) nx4 t := fun u t => get_lt (by omega)
  have w5 : ∀ u t, T.get nx5 (T.set nx6 u t) = T.get (α := Blk) nx5 t := fun u t => get_lt (by omega)
  have w9 : ∀ u t, T.get nx2.succ (T.set nx6 u t) = T.get (α := Blk) nx2.succ t := fun u t => get_lt (by omega)
  simp [law12_EvalIntegers_r7, w4, w5, qs6, qd6]
  simp [law12_EvalIntegers_r9, w9, q96, S.e.raw]
  refine (holdsN S Kn isE3 (.inr rfl) Kn.p3 i x Go.Sx.t3 _ _).mono ?_
  rintro o h7 nx7 ⟨f7, rfl⟩
  have t7 := f7.n
  have q97 := f7.g nx2.succ (by omega) (by rw [w9, q96]; trivial)
  have qb7 := f7.g nx2 (by omega) (by rw [get_lt (by omega), qb6]; trivial)
  have qa7 := f7.g nx1 (by omega) (by rw [get_lt (by omega), qa6]; trivial)
  rw [get_lt (by omega)] at q97 qb7 qa7
  rw [q96] at q97
  rw [qb6] at qb7
  rw [qa6] at qa7
  simp [q97, S.e.raw]
  refine (holdsN S Kn isE4 (.inr rfl) Kn.p4 i x Go.Sx.t4 _ _).mono ?_
  rintro o h8 nx8 ⟨f8, rfl⟩
  have t8 := f8.n
  have q98 := (f8.g nx2.succ (by omega) (by rw [q97]; trivial)).trans q97
  have qb8 := (f8.g nx2 (by omega) (by rw [qb7]; trivial)).trans qb7
  have qa8 := (f8.g nx1 (by omega) (by rw [qa7]; trivial)).trans qa7
  simp [q98, S.e.raw]
  refine (holdsN S Kn isE5 (.inr rfl) Kn.p5 i x Go.Sx.t5 _ _).mono ?_
  rintro o h9 nx9 ⟨f9, rfl⟩
  have t9 := f9.n
  have qb9 := (f9.g nx2 (by omega) (by rw [qb8]; trivial)).trans qb8
  have qa9 := (f9.g nx1 (by omega) (by rw [qa8]; trivial)).trans qa8
  simp
  have := fun tm f7 f8 => partB S Kn ha0 hb0 za zb sna snb (ka := nx1) (kb := nx2) (tm := tm) f7 f8 qa9 qb9 (nx := nx9) (by omega) (by omega)
  simp at this
  refine this _ ?_ ?_ <;> simp
end Tz
