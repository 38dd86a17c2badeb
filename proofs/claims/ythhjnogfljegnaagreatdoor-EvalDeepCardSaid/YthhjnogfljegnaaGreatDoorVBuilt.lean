/-
 SV: the built-in functions. No condition.
-/
import Derived.Test.YthhjnogfljegnaaGreatDoorVStd
set_option linter.unusedSimpArgs false
set_option linter.unusedVariables false
set_option linter.unusedSectionVars false
namespace Tz
open Go.Sx Go
abbrev szc (v : V) (c : AV) : List AV := [I v.k, I v.n, .str v.a v.b, c, I v.size]
def OutR (r : Res) (o : Out) : Prop := match r with
 | .ok v _ => OkV v o
 | .stop c _ => o = stopO c
structure Fit (v : V) : Prop where
 z : v.size ≤ 1048576
 l : v.k = 2 → v.kids.length ≤ 256
theorem size_kid {vs : List V} {i : Nat} (h : i < vs.length) : vs[i].size ≤ V.sizes vs := by
 induction vs generalizing i with
 | nil => simp at h
 | cons v l ih =>
  rw [V.sizes]
  cases i with
  | zero => simp
  | succ i => simp at h; have := ih h; simp; omega
variable {C : Cfg} (S : Std C)
include S
theorem ext1 {h h1 : T Blk} {nx nx1 : Key} {v : Option Blk} (e : Ext (T.set nx v h) nx.succ h1 nx1) : Ext h nx h1 nx1 := by
 have s1 := Key.toNat_succ nx
 have t := e.n
 exact ⟨by omega, fun b hb => by rw [e.g b (by omega), get_lt hb]⟩
theorem part_ok (x y : V) {c d : AV} (hx : IsK c x.kids) (hy : IsK d y.kids) : Pur C n_ybc [.sl (szc x c ++ szc y d) 2 5 .any]
  (· = if x.k ≠ 2 then stopO 9 else if y.k ≠ 0 then stopO 9 else .ret (.tuple [c, I (min (max y.n 0) x.kids.length)])) := by
 intro h nx
 have hc := IsK.stb hx
 have hd := IsK.stb hy
 have hc' : ∀ n h, frzA n c h = (c, h) := hc
 have hd' : ∀ n h, frzA n d h = (d, h) := hd
 have hb := IsK.beq hx
 have hb2 := IsK.beq hy
 refine S.c_ybc.call ?_
 simp [ybc]
 simp [ybc_r0]
 simp [ybc_r1, S.raw, hc', hd']
 refine (list_ok S _ _ _ _ _ hc rfl _ _).mono ?_
 rintro o h1 nx1 ⟨rfl, e1⟩
 by_cases hk : x.k = 2
 ·simp [hk, AV.beq, AV.beqs, SI.beq, hb, hb2, S.raw, hc', hd']
  refine (integer_ok S _ _ _ _ _ _ _ _).mono ?_
  rintro o h2 nx2 ⟨rfl, e2⟩
  have hE := e1.trans e2
  by_cases hk2 : y.k = 0
  ·simp [hk2]
   by_cases hn : y.n < 0
   ·have : max y.n 0 = 0 := by omega
    rcases hx with ⟨rfl, hx⟩ | ⟨cs, rfl, hvl, hcs⟩
    ·simp [ybc_r2, hn, hx, this]; exact hE
    ·have h3 : min (0 : Int) x.kids.length = 0 := by omega
     have h4 : ¬ (x.kids.length : Int) < 0 := by omega
     simp [ybc_r2, hn, this, h3, h4]; exact hE
   ·have : max y.n 0 = y.n := by omega
    rcases hx with ⟨rfl, hx⟩ | ⟨cs, rfl, hvl, hcs⟩
    ·by_cases hz : 0 < y.n
     ·have h3 : min y.n 0 = 0 := by omega
      simp [ybc_r2, hn, hx, this, hz, h3]; exact hE
     ·have h3 : y.n = 0 := by omega
      simp [ybc_r2, hx, h3]; exact hE
    ·by_cases hz : (x.kids.length : Int) < y.n
     ·have h3 : min y.n x.kids.length = x.kids.length := by omega
      simp [ybc_r2, hn, this, hz, h3]; exact hE
     ·have h3 : min y.n x.kids.length = y.n := by omega
      simp [ybc_r2, hn, this, hz, h3]; exact hE
  ·simp [hk2, stopO]; exact hE
 ·simp [hk, stopO]; exact e1
theorem element_ok (x y : V) {c d : AV} (rest : List AV) (n : Nat) (hx : IsK c x.kids) (hy : IsK d y.kids) (hn : 2 ≤ n) : Pur C n_yat [.sl (szc x c ++ szc y d ++ rest) n 5 .any]
  (· = if x.k ≠ 2 then stopO 9 else if y.k ≠ 0 then stopO 9 else if y.n < 0 ∨ (x.kids.length : Int) ≤ y.n then stopO 13 else .ret (.tuple [c, I y.n])) := by
 intro h nx
 have hc := IsK.stb hx
 have hd := IsK.stb hy
 have hc' : ∀ n h, frzA n c h = (c, h) := hc
 have hd' : ∀ n h, frzA n d h = (d, h) := hd
 have hb := IsK.beq hx
 have hb2 := IsK.beq hy
 have n0 : 0 < n := by omega
 have n1 : 1 < n := by omega
 refine S.c_yat.call ?_
 simp [yat]
 simp [yat_r0]
 simp [yat_r1, S.raw, hc', hd', n0, n1]
 refine (list_ok S _ _ _ _ _ hc rfl _ _).mono ?_
 rintro o h1 nx1 ⟨rfl, e1⟩
 by_cases hk : x.k = 2
 ·simp [hk, AV.beq, AV.beqs, SI.beq, hb, hb2, S.raw, hc', hd']
  refine (integer_ok S _ _ _ _ _ _ _ _).mono ?_
  rintro o h2 nx2 ⟨rfl, e2⟩
  have hE := e1.trans e2
  by_cases hk2 : y.k = 0
  ·simp [hk2]
   by_cases hn : y.n < 0
   ·simp [yat_r2, hn]
    simp [yat_r3, S.raw]
    refine (end_ok S 13 _ _).mono ?_
    rintro o h3 nx3 ⟨rfl, e3⟩
    simp [stopO]; exact hE.trans e3
   ·rcases hx with ⟨rfl, hx⟩ | ⟨cs, rfl, hvl, hcs⟩
    ·have hz : 0 ≤ y.n := by omega
     simp [yat_r2, hn, hx, hz]
     simp [yat_r3, S.raw]
     refine (end_ok S 13 _ _).mono ?_
     rintro o h3 nx3 ⟨rfl, e3⟩
     simp [stopO]; exact hE.trans e3
    ·by_cases hz : (x.kids.length : Int) ≤ y.n
     ·have hz' : ¬ y.n < x.kids.length := by omega
      simp [yat_r2, hn, hz, hz']
      simp [yat_r3, S.raw]
      refine (end_ok S 13 _ _).mono ?_
      rintro o h3 nx3 ⟨rfl, e3⟩
      simp [stopO]; exact hE.trans e3
     ·have hz' : y.n < x.kids.length := by omega
      simp [yat_r2, hn, hz, hz']
      simp [yat_r4]; exact hE
  ·simp [hk2, stopO]; exact hE
 ·simp [hk, stopO]; exact e1
end Tz
/-
 SV: the built-in functions, further. No condition.
-/
namespace Tz
open Go.Sx Go
theorem ext0 {h h1 : T Blk} {nx nx1 : Key} {v u : Option Blk} (e : Ext (T.set nx v h) nx.succ h1 nx1) : Ext h nx (T.set nx u h1) nx1 := by
 have s1 := Key.toNat_succ nx
 have t := e.n
 exact ⟨by omega, fun b hb => by rw [get_lt hb, e.g b (by omega), get_lt hb]⟩
theorem sizes_take (l : List V) (m : Nat) : V.sizes (l.take m) ≤ V.sizes l := by
 induction l generalizing m with
 | nil => simp
 | cons v l ih => cases m with
  | zero => simp [V.sizes]
  | succ m => simp [V.sizes, ih m]
theorem sizes_drop (l : List V) (m : Nat) : V.sizes (l.drop m) ≤ V.sizes l := by
 induction l generalizing m with
 | nil => simp
 | cons v l ih => cases m with
  | zero => simp
  | succ m => have := ih m; simp [V.sizes]; omega
variable {C : Cfg} (S : Std C)
include S
theorem bsize_ok (rb : Key) (x : V) {c : AV} (hx : IsK c x.kids) (st : St) : Pur C n_yam [.ptr rb 0, .sl (szc x c) 1 5 .any] (OutR (builtF (4, 1702521203) [x] st)) := by
 intro h nx
 have hc := IsK.stb hx
 have hc' : ∀ n h, frzA n c h = (c, h) := hc
 refine S.c_yam.call ?_
 simp [yam]
 simp [yam_r0]
 simp [yam_r1, S.raw, hc']
 refine (list_ok S _ _ _ _ _ hc rfl _ _).mono ?_
 rintro o h1 nx1 ⟨rfl, e1⟩
 have q0 := e1.g nx (by simp)
 simp at q0
 by_cases hk : x.k = 2
 ·rcases hx with ⟨rfl, hx⟩ | ⟨cs, rfl, hvl, hcs⟩
  ·simp [hk, S.raw]
   refine (number_ok S _ _ _).mono ?_
   rintro o h2 nx2 ⟨⟨c2, hK2, rfl⟩, e2⟩
   have q1 := (e2.g nx (by have := e1.n; simp at this; omega)).trans q0
   have hcc := IsK.cell hK2
   have hc2 : ∀ n h, frzA n c2 h = (c2, h) := IsK.stb hK2
   simp [q1, hcc, hc2]
   refine ⟨?_, ext0 (v := some (.cells [I 0, I 0, .str 0 0, .nils, I 0] .fix)) (e1.trans e2)⟩
   simp [builtF, hk, hx, numR, OutR]
   exact ⟨c2, hK2, rfl⟩
  ·simp [hk, S.raw]
   refine (number_ok S _ _ _).mono ?_
   rintro o h2 nx2 ⟨⟨c2, hK2, rfl⟩, e2⟩
   have q1 := (e2.g nx (by have := e1.n; simp at this; omega)).trans q0
   have hcc := IsK.cell hK2
   have hc2 : ∀ n h, frzA n c2 h = (c2, h) := IsK.stb hK2
   simp [q1, hcc, hc2]
   refine ⟨?_, ext0 (v := some (.cells [I 0, I 0, .str 0 0, .nils, I 0] .fix)) (e1.trans e2)⟩
   simp [builtF, hk, numR, OutR]
   exact ⟨c2, hK2, rfl⟩
 ·simp [hk, stopO, builtF, OutR]
  exact ext1 S e1
theorem bat_ok (rb : Key) (x y : V) {c d : AV} (hx : IsK c x.kids) (hy : IsK d y.kids) (fx : Fit x) (st : St) : Pur C n_yak [.ptr rb 0, .sl (szc x c ++ szc y d) 2 5 .any] (OutR (builtF (2, 29793) [x, y] st)) := by
 intro h nx
 have hc := IsK.stb hx
 have hd := IsK.stb hy
 have hc' : ∀ n h, frzA n c h = (c, h) := hc
 have hd' : ∀ n h, frzA n d h = (d, h) := hd
 refine S.c_yak.call ?_
 simp [yak]
 simp [yak_r0]
 simp [yak_r1, S.raw, hc', hd']
 have el := element_ok S x y [] 2 hx hy (Nat.le_refl _)
 simp at el
 refine (el _ _).mono ?_
 rintro o h1 nx1 ⟨rfl, e1⟩
 have q0 := e1.g nx (by simp)
 simp at q0
 by_cases hk : x.k = 2
 ·by_cases hk2 : y.k = 0
  ·by_cases hn : y.n < 0
   ·simp [hk, hk2, hn, stopO, builtF, OutR]; exact ext1 S e1
   ·by_cases hz : (x.kids.length : Int) ≤ y.n
    ·have hz' : x.kids.length ≤ y.n.toNat := by omega
     simp [hk, hk2, hn, hz, hz', stopO, builtF, OutR]; exact ext1 S e1
    ·rcases hx with ⟨rfl, hx⟩ | ⟨cs, rfl, hvl, hcs⟩
     ·simp [hx] at hz; omega
     ·have hi : y.n.toNat < x.kids.length := by omega
      obtain ⟨m, hm⟩ := Int.eq_ofNat_of_zero_le (show 0 ≤ y.n by omega)
      rw [hm] at hi
      simp at hi
      obtain ⟨c3, ec, hK3⟩ := hcs.at hi
      have hc3 : ∀ n h, frzA n c3 h = (c3, h) := IsK.stb hK3
      have h4 : 4 ≤ cs.length - m * 4 := by have := hcs.hc; omega
      have zz : x.kids[m].size < 2 ^ 62 := by have := size_kid hi; have := fx.z; have := V.size_eq x; omega
      have hn' : ¬ ((m : Int) < 0) := by omega
      have hz2 : ¬ (x.kids.length ≤ m) := by omega
      simp [hk, hk2, hm, hi, hn', hz2]
      simp [yak_r2, hi, h4, ec, S.raw, hc3]
      refine (measured_ok S (IsV.ofV hK3) zz _ _).mono ?_
      rintro o h2 nx2 ⟨⟨c2, hK2, rfl⟩, e2⟩
      have q1 := (e2.g nx (by have := e1.n; simp at this; omega)).trans q0
      have hcc := IsK.cell hK2
      have hc2 : ∀ n h, frzA n c2 h = (c2, h) := IsK.stb hK2
      simp [q1, hcc, hc2]
      refine ⟨?_, ext0 (v := some (.cells [I 0, I 0, .str 0 0, .nils, I 0] .fix)) (e1.trans e2)⟩
      simp [builtF, hk, hk2, hm, hi, OutR, hn']
      exact ⟨c2, hK2, rfl⟩
  ·simp [hk, hk2, stopO, builtF, OutR]; exact ext1 S e1
 ·simp [hk, stopO, builtF, OutR]; exact ext1 S e1
theorem btake_ok (rb : Key) (x y : V) {c d : AV} (hx : IsK c x.kids) (hy : IsK d y.kids) (fx : Fit x) (st : St) : Pur C n_yao [.ptr rb 0, .sl (szc x c ++ szc y d) 2 5 .any] (OutR (builtF (4, 1701536116) [x, y] st)) := by
 intro h nx
 have hc := IsK.stb hx
 have hd := IsK.stb hy
 have hc' : ∀ n h, frzA n c h = (c, h) := hc
 have hd' : ∀ n h, frzA n d h = (d, h) := hd
 refine S.c_yao.call ?_
 simp [yao]
 simp [yao_r0]
 simp [yao_r1, S.raw, hc', hd']
 have el := part_ok S x y hx hy
 simp at el
 refine (el _ _).mono ?_
 rintro o h1 nx1 ⟨rfl, e1⟩
 have q0 := e1.g nx (by simp)
 simp at q0
 by_cases hk : x.k = 2
 ·by_cases hk2 : y.k = 0
  ·obtain ⟨m, hm⟩ : ∃ m : Nat, min (max y.n 0) (x.kids.length : Int) = m := ⟨(min (max y.n 0) (x.kids.length : Int)).toNat, by omega⟩
   have hml : m ≤ x.kids.length := by omega
   have hmk : x.kids.take y.n.toNat = x.kids.take m := by
    by_cases hz : y.n.toNat ≤ x.kids.length
    ·rw [show m = y.n.toNat by omega]
    ·rw [show m = x.kids.length by omega, List.take_of_length_le (Nat.le_refl _), List.take_of_length_le (by omega)]
   have fin : ∀ (c3 : AV) (z : V), IsK c3 z.kids → z = .mk 2 0 0 0 (x.kids.take m) → CallA C n_yay [.agg [I 2, I 0, .str 0 0, c3]] h1 nx1 (fun o h' nx' => OkV z o ∧ Ext h1 nx1 h' nx') := by
    intro c3 z hK3 hz
    subst hz
    rw [mk_kids] at hK3
    refine measured_ok S (IsV.of hK3) ?_ _ _
    have a1 := fx.z
    have a2 := V.size_eq x
    have a3 := sizes_take x.kids m
    rw [V.size]; omega
   rcases hx with ⟨rfl, hx⟩ | ⟨cs, rfl, hvl, hcs⟩
   ·have hm0 : m = 0 := by rw [hx] at hml; simpa using hml
    subst hm0
    rw [hm]
    simp [hk, hk2, hm, hx]
    simp [yao_r2, S.raw]
    refine (fin .nils _ (.inl ⟨rfl, by simp [hx]⟩) rfl).mono ?_
    rintro o h2 nx2 ⟨⟨c2, hK2, rfl⟩, e2⟩
    have q1 := (e2.g nx (by have := e1.n; simp at this; omega)).trans q0
    have hcc := IsK.cell hK2
    have hc2 : ∀ n h, frzA n c2 h = (c2, h) := IsK.stb hK2
    simp [q1, hcc, hc2]
    refine ⟨?_, ext0 (v := some (.cells [I 0, I 0, .str 0 0, .nils, I 0] .fix)) (e1.trans e2)⟩
    simp only [builtF, hk, hk2, OutR, hmk]
    exact ⟨c2, hK2, rfl⟩
   ·have hcl := hcs.hc
    rw [hm]
    simp [hk, hk2, hm]
    simp [yao_r2, S.raw, hml, show m * 4 ≤ cs.length by omega]
    refine (fin _ _ (.inr ⟨_, by simp; omega, by simp; omega, hcs.take m⟩) rfl).mono ?_
    rintro o h2 nx2 ⟨⟨c2, hK2, rfl⟩, e2⟩
    have q1 := (e2.g nx (by have := e1.n; simp at this; omega)).trans q0
    have hcc := IsK.cell hK2
    have hc2 : ∀ n h, frzA n c2 h = (c2, h) := IsK.stb hK2
    simp [q1, hcc, hc2]
    refine ⟨?_, ext0 (v := some (.cells [I 0, I 0, .str 0 0, .nils, I 0] .fix)) (e1.trans e2)⟩
    simp only [builtF, hk, hk2, OutR, hmk]
    exact ⟨c2, hK2, rfl⟩
  ·simp [hk, hk2, stopO, builtF, OutR]; exact ext1 S e1
 ·simp [hk, stopO, builtF, OutR]; exact ext1 S e1
theorem bdrop_ok (rb : Key) (x y : V) {c d : AV} (hx : IsK c x.kids) (hy : IsK d y.kids) (fx : Fit x) (st : St) : Pur C n_yap [.ptr rb 0, .sl (szc x c ++ szc y d) 2 5 .any] (OutR (builtF (4, 1886351972) [x, y] st)) := by
 intro h nx
 have hc := IsK.stb hx
 have hd := IsK.stb hy
 have hc' : ∀ n h, frzA n c h = (c, h) := hc
 have hd' : ∀ n h, frzA n d h = (d, h) := hd
 refine S.c_yap.call ?_
 simp [yap]
 simp [yap_r0]
 simp [yap_r1, S.raw, hc', hd']
 have el := part_ok S x y hx hy
 simp at el
 refine (el _ _).mono ?_
 rintro o h1 nx1 ⟨rfl, e1⟩
 have q0 := e1.g nx (by simp)
 simp at q0
 by_cases hk : x.k = 2
 ·by_cases hk2 : y.k = 0
  ·obtain ⟨m, hm⟩ : ∃ m : Nat, min (max y.n 0) (x.kids.length : Int) = m := ⟨(min (max y.n 0) (x.kids.length : Int)).toNat, by omega⟩
   have hml : m ≤ x.kids.length := by omega
   have hmk : x.kids.drop y.n.toNat = x.kids.drop m := by
    by_cases hz : y.n.toNat ≤ x.kids.length
    ·rw [show m = y.n.toNat by omega]
    ·rw [show m = x.kids.length by omega, List.drop_of_length_le (Nat.le_refl _), List.drop_of_length_le (by omega)]
   have fin : ∀ (c3 : AV) (z : V), IsK c3 z.kids → z = .mk 2 0 0 0 (x.kids.drop m) → CallA C n_yay [.agg [I 2, I 0, .str 0 0, c3]] h1 nx1 (fun o h' nx' => OkV z o ∧ Ext h1 nx1 h' nx') := by
    intro c3 z hK3 hz
    subst hz
    rw [mk_kids] at hK3
    refine measured_ok S (IsV.of hK3) ?_ _ _
    have a1 := fx.z
    have a2 := V.size_eq x
    have a3 := sizes_drop x.kids m
    rw [V.size]; omega
   rcases hx with ⟨rfl, hx⟩ | ⟨cs, rfl, hvl, hcs⟩
   ·have hm0 : m = 0 := by rw [hx] at hml; simpa using hml
    subst hm0
    rw [hm]
    simp [hk, hk2, hm, hx]
    simp [yap_r2, S.raw]
    refine (fin .nils _ (.inl ⟨rfl, by simp [hx]⟩) rfl).mono ?_
    rintro o h2 nx2 ⟨⟨c2, hK2, rfl⟩, e2⟩
    have q1 := (e2.g nx (by have := e1.n; simp at this; omega)).trans q0
    have hcc := IsK.cell hK2
    have hc2 : ∀ n h, frzA n c2 h = (c2, h) := IsK.stb hK2
    simp [q1, hcc, hc2]
    refine ⟨?_, ext0 (v := some (.cells [I 0, I 0, .str 0 0, .nils, I 0] .fix)) (e1.trans e2)⟩
    simp only [builtF, hk, hk2, OutR, hmk]
    exact ⟨c2, hK2, rfl⟩
   ·have hcl := hcs.hc
    rw [hm]
    simp [hk, hk2, hm]
    simp [yap_r2, S.raw, hml, show (x.kids.length - m) * 4 ≤ cs.length - m * 4 by omega]
    refine (fin _ _ (.inr ⟨_, by rw [List.take_of_length_le (by simp; omega)]; simp, by simp; omega, hcs.drop m⟩) rfl).mono ?_
    rintro o h2 nx2 ⟨⟨c2, hK2, rfl⟩, e2⟩
    have q1 := (e2.g nx (by have := e1.n; simp at this; omega)).trans q0
    have hcc := IsK.cell hK2
    have hc2 : ∀ n h, frzA n c2 h = (c2, h) := IsK.stb hK2
    simp [q1, hcc, hc2]
    refine ⟨?_, ext0 (v := some (.cells [I 0, I 0, .str 0 0, .nils, I 0] .fix)) (e1.trans e2)⟩
    simp only [builtF, hk, hk2, OutR, hmk]
    exact ⟨c2, hK2, rfl⟩
  ·simp [hk, hk2, stopO, builtF, OutR]; exact ext1 S e1
 ·simp [hk, stopO, builtF, OutR]; exact ext1 S e1
end Tz
/-
 SV: the built-in functions push, set, max, min. No condition.
-/
namespace Tz
open Go.Sx Go
theorem sizes_append (l m : List V) : V.sizes (l ++ m) = V.sizes l + V.sizes m := by
 induction l with
 | nil => simp [V.sizes]
 | cons v l ih => simp [V.sizes, ih]; omega
theorem set_split {vs : List V} {m : Nat} (hi : m < vs.length) (z : V) : vs.set m z = vs.take m ++ [z] ++ vs.drop (m + 1) := by
 rw [List.set_eq_take_append_cons_drop, if_pos hi]; simp
theorem self_split {vs : List V} {m : Nat} (hi : m < vs.length) : vs = vs.take m ++ [vs[m]] ++ vs.drop (m + 1) := by
 have := set_split hi vs[m]
 rwa [List.set_getElem_self] at this
theorem sizes_set {vs : List V} {m : Nat} (hi : m < vs.length) (z : V) : V.sizes (vs.set m z) + vs[m].size = V.sizes vs + z.size := by
 have h1 := congrArg V.sizes (self_split hi)
 rw [set_split hi]
 rw [h1]
 simp only [sizes_append, V.sizes]
 omega
theorem isVs_set {cs zc : List AV} {vs : List V} {m : Nat} {z : V} (h : IsVs cs vs) (hi : m < vs.length) (hz : IsV zc z) : IsVs (cs.take (m * 4) ++ zc ++ cs.drop (m * 4 + 4)) (vs.set m z) := by
 rw [set_split hi]
 have := ((h.take m).append (IsVs.one hz)).append (h.drop (m + 1))
 rwa [show (m + 1) * 4 = m * 4 + 4 by omega] at this
variable {C : Cfg} (S : Std C)
include S
theorem bpush_ok (rb : Key) (x y : V) {c d : AV} (hx : IsK c x.kids) (hy : IsK d y.kids) (fx : Fit x) (fy : Fit y) (st : St) : Pur C n_yan [.ptr rb 0, .sl (szc x c ++ szc y d) 2 5 .any] (OutR (builtF (4, 1752397168) [x, y] st)) := by
 intro h nx
 have hc := IsK.stb hx
 have hd := IsK.stb hy
 have hc' : ∀ n h, frzA n c h = (c, h) := hc
 have hd' : ∀ n h, frzA n d h = (d, h) := hd
 have hb := IsK.beq hx
 have hb2 := IsK.beq hy
 have hcc := IsK.cell hx
 have hdc := IsK.cell hy
 have hcs := IsK.cells hx
 have hds := IsK.cells hy
 have s1 := Key.toNat_succ nx
 have s2 := Key.toNat_succ nx.succ
 have hsz : wrapF .i64 ((x.size : Int) + y.size) = ((x.size + y.size : Nat) : Int) := by
  have := fx.z; have := fy.z
  rw [wrap_id (by omega) (by omega)]; rfl
 have hsz2 : (V.mk 2 0 0 0 (x.kids ++ [y])).size = x.size + y.size := by
  rw [V.size_eq, V.size_eq x, mk_kids, sizes_append]; simp [V.sizes]; omega
 refine S.c_yan.call ?_
 simp [yan]
 simp [yan_r0]
 simp [yan_r1, S.raw, hc']
 refine (list_ok S _ _ _ _ _ hc rfl _ _).mono ?_
 rintro o h1 nx1 ⟨rfl, e1⟩
 have t1 := e1.n
 have q0 := e1.g nx (by omega)
 have q1 := e1.g nx.succ (by omega)
 simp at q0 q1
 have g0 : ∀ v t, T.get nx (T.set nx1 v t) = T.get (α := Blk) nx t := fun v t => get_lt (by omega)
 have g1 : ∀ v t, T.get nx.succ (T.set nx1 v t) = T.get (α := Blk) nx.succ t := fun v t => get_lt (by omega)
 have g2 : ∀ v t, T.get nx (T.set nx1.succ v t) = T.get (α := Blk) nx t := fun v t => get_lt (by simp; omega)
 have g3 : ∀ v t, T.get nx.succ (T.set nx1.succ v t) = T.get (α := Blk) nx.succ t := fun v t => get_lt (by simp; omega)
 have g4 : ∀ v t, T.get nx1 (T.set nx.succ v t) = T.get (α := Blk) nx1 t := fun v t => get_gt (by omega)
 have g5 : ∀ v t, T.get nx1 (T.set nx v t) = T.get (α := Blk) nx1 t := fun v t => get_gt (by omega)
 have g6 : ∀ v t, T.get nx1.succ (T.set nx.succ v t) = T.get (α := Blk) nx1.succ t := fun v t => get_gt (by simp; omega)
 have g7 : ∀ v t, T.get nx1.succ (T.set nx v t) = T.get (α := Blk) nx1.succ t := fun v t => get_gt (by simp; omega)
 have s3 := Key.toNat_succ nx1
 by_cases hk : x.k = 2
 ·have fl := fx.l hk
  have hR : builtF (4, 1752397168) [x, y] st = .ok (.mk 2 0 0 0 (x.kids ++ [y])) st := by simp [builtF, hk]
  rcases hx with ⟨rfl, hx⟩ | ⟨cs, rfl, hvl, hcs⟩
  ·simp [hk, q1]
   simp [yan_r2, List.filter_cons, hdc, hds, hd', g0, g1, g2, g3, g4, g5, g6, g7, q0]
   rw [frz_part (l := [I y.k, I y.n, .str y.a y.b, d]) (by simp [g7]) rfl (IsV.stbs (IsV.ofV hy))]
   simp only [hsz]
   refine ⟨?_, by simp; omega, fun b hb => ?_⟩
   ·rw [hR]
    have hK' : IsK (.sl [I y.k, I y.n, .str y.a y.b, d] 1 4 .any) (x.kids ++ [y]) := .inr ⟨[I y.k, I y.n, .str y.a y.b, d], by simp [hx], by simp [hx], by simpa [hx] using IsVs.one (IsV.ofV hy)⟩
    exact ⟨_, hK', by rw [hsz2]; rfl⟩
   ·simp (disch := omega) only [get_lt (α := Blk)]
    rw [e1.g b (by omega)]
    simp (disch := omega) only [get_lt (α := Blk)]
  ·by_cases h0 : x.kids.length = 0
   ·have hx : x.kids = [] := List.eq_nil_of_length_eq_zero h0
    have hcn : cs = [] := List.eq_nil_of_length_eq_zero (by have := hcs.hc; omega)
    subst hcn
    simp [hk, q1, hx]
    simp [yan_r2, List.filter_cons, hdc, hds, hd', g0, g1, g2, g3, g4, g5, g6, g7, q0]
    rw [frz_part (l := [I y.k, I y.n, .str y.a y.b, d]) (by simp [g7]) rfl (IsV.stbs (IsV.ofV hy))]
    simp only [hsz]
    refine ⟨?_, by simp; omega, fun b hb => ?_⟩
    ·rw [hR]
     have hK' : IsK (.sl [I y.k, I y.n, .str y.a y.b, d] 1 4 .any) (x.kids ++ [y]) := .inr ⟨[I y.k, I y.n, .str y.a y.b, d], by simp [hx], by simp [hx], by simpa [hx] using IsVs.one (IsV.ofV hy)⟩
     exact ⟨_, hK', by rw [hsz2]; rfl⟩
    ·simp (disch := omega) only [get_lt (α := Blk)]
     rw [e1.g b (by omega)]
     simp (disch := omega) only [get_lt (α := Blk)]
   ·have hlp : ¬ cs.length = 0 := by have := hcs.hc; omega
    have hlm : x.kids.length ≤ 1048576 := by omega
    have hlm1 : x.kids.length + 1 ≤ 1048576 := by omega
    have hall : cs.all AV.isCell = true := IsVs.iscells hcs
    have hcl : x.kids.length * 4 = cs.length := hcs.hc.symm
    simp [hk, q1, h0, hlm, hall, hcl, hlp]
    have g8 : ∀ v t, T.get nx (T.set nx1.succ.succ v t) = T.get (α := Blk) nx t := fun v t => get_lt (by simp; omega)
    simp [yan_r2, List.filter_cons, hdc, hds, hd', g0, g1, g2, g3, g4, g5, g6, g7, g8, q0, hlm1, hcl]
    simp only [hsz]
    have s4 := Key.toNat_succ nx1.succ
    have s5 := Key.toNat_succ nx1.succ.succ
    refine ⟨?_, by omega, fun b hb => ?_⟩
    ·rw [hR]
     have hK' : IsK (.sl (cs ++ [I y.k, I y.n, .str y.a y.b, d]) (x.kids.length + 1) 4 .any) (x.kids ++ [y]) := .inr ⟨cs ++ [I y.k, I y.n, .str y.a y.b, d], by simp, by simp; omega, hcs.append (IsVs.one (IsV.ofV hy))⟩
     exact ⟨_, hK', by rw [hsz2]; rfl⟩
    ·simp (disch := omega) only [get_lt (α := Blk)]
     rw [e1.g b (by omega)]
     simp (disch := omega) only [get_lt (α := Blk)]
 ·simp [hk, stopO, builtF, OutR]
  exact ⟨by omega, fun b hb => by rw [e1.g b (by omega), get_lt (by omega), get_lt (by omega)]⟩
theorem bset_ok (rb : Key) (x y z : V) {c d e : AV} (hx : IsK c x.kids) (hy : IsK d y.kids) (hz : IsK e z.kids) (fx : Fit x) (fz : Fit z) (st : St) : Pur C n_ybn [.ptr rb 0, .sl (szc x c ++ szc y d ++ szc z e) 3 5 .any] (OutR (builtF (3, 7628147) [x, y, z] st)) := by
 intro h nx
 have hc := IsK.stb hx
 have hd := IsK.stb hy
 have he := IsK.stb hz
 have hc' : ∀ n h, frzA n c h = (c, h) := hc
 have hd' : ∀ n h, frzA n d h = (d, h) := hd
 have he' : ∀ n h, frzA n e h = (e, h) := he
 have hze := hz
 have hec := IsK.cell hz
 have hes := IsK.cells hz
 have s1 := Key.toNat_succ nx
 refine S.c_ybn.call ?_
 simp [ybn]
 simp [ybn_r0]
 simp [ybn_r1, S.raw, hc', hd', he']
 have el := element_ok S x y (szc z e) 3 hx hy (by omega)
 simp at el
 refine (el _ _).mono ?_
 rintro o h1 nx1 ⟨rfl, e1⟩
 have t1 := e1.n
 have q0 := e1.g nx (by simp)
 simp at q0
 have s3 := Key.toNat_succ nx1
 by_cases hk : x.k = 2
 ·by_cases hk2 : y.k = 0
  ·by_cases hn : y.n < 0
   ·simp [hk, hk2, hn, stopO, builtF, OutR]; exact ext1 S e1
   ·by_cases hz : (x.kids.length : Int) ≤ y.n
    ·have hz' : x.kids.length ≤ y.n.toNat := by omega
     simp [hk, hk2, hn, hz, hz', stopO, builtF, OutR]; exact ext1 S e1
    ·rcases hx with ⟨rfl, hx⟩ | ⟨cs, rfl, hvl, hcs⟩
     ·simp [hx] at hz; omega
     ·have hi : y.n.toNat < x.kids.length := by omega
      obtain ⟨m, hm⟩ := Int.eq_ofNat_of_zero_le (show 0 ≤ y.n by omega)
      rw [hm] at hi
      simp at hi
      obtain ⟨c3, ec, hK3⟩ := hcs.at hi
      have hc3 : ∀ n h, frzA n c3 h = (c3, h) := IsK.stb hK3
      have h4 : 4 ≤ cs.length - m * 4 := by have := hcs.hc; omega
      have zz : x.kids[m].size < 2 ^ 62 := by have := size_kid hi; have := fx.z; have := V.size_eq x; omega
      have hn' : ¬ ((m : Int) < 0) := by omega
      have hz2 : ¬ (x.kids.length ≤ m) := by omega
      have h0 : ¬ x.kids.length = 0 := by omega
      have hlm : x.kids.length ≤ 1048576 := by omega
      have hall : cs.all AV.isCell = true := IsVs.iscells hcs
      have hcl : x.kids.length * 4 = cs.length := hcs.hc.symm
      have hlp : ¬ cs.length = 0 := by omega
      simp [hk, hk2, hm, hi, hn', hz2]
      simp [ybn_r2, h0, hlm, hall, hcl, hlp]
      simp [ybn_r3, hi, h4, ec, S.raw, hc3]
      refine (measured_ok S (IsV.ofV hK3) zz _ _).mono ?_
      rintro o h2 nx2 ⟨⟨c2, hK2, rfl⟩, e2⟩
      have t2 := e2.n
      have s4 := Key.toNat_succ nx1.succ
      have q1 := e2.g nx (by omega)
      have q2 := e2.g nx1.succ (by omega)
      simp (disch := omega) [get_lt (α := Blk), q0] at q1 q2
      have hszv : x.kids[m].size ≤ x.size := by have := size_kid hi; have := V.size_eq x; omega
      have hw1 : wrapF .i64 ((x.size : Int) - x.kids[m].size) = (x.size : Int) - x.kids[m].size := by
       have := fx.z; rw [wrap_id (by omega) (by omega)]
      have hss : (V.mk 2 0 0 0 (x.kids.set m z)).size + x.kids[m].size = x.size + z.size := by
       rw [V.size_eq, V.size_eq x, mk_kids]
       have := sizes_set hi z
       omega
      have hw2 : wrapF .i64 ((x.size : Int) - x.kids[m].size + z.size) = ((V.mk 2 0 0 0 (x.kids.set m z)).size : Int) := by
       have := fx.z; have := fz.z; rw [wrap_id (by omega) (by omega)]; omega
      simp [q1, q2, hw1, hw2]
      have hput : m * 4 + 4 ≤ cs.length := by omega
      simp [ybn_r4, hi, q2, hec, hes, hput]
      have g0 : ∀ v t, T.get nx (T.set nx1.succ v t) = T.get (α := Blk) nx t := fun v t => get_lt (by omega)
      have g1 : ∀ v t, T.get nx1.succ (T.set nx v t) = T.get (α := Blk) nx1.succ t := fun v t => get_gt (by omega)
      simp [ybn_r5, g0, q1]
      have hrow := isVs_set hcs hi (IsV.ofV hze)
      simp only [List.append_assoc, List.cons_append, List.nil_append] at hrow
      have hlr : (cs.take (m * 4) ++ I z.k :: I z.n :: AV.str z.a z.b :: e :: cs.drop (m * 4 + 4)).length = x.kids.length * 4 := by
       have := hrow.hc; simpa using this
      rw [frz_part (l := cs.take (m * 4) ++ I z.k :: I z.n :: AV.str z.a z.b :: e :: cs.drop (m * 4 + 4)) (by simp [g1]) hlr (IsVs.stbs hrow)]
      refine ⟨?_, by omega, fun b hb => ?_⟩
      ·have hR : builtF (3, 7628147) [x, y, z] st = .ok (.mk 2 0 0 0 (x.kids.set m z)) st := by
        simp [builtF, hk, hk2, hm, hn', hi]
       rw [hR]
       have hK' : IsK (.sl (cs.take (m * 4) ++ I z.k :: I z.n :: AV.str z.a z.b :: e :: cs.drop (m * 4 + 4)) x.kids.length 4 .any) (x.kids.set m z) := .inr ⟨_, by rw [List.length_set], by simp; omega, hrow⟩
       exact ⟨_, hK', rfl⟩
      ·simp (disch := omega) only [get_lt (α := Blk)]
       rw [e2.g b (by omega)]
       simp (disch := omega) only [get_lt (α := Blk)]
       rw [e1.g b (by omega)]
       simp (disch := omega) only [get_lt (α := Blk)]
  ·simp [hk, hk2, stopO, builtF, OutR]; exact ext1 S e1
 ·simp [hk, stopO, builtF, OutR]; exact ext1 S e1
end Tz
/-
 SV: the built-in functions max, min. No condition.
-/
namespace Tz
open Go.Sx Go
variable {C : Cfg} (S : Std C)
include S
theorem chosen_ok (x y : V) {c d : AV} (hx : IsK c x.kids) (hy : IsK d y.kids) (g : Bool) : Pur C n_yas [.sl (szc x c ++ szc y d) 2 5 .any, .bool g]
  (fun o => if x.k ≠ 0 then o = stopO 9 else if y.k ≠ 0 then o = stopO 9 else OkV (numV (bif g then max x.n y.n else min x.n y.n)) o) := by
 intro h nx
 have hc := IsK.stb hx
 have hd := IsK.stb hy
 have hc' : ∀ n h, frzA n c h = (c, h) := hc
 have hd' : ∀ n h, frzA n d h = (d, h) := hd
 have hb := IsK.beq hx
 have hb2 := IsK.beq hy
 refine S.c_yas.call ?_
 simp [yas]
 simp [yas_r0]
 simp [yas_r1, S.raw, hc', hd']
 refine (integer_ok S _ _ _ _ _ _ _ _).mono ?_
 rintro o h1 nx1 ⟨rfl, e1⟩
 by_cases hk : x.k = 0
 ·simp [hk, AV.beq, AV.beqs, SI.beq, hb, hb2, S.raw, hc', hd']
  refine (integer_ok S _ _ _ _ _ _ _ _).mono ?_
  rintro o h2 nx2 ⟨rfl, e2⟩
  have hE := e1.trans e2
  have q0 := hE.g nx (by simp)
  have t1 := hE.n
  simp at q0 t1
  by_cases hk2 : y.k = 0
  ·simp [hk2]
   simp [yas_r2]
   cases g with
   | true =>
    by_cases hn : x.n < y.n
    ·have hm : max x.n y.n = y.n := by omega
     simp [yas_r3, hn, S.raw, hm]
     refine (number_ok S _ _ _).mono ?_
     rintro o h3 nx3 ⟨⟨c2, hK2, rfl⟩, e3⟩
     have q1 := (e3.g nx (by omega)).trans q0
     have hcc := IsK.cell hK2
     have hc2 : ∀ n h, frzA n c2 h = (c2, h) := IsK.stb hK2
     simp [q1, hcc, hc2]
     exact ⟨⟨c2, hK2, rfl⟩, ext0 (v := some (.cells [I 0, I 0, .str 0 0, .nils, I 0] .fix)) (hE.trans e3)⟩
    ·have hm : max x.n y.n = x.n := by omega
     simp [yas_r3, hn, S.raw, hm]
     refine (number_ok S _ _ _).mono ?_
     rintro o h3 nx3 ⟨⟨c2, hK2, rfl⟩, e3⟩
     have q1 := (e3.g nx (by omega)).trans q0
     have hcc := IsK.cell hK2
     have hc2 : ∀ n h, frzA n c2 h = (c2, h) := IsK.stb hK2
     simp [q1, hcc, hc2]
     exact ⟨⟨c2, hK2, rfl⟩, ext0 (v := some (.cells [I 0, I 0, .str 0 0, .nils, I 0] .fix)) (hE.trans e3)⟩
   | false =>
    by_cases hn : y.n < x.n
    ·have hm : min x.n y.n = y.n := by omega
     simp [yas_r4, hn, S.raw, hm]
     refine (number_ok S _ _ _).mono ?_
     rintro o h3 nx3 ⟨⟨c2, hK2, rfl⟩, e3⟩
     have q1 := (e3.g nx (by omega)).trans q0
     have hcc := IsK.cell hK2
     have hc2 : ∀ n h, frzA n c2 h = (c2, h) := IsK.stb hK2
     simp [q1, hcc, hc2]
     exact ⟨⟨c2, hK2, rfl⟩, ext0 (v := some (.cells [I 0, I 0, .str 0 0, .nils, I 0] .fix)) (hE.trans e3)⟩
    ·have hm : min x.n y.n = x.n := by omega
     simp [yas_r4, hn, S.raw, hm]
     refine (number_ok S _ _ _).mono ?_
     rintro o h3 nx3 ⟨⟨c2, hK2, rfl⟩, e3⟩
     have q1 := (e3.g nx (by omega)).trans q0
     have hcc := IsK.cell hK2
     have hc2 : ∀ n h, frzA n c2 h = (c2, h) := IsK.stb hK2
     simp [q1, hcc, hc2]
     exact ⟨⟨c2, hK2, rfl⟩, ext0 (v := some (.cells [I 0, I 0, .str 0 0, .nils, I 0] .fix)) (hE.trans e3)⟩
  ·simp [hk2, stopO]; exact ext1 S hE
 ·simp [hk, stopO]; exact ext1 S e1
theorem bmax_ok (rb : Key) (x y : V) {c d : AV} (hx : IsK c x.kids) (hy : IsK d y.kids) (st : St) : Pur C n_yaq [.ptr rb 0, .sl (szc x c ++ szc y d) 2 5 .any] (OutR (builtF (3, 7889261) [x, y] st)) := by
 intro h nx
 have hc' : ∀ n h, frzA n c h = (c, h) := IsK.stb hx
 have hd' : ∀ n h, frzA n d h = (d, h) := IsK.stb hy
 refine S.c_yaq.call ?_
 simp [yaq]
 simp [yaq_r0]
 simp [yaq_r1, S.raw, hc', hd']
 have el := chosen_ok S x y hx hy true
 simp at el
 refine (el _ _).mono ?_
 rintro o h1 nx1 ⟨ho, e1⟩
 have q0 := e1.g nx (by simp)
 simp at q0
 by_cases hk : x.k = 0
 ·by_cases hk2 : y.k = 0
  ·simp [hk, hk2] at ho
   obtain ⟨c2, hK2, rfl⟩ := ho
   have hcc := IsK.cell hK2
   have hc2 : ∀ n h, frzA n c2 h = (c2, h) := IsK.stb hK2
   simp [q0, hcc, hc2]
   refine ⟨?_, ext0 (v := some (.cells [I 0, I 0, .str 0 0, .nils, I 0] .fix)) e1⟩
   simp [builtF, hk, hk2, OutR, numR]
   exact ⟨c2, hK2, rfl⟩
  ·simp [hk, hk2] at ho
   subst ho
   simp [hk, hk2, stopO, builtF, OutR]; exact ext1 S e1
 ·simp [hk] at ho
  subst ho
  simp [hk, stopO, builtF, OutR]; exact ext1 S e1
theorem bmin_ok (rb : Key) (x y : V) {c d : AV} (hx : IsK c x.kids) (hy : IsK d y.kids) (st : St) : Pur C n_yar [.ptr rb 0, .sl (szc x c ++ szc y d) 2 5 .any] (OutR (builtF (3, 7235949) [x, y] st)) := by
 intro h nx
 have hc' : ∀ n h, frzA n c h = (c, h) := IsK.stb hx
 have hd' : ∀ n h, frzA n d h = (d, h) := IsK.stb hy
 refine S.c_yar.call ?_
 simp [yar]
 simp [yar_r0]
 simp [yar_r1, S.raw, hc', hd']
 have el := chosen_ok S x y hx hy false
 simp at el
 refine (el _ _).mono ?_
 rintro o h1 nx1 ⟨ho, e1⟩
 have q0 := e1.g nx (by simp)
 simp at q0
 by_cases hk : x.k = 0
 ·by_cases hk2 : y.k = 0
  ·simp [hk, hk2] at ho
   obtain ⟨c2, hK2, rfl⟩ := ho
   have hcc := IsK.cell hK2
   have hc2 : ∀ n h, frzA n c2 h = (c2, h) := IsK.stb hK2
   simp [q0, hcc, hc2]
   refine ⟨?_, ext0 (v := some (.cells [I 0, I 0, .str 0 0, .nils, I 0] .fix)) e1⟩
   simp [builtF, hk, hk2, OutR, numR]
   exact ⟨c2, hK2, rfl⟩
  ·simp [hk, hk2] at ho
   subst ho
   simp [hk, hk2, stopO, builtF, OutR]; exact ext1 S e1
 ·simp [hk] at ho
  subst ho
  simp [hk, stopO, builtF, OutR]; exact ext1 S e1
end Tz
