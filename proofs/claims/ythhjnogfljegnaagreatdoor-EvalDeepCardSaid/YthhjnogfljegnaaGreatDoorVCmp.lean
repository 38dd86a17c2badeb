/-
 SV: the order of values. No condition.
-/
import Derived.Test.YthhjnogfljegnaaGreatDoorVBuilt
set_option linter.unusedSimpArgs false
set_option linter.unusedVariables false
set_option linter.unusedSectionVars false
namespace Tz
open Go.Sx Go
attribute [simp] opS
theorem V.cmp_eq (v u : V) : v.cmp u = if cmpInt v.k u.k ≠ 0 then cmpInt v.k u.k else if cmpInt v.n u.n ≠ 0 then cmpInt v.n u.n else if cmpS (v.a, v.b) (u.a, u.b) ≠ 0 then cmpS (v.a, v.b) (u.a, u.b) else V.cmps v.kids u.kids := by
 cases v; cases u; rw [V.cmp]; rfl
variable {C : Cfg} (S : Std C)
include S
theorem nan_ok (n : Int) : Pur C n_yae [I n] (· = .ret (.bool false)) := by
 intro h nx
 refine S.c_yae.call ?_
 simp [yae]
 simp [yae_r0]
 simp [yae_r1]
 exact Ext.refl _ _
theorem nanS_ok (a b : Nat) : Pur C n_yaf [.str a b] (· = .ret (.bool false)) := by
 intro h nx
 refine S.c_yaf.call ?_
 simp [yaf]
 simp [yaf_r0]
 simp [yaf_r1]
 exact Ext.refl _ _
theorem cmpInt_ok (a b : Int) : Pur C n_yac [I a, I b] (· = .ret (I (cmpInt a b))) := by
 intro h nx
 refine S.c_yac.call ?_
 simp [yac]
 simp [yac_r0]
 simp [yac_r1, S.raw]
 refine (nan_ok S a _ _).mono ?_
 rintro o h1 nx1 ⟨rfl, e1⟩
 simp
 simp [yac_r2, S.raw]
 refine (nan_ok S b _ _).mono ?_
 rintro o h2 nx2 ⟨rfl, e2⟩
 have hE := e1.trans e2
 simp
 simp [yac_r3, yac_r7]
 by_cases h1 : a < b
 ·simp [yac_r9, yac_r10, h1, cmpInt]; exact hE
 ·by_cases h2 : b < a
  ·simp [yac_r9, yac_r11, yac_r12, h1, h2, cmpInt]; exact hE
  ·simp [yac_r9, yac_r11, yac_r13, h1, h2, cmpInt]; exact hE
theorem cmpS_ok (a b a' b' : Nat) : Pur C n_yad [.str a b, .str a' b'] (· = .ret (I (cmpS (a, b) (a', b')))) := by
 intro h nx
 refine S.c_yad.call ?_
 simp [yad]
 simp [yad_r0]
 simp [yad_r1, S.raw]
 refine (nanS_ok S a b _ _).mono ?_
 rintro o h1 nx1 ⟨rfl, e1⟩
 simp
 simp [yad_r2, S.raw]
 refine (nanS_ok S a' b' _ _).mono ?_
 rintro o h2 nx2 ⟨rfl, e2⟩
 have hE := e1.trans e2
 simp
 simp [yad_r3, yad_r7]
 cases h1 : ltS a b a' b' with
 | true => simp [yad_r9, yad_r10, h1, cmpS]; exact hE
 | false =>
  cases h2 : ltS a' b' a b with
  | true => simp [yad_r9, yad_r11, yad_r12, h1, h2, cmpS]; exact hE
  | false => simp [yad_r9, yad_r11, yad_r13, h1, h2, cmpS]; exact hE
theorem cmpF_nil {d : AV} {us : List V} (hd : IsK d us) : Pur C n_ycz [.nils, d, .fn n_yda [] []] (· = .ret (I (V.cmps [] us))) := by
 intro h nx
 refine S.c_ycz.call ?_
 simp [ycz]
 simp [ycz_r0]
 simp [ycz_r1]
 refine W.unroll (W.of ?_)
 simp [ycz_l0]
 simp [ycz_r2]
 rcases hd with ⟨rfl, rfl⟩ | ⟨ds, rfl, hvl, hds⟩
 ·simp [ycz_r11, ycz_r13, V.cmps]
  exact Ext.refl _ _
 ·cases us with
  | nil =>
   simp [ycz_r11, ycz_r13, V.cmps]
   exact Ext.refl _ _
  | cons u us =>
   simp [ycz_r11, ycz_r12, V.cmps]
   exact Ext.refl _ _
theorem cmpF_sl {cs : List AV} {vs us : List V} {d : AV} (hvl : vs.length ≤ 4000) (hcs : IsVs cs vs) (hd : IsK d us)
  (ih : ∀ (i : Nat) (h : i < vs.length) (cells : List AV) (u : V), IsV cells u → Pur C n_yda [.agg ((cs.drop (i * 4)).take 4), .agg cells] (· = .ret (I (vs[i].cmp u)))) :
  Pur C n_ycz [.sl cs vs.length 4 .any, d, .fn n_yda [] []] (· = .ret (I (V.cmps vs us))) := by
 intro h nx
 refine S.c_ycz.call ?_
 simp [ycz]
 simp [ycz_r0]
 simp [ycz_r1]
 refine W.loopM (n := vs.length) (fun m tm' h' nx' => ∃ (j : Nat), m = vs.length - j ∧ j ≤ vs.length ∧ j ≤ us.length ∧ T.get (K 0) tm' = some (.sl cs vs.length 4 .any) ∧ T.get (K 1) tm' = some d ∧ T.get (K 2) tm' = some (.fn n_yda [] []) ∧
   T.get (K 11) tm' = some (.sl cs vs.length 4 .any) ∧ T.get (K 12) tm' = some (I vs.length) ∧ T.get (K 13) tm' = some (I j) ∧ Ext h nx h' nx' ∧ V.cmps (vs.drop j) (us.drop j) = V.cmps vs us) ?_ ?_
 ·refine ⟨0, by simp, by omega, by omega, ?_, ?_, ?_, ?_, ?_, ?_, Ext.refl _ _, by simp⟩ <;> simp
 ·rintro m tm1 h1 nx1 ⟨j, rfl, hj, hju, f0, f1, f2, f11, f12, f13, e1, hw⟩
  have t1 := e1.n
  have s1 := Key.toNat_succ nx1
  have s2 := Key.toNat_succ nx1.succ
  refine W.of ?_
  simp [ycz_l0]
  simp [ycz_r2, f12, f13]
  refine ⟨fun hlt => ?_, fun hge => ?_⟩
  ·have hjl : j < vs.length := by omega
   obtain ⟨c, ec, hKc⟩ := hcs.at hjl
   have hc' : ∀ n h, frzA n c h = (c, h) := IsK.stb hKc
   have hcc := IsK.cell hKc
   have h4 : 4 ≤ cs.length - j * 4 := by have := hcs.hc; omega
   have hvd : vs.drop j = vs[j] :: vs.drop (j + 1) := List.drop_eq_getElem_cons hjl
   simp [ycz_r3, f11, f13, hjl, h4, ec, hcc]
   by_cases hju2 : us.length ≤ j
   ·have hud : us.drop j = [] := List.drop_eq_nil_of_le hju2
    rw [hvd, hud, V.cmps] at hw
    have hE : Ext h nx (T.set nx1 (some (.cells [I vs[j].k, I vs[j].n, .str vs[j].a vs[j].b, c] .fix)) h1) nx1.succ := ⟨by omega, fun b hb => by rw [get_lt (by omega)]; exact e1.g b hb⟩
    rcases hd with ⟨rfl, rfl⟩ | ⟨ds, rfl, hul, hds⟩
    ·have hnl : (0 : Int) ≤ j := by omega
     simp [ycz_r4, ycz_r5, f1, hnl]
     rw [← hw]
     first | exact ⟨rfl, hE⟩ | exact ⟨fun _ => ⟨rfl, hE⟩, fun hh => absurd hh (by omega)⟩ | exact ⟨⟨rfl, hE⟩, fun hh => absurd hh (by omega)⟩
    ·have hnl : ¬ (j : Int) < us.length := by omega
     have hnl2 : ¬ j < us.length := by omega
     simp [ycz_r4, ycz_r5, f1, hnl, hnl2]
     rw [← hw]; exact ⟨rfl, hE⟩
   ·rcases hd with ⟨rfl, rfl⟩ | ⟨ds, rfl, hul, hds⟩
    ·simp at hju2
    ·have hju3 : j < us.length := by omega
     have hud : us.drop j = us[j] :: us.drop (j + 1) := List.drop_eq_getElem_cons hju3
     obtain ⟨c2, ec2, hKc2⟩ := hds.at hju3
     have hc2' : ∀ n h, frzA n c2 h = (c2, h) := IsK.stb hKc2
     have hcc2 := IsK.cell hKc2
     have h42 : 4 ≤ ds.length - j * 4 := by have := hds.hc; omega
     simp [ycz_r4, f1, hju3, hju2]
     simp [ycz_r6, f1, hju3, h42, ec2, hcc2]
     simp [ycz_r7, f2, S.raw, hc', hc2']
     have key := ih j hjl _ _ (IsV.ofV hKc2)
     rw [ec] at key
     refine (key _ _).mono ?_
     rintro o h2 nx2 ⟨rfl, e2⟩
     have t2 := e2.n
     have hE : Ext h nx h2 nx2 := ⟨by omega, fun b hb => by rw [e2.g b (by omega), get_lt (by omega), get_lt (by omega)]; exact e1.g b hb⟩
     rw [hvd, hud, V.cmps] at hw
     by_cases hz : vs[j].cmp us[j] = 0
     ·simp [hz] at hw
      simp [hz, ycz_r8]
      simp [ycz_r10, f13]
      refine ⟨vs.length - (j + 1), by omega, j + 1, rfl, by omega, by omega, ?_, ?_, ?_, ?_, ?_, ?_, hE, hw⟩ <;> simp [f0, f1, f2, f11, f12]
      rw [wrap_id (by omega) (by omega)]
     ·simp [hz] at hw
      simp [hz, ycz_r8, ycz_r9]
      exact ⟨hw, hE⟩
  ·have hjl : j = vs.length := by omega
   subst hjl
   rw [List.drop_length] at hw
   rcases hd with ⟨rfl, rfl⟩ | ⟨ds, rfl, hul, hds⟩
   ·have hv0 : vs.length = 0 := by simpa using hju
    have hv1 : vs = [] := List.eq_nil_of_length_eq_zero hv0
    subst hv1
    simp [ycz_r11, ycz_r13, f0, f1, V.cmps]
    exact e1
   ·by_cases hlt : vs.length < us.length
    ·have hud : us.drop vs.length = us[vs.length] :: us.drop (vs.length + 1) := List.drop_eq_getElem_cons hlt
     rw [hud, V.cmps] at hw
     simp [ycz_r11, ycz_r12, f0, f1, hlt]
     exact ⟨hw, e1⟩
    ·have hud : us.drop vs.length = [] := List.drop_eq_nil_of_le (by omega)
     rw [hud, V.cmps] at hw
     simp [ycz_r11, ycz_r13, f0, f1, hlt]
     exact ⟨hw, e1⟩
theorem cmp_body {v u : V} {c d : AV} (hc : IsK c v.kids) (hd : IsK d u.kids) (hf : Pur C n_ycz [c, d, .fn n_yda [] []] (· = .ret (I (V.cmps v.kids u.kids)))) :
  Pur C n_yda [.agg [I v.k, I v.n, .str v.a v.b, c], .agg [I u.k, I u.n, .str u.a u.b, d]] (· = .ret (I (v.cmp u))) := by
 intro h nx
 have hc' : ∀ n h, frzA n c h = (c, h) := IsK.stb hc
 have hd' : ∀ n h, frzA n d h = (d, h) := IsK.stb hd
 have s1 := Key.toNat_succ nx
 have s2 := Key.toNat_succ nx.succ
 rw [V.cmp_eq]
 refine S.c_yda.call ?_
 simp [yda]
 simp [yda_r0]
 simp [yda_r1, S.raw]
 refine (cmpInt_ok S _ _ _ _).mono ?_
 rintro o h1 nx1 ⟨rfl, e1⟩
 have t1 := e1.n
 have q0 := e1.g nx (by omega)
 have q1 := e1.g nx.succ (by omega)
 simp at q0 q1
 have hE1 : Ext h nx h1 nx1 := ⟨by omega, fun b hb => by rw [e1.g b (by omega), get_lt (by omega), get_lt (by omega)]⟩
 simp [yda_r2]
 by_cases z1 : cmpInt v.k u.k = 0
 ·simp [z1]
  simp [yda_r4, S.raw, q0, q1]
  refine (cmpInt_ok S _ _ _ _).mono ?_
  rintro o h2 nx2 ⟨rfl, e2⟩
  have t2 := e2.n
  have r0 := (e2.g nx (by omega)).trans q0
  have r1 := (e2.g nx.succ (by omega)).trans q1
  simp [yda_r5]
  by_cases z2 : cmpInt v.n u.n = 0
  ·simp [z2]
   simp [yda_r7, S.raw, r0, r1]
   refine (cmpS_ok S _ _ _ _ _ _).mono ?_
   rintro o h3 nx3 ⟨rfl, e3⟩
   have t3 := e3.n
   have u0 := (e3.g nx (by omega)).trans r0
   have u1 := (e3.g nx.succ (by omega)).trans r1
   simp [yda_r8]
   by_cases z3 : cmpS (v.a, v.b) (u.a, u.b) = 0
   ·simp [z3]
    simp [yda_r10, S.raw, u0, u1, hc', hd']
    refine (hf _ _).mono ?_
    rintro o h4 nx4 ⟨rfl, e4⟩
    simp
    exact ((hE1.trans e2).trans e3).trans e4
   ·simp [z3, yda_r9]; exact (hE1.trans e2).trans e3
  ·simp [z2, yda_r6]; exact hE1.trans e2
 ·simp [z1, yda_r3]; exact hE1
theorem compare_ok {lv lu : List AV} {v u : V} (hv : IsV lv v) (hu : IsV lu u) : Pur C n_yda [.agg lv, .agg lu] (· = .ret (I (v.cmp u))) := by
 induction hv generalizing lu u with
 | leaf k n a b =>
  obtain ⟨d, rfl, hd⟩ := hu.cells
  exact cmp_body S (v := .mk k n a b []) (.inl ⟨rfl, rfl⟩) hd (cmpF_nil S hd)
 | node k n a b cs vs hl hc hk ih =>
  obtain ⟨d, rfl, hd⟩ := hu.cells
  exact cmp_body S (v := .mk k n a b vs) (.inr ⟨cs, rfl, hl, hc, hk⟩) hd (cmpF_sl S hl ⟨hc, hk⟩ hd fun i h cells u hu => ih i h hu)
end Tz
/-
 SV: rows that are filled; copies of values. No condition.
-/
namespace Tz
open Go.Sx Go
structure Rw {α : Type} (z : Nat) (R : List AV → α → Prop) (cs : List AV) (vs : List α) : Prop where
 hc : cs.length = vs.length * z
 hk : ∀ (i : Nat) (h : i < vs.length), R ((cs.drop (i * z)).take z) vs[i]
theorem Rw.isVs {cs : List AV} {vs : List V} (h : Rw 4 IsV cs vs) : IsVs cs vs := ⟨h.hc, h.hk⟩
theorem Rw.nil {α : Type} (z : Nat) (R : List AV → α → Prop) : Rw z R [] [] := ⟨by simp, fun i h => absurd h (Nat.not_lt_zero i)⟩
theorem Rw.set {α : Type} {z : Nat} {R : List AV → α → Prop} {L u : List AV} {vs : List α} {j : Nat} (hL : L.length = vs.length * z) (hj : j < vs.length) (h : Rw z R (L.take (j * z)) (vs.take j)) (hu : u.length = z) (hR : R u vs[j]) :
  (L.take (j * z) ++ u ++ L.drop (j * z + z)).length = vs.length * z ∧ Rw z R ((L.take (j * z) ++ u ++ L.drop (j * z + z)).take ((j + 1) * z)) (vs.take (j + 1)) := by
 have hm : (j + 1) * z ≤ vs.length * z := Nat.mul_le_mul_right _ hj
 have hm1 : (j + 1) * z = j * z + z := Nat.succ_mul j z
 have hl1 : (L.take (j * z) ++ u).length = (j + 1) * z := by simp [hu]; omega
 have e : (L.take (j * z) ++ u ++ L.drop (j * z + z)).take ((j + 1) * z) = L.take (j * z) ++ u := by
  rw [List.take_append_of_le_length (by omega), List.take_of_length_le (by omega)]
 refine ⟨by simp [hu]; omega, ?_⟩
 rw [e]
 refine ⟨by rw [hl1, List.length_take]; congr 1; omega, fun i hi => ?_⟩
 have hi' : i < j + 1 := by simp at hi; omega
 rw [List.getElem_take]
 have hlt : (L.take (j * z)).length = j * z := by simp; omega
 by_cases hij : i < j
 ·have h1 : (i + 1) * z ≤ j * z := Nat.mul_le_mul_right _ hij
  have h2 : (i + 1) * z = i * z + z := Nat.succ_mul i z
  have := h.hk i (by simp; omega)
  rw [List.getElem_take] at this
  rw [List.drop_append_of_le_length (by omega), List.take_append_of_le_length (by rw [List.length_drop]; omega)]
  exact this
 ·have : i = j := by omega
  subst this
  rw [List.drop_append_of_le_length (by omega), List.drop_eq_nil_of_le (by omega), List.nil_append, List.take_of_length_le (by omega)]
  exact hR
theorem Rw.whole {α : Type} {z : Nat} {R : List AV → α → Prop} {L : List AV} {vs : List α} (hL : L.length = vs.length * z) (h : Rw z R (L.take (vs.length * z)) (vs.take vs.length)) : Rw z R L vs := by
 rwa [List.take_of_length_le (by omega), List.take_length] at h
variable {C : Cfg} (S : Std C)
include S
theorem cloneL_nil (c : AV) (hc : c = .nils ∨ c = .sl [] 0 4 .any) : Pur C n_yaa [c, .fn n_yab [] []] (· = .ret .nils) := by
 intro h nx
 refine S.c_yaa.call ?_
 simp [yaa]
 simp [yaa_r0]
 rcases hc with rfl | rfl
 ·simp [yaa_r1, yaa_r2]; exact Ext.refl _ _
 ·simp [yaa_r1, yaa_r2]; exact Ext.refl _ _
theorem cloneL_sl {cs : List AV} {vs : List V} (hvl : vs.length ≤ 4000) (hcs : IsVs cs vs) (hpos : vs.length ≠ 0)
  (ih : ∀ (i : Nat) (h : i < vs.length), Pur C n_yab [.agg ((cs.drop (i * 4)).take 4)] (fun o => ∃ l, IsV l vs[i] ∧ o = .ret (.agg l))) :
  Pur C n_yaa [.sl cs vs.length 4 .any, .fn n_yab [] []] (fun o => ∃ c, IsK c vs ∧ o = .ret c) := by
 intro h nx
 have s1 := Key.toNat_succ nx
 refine S.c_yaa.call ?_
 have hle : vs.length ≤ 65536 := by omega
 simp [yaa]
 simp [yaa_r0]
 simp [yaa_r1, hpos]
 simp [yaa_r3, hle]
 simp [yaa_r4]
 refine W.loopM (n := vs.length) (fun m tm' h' nx' => ∃ (j : Nat) (L : List AV), m = vs.length - j ∧ j ≤ vs.length ∧ T.get (K 0) tm' = some (.sl cs vs.length 4 .any) ∧ T.get (K 1) tm' = some (.fn n_yab [] []) ∧ T.get (K 5) tm' = some (.slice nx 0 vs.length 4) ∧
   T.get (K 14) tm' = some (I vs.length) ∧ T.get (K 15) tm' = some (I j) ∧ nx.succ.toNat ≤ nx'.toNat ∧ (∀ b : Key, b.toNat < nx.toNat → T.get b h' = T.get b h) ∧ T.get nx h' = some (.cells L .fix) ∧ L.length = vs.length * 4 ∧ Rw 4 IsV (L.take (j * 4)) (vs.take j)) ?_ ?_
 ·refine ⟨0, (List.replicate vs.length [I 0, I 0, .str 0 0, .nils]).flatten, by simp, by omega, ?_, ?_, ?_, ?_, ?_, by omega, fun b hb => by rw [get_lt hb], ?_, ?_, by simpa using Rw.nil 4 IsV⟩ <;> simp
 ·rintro m tm1 h1 nx1 ⟨j, L, rfl, hj, f0, f1, f5, f14, f15, t1, e1, hL, hLl, hR⟩
  refine W.of ?_
  simp [yaa_l0]
  simp [yaa_r5, f14, f15]
  refine ⟨fun hlt => ?_, fun hge => ?_⟩
  ·have hjl : j < vs.length := by omega
   obtain ⟨c, ec, hKc⟩ := hcs.at hjl
   have hc' : ∀ n h, frzA n c h = (c, h) := IsK.stb hKc
   have hcc := IsK.cell hKc
   have h4 : 4 ≤ cs.length - j * 4 := by have := hcs.hc; omega
   simp [yaa_r6, f15]
   simp [yaa_r7, f0, f1, f5, hjl, h4, ec, S.raw, hc']
   have key := ih j hjl
   rw [ec] at key
   refine (key _ _).mono ?_
   rintro o h2 nx2 ⟨⟨l, hl, rfl⟩, e2⟩
   have t2 := e2.n
   have q0 := (e2.g nx (by omega)).trans hL
   obtain ⟨c3, rfl, hK3⟩ := hl.cells
   have hcc3 := IsK.cell hK3
   have hput : j * 4 + 4 ≤ L.length := by omega
   have hset := Rw.set hLl hjl hR (u := [I vs[j].k, I vs[j].n, .str vs[j].a vs[j].b, c3]) rfl hl
   simp [q0, hcc3, hput, hjl]
   simp [yaa_r8, f15]
   simp at hset
   refine ⟨vs.length - (j + 1), by omega, j + 1, rfl, by omega, ?_, ?_, ?_, ?_, ?_, by omega, fun b hb => ?_, by simpa using hset.1, hset.2⟩
   ·simp [f0]
   ·simp [f1]
   ·simp [f5]
   ·simp [f14]
   ·simp; rw [wrap_id (by omega) (by omega)]
   ·rw [get_lt hb, e2.g b (by omega)]; exact e1 b hb
  ·have hjl : j = vs.length := by omega
   subst hjl
   have hW := (Rw.whole hLl hR).isVs
   simp [yaa_r9, f5]
   rw [frz_fix hL hLl (IsVs.stbs hW)]
   exact ⟨.inr ⟨L, rfl, hvl, hW⟩, by omega, fun b hb => by rw [get_lt hb]; exact e1 b hb⟩
theorem clone_body {v : V} {c : AV} (hc : IsK c v.kids) (hf : Pur C n_yaa [c, .fn n_yab [] []] (fun o => ∃ c, IsK c v.kids ∧ o = .ret c)) :
  Pur C n_yab [.agg [I v.k, I v.n, .str v.a v.b, c]] (fun o => ∃ l, IsV l v ∧ o = .ret (.agg l)) := by
 intro h nx
 have hc' : ∀ n h, frzA n c h = (c, h) := IsK.stb hc
 have s1 := Key.toNat_succ nx
 have s2 := Key.toNat_succ nx.succ
 refine S.c_yab.call ?_
 simp [yab]
 simp [yab_r0]
 simp [yab_r1, S.raw, hc']
 refine (hf _ _).mono ?_
 rintro o h1 nx1 ⟨⟨c2, hK2, rfl⟩, e1⟩
 have t1 := e1.n
 have q0 := e1.g nx (by omega)
 have q1 := e1.g nx.succ (by omega)
 simp at q0 q1
 have hcc := IsK.cell hK2
 have hcs := IsK.cells hK2
 have hc2 : ∀ n h, frzA n c2 h = (c2, h) := IsK.stb hK2
 simp [q0, hcc, hcs]
 simp [yab_r2, q1, hcc, hc2]
 exact ⟨IsV.ofV hK2, by omega, fun b hb => by rw [get_lt (by omega), get_lt (by omega), e1.g b (by omega), get_lt (by omega), get_lt (by omega)]⟩
theorem clone_ok {lv : List AV} {v : V} (hv : IsV lv v) : Pur C n_yab [.agg lv] (fun o => ∃ l, IsV l v ∧ o = .ret (.agg l)) := by
 induction hv with
 | leaf k n a b =>
  refine clone_body S (v := .mk k n a b []) (.inl ⟨rfl, rfl⟩) ?_
  intro h nx
  exact (cloneL_nil S _ (.inl rfl) h nx).mono fun o h' nx' hh => ⟨⟨.nils, .inl ⟨rfl, rfl⟩, hh.1⟩, hh.2⟩
 | node k n a b cs vs hl hc hk ih =>
  refine clone_body S (v := .mk k n a b vs) (.inr ⟨cs, rfl, hl, hc, hk⟩) ?_
  by_cases h0 : vs.length = 0
  ·have h1 : vs = [] := List.eq_nil_of_length_eq_zero h0
   subst h1
   have h2 : cs = [] := List.eq_nil_of_length_eq_zero (by simpa using hc)
   subst h2
   intro h nx
   exact (cloneL_nil S _ (.inr rfl) h nx).mono fun o h' nx' hh => ⟨⟨.nils, .inl ⟨rfl, rfl⟩, hh.1⟩, hh.2⟩
  ·exact cloneL_sl S hl ⟨hc, hk⟩ h0 ih
end Tz
