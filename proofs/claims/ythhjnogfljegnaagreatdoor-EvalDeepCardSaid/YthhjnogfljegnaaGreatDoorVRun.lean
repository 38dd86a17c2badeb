/-
 SV: how a run ends. No condition.
-/
import Derived.Test.YthhjnogfljegnaaGreatDoorVEval
import Derived.Test.YthhjnogfljegnaaGreatDoorVDef
set_option linter.unusedSimpArgs false
set_option linter.unusedVariables false
set_option linter.unusedSectionVars false
namespace Tz
open Go.Sx Go
theorem brA_mem {l : List Br} {x : AV} (h : x ∈ brsA l) : (∃ s, x = SA s) ∨ ∃ n, x = I n := by
 simp [brsA, brA] at h
 obtain ⟨b, hb, h⟩ := h
 rcases h with rfl | rfl | rfl
 ·exact .inl ⟨_, rfl⟩
 ·exact .inr ⟨_, rfl⟩
 ·exact .inr ⟨_, rfl⟩
theorem brsA_stb (l : List Br) : ∀ x ∈ brsA l, Stb x := by
 intro x hx
 rcases brA_mem hx with ⟨s, rfl⟩ | ⟨n, rfl⟩
 ·exact stb_str _ _
 ·exact fun k h => by cases k <;> rfl
theorem brsA_lits (l : List Br) : AV.litsL (brsA l) = true := litsL_of fun x hx => by
 rcases brA_mem hx with ⟨s, rfl⟩ | ⟨n, rfl⟩ <;> rfl
theorem brsA_length (l : List Br) : (brsA l).length = l.length * 3 := by
 induction l with
 | nil => rfl
 | cons b l ih => simp [brsA, brA] at ih ⊢; omega
theorem IsApp.beq {c : AV} {l : List AV} {len sz : Nat} {h : T Blk} {nx : Key} (ha : IsApp c l len sz h nx) (hl : AV.litsL l = true) : AV.beq c c = true := by
 rcases ha with ⟨rfl, rfl, rfl⟩ | ⟨b, rfl, hb, hlt, hll⟩ | ⟨t, rfl, ht, hlt⟩
 ·rfl
 ·exact beq_refl _ rfl
 ·exact beq_refl _ (by simp [AV.lits, hl])
def IsBrs0 (c : AV) (l : List Br) : Prop := (c = .nils ∧ l = []) ∨ c = .sl (brsA l) l.length 3 .any
structure IsBrs (c : AV) (l : List Br) : Prop where
 b : IsBrs0 c l
 z : l.length ≤ 1048576
theorem IsApp.frz {c : AV} {l : List Br} {h : T Blk} {nx : Key} (ha : IsApp c (brsA l) l.length 3 h nx) (n : Nat) : IsBrs0 (frzA (n + 1) c h).1 l ∧ ∀ b, Kp (T.get b h) → T.get b (frzA (n + 1) c h).2 = T.get b h := by
 rcases ha with ⟨rfl, hn, hl⟩ | ⟨b, rfl, hb, hlt, hll⟩ | ⟨t, rfl, ht, hlt⟩
 ·exact ⟨.inl ⟨rfl, List.eq_nil_of_length_eq_zero hl⟩, fun _ _ => rfl⟩
 ·rw [frz_part hb hll (brsA_stb l)]
  refine ⟨.inr rfl, fun x hx => ?_⟩
  have hne : x ≠ b := by intro e; subst e; rw [hb] at hx; exact hx
  rw [T.get_set_ne _ _ _ _ hne]
 ·exact ⟨.inr rfl, fun _ _ => rfl⟩
def ResOut (r : Res) (o : Out) : Prop := match r with
 | .ok v st => ∃ l c, IsV l v ∧ IsBrs c st.brs ∧ o = .ret (.tuple [.agg l, .agg [I st.cf, I st.cb, I st.fl], c, I 0])
 | .stop e st => ∃ c, IsBrs c st.brs ∧ o = .ret (.tuple [.agg [I 0, I 0, .str 0 0, .nils], .agg [I st.cf, I st.cb, I st.fl], c, I e])
structure RB (rb : Key) (nx : Key) (h : T Blk) (v cst : List AV) (br e : AV) : Prop where
 b0 : T.get nx h = some (.cells [.ptr rb 0] .fix)
 b1 : T.get nx.succ h = some (.cells v .fix)
 b2 : T.get nx.succ.succ h = some (.cells cst .fix)
 b3 : T.get nx.succ.succ.succ h = some (.cells [br] .fix)
 b4 : T.get nx.succ.succ.succ.succ h = some (.cells [e] .fix)
variable {C : Cfg} (S : Std C) {rb : Key} {D : RunB} {L : Lim}
include S
theorem result_ok {st : St} {h : T Blk} {nx : Key} {fb : Nat} {cap : List AV} {R0 : Res} {X : Key → Prop} (hX : ∀ b, X b → b.toNat < nx.toNat) (HL : Lims L) (hr : Run rb D L st h nx) (hcap : ∀ h, frzLA (frzA 8) cap h = (cap, h))
  (Hb : ∀ h' nx', Ext h nx h' nx' → CallA C fb cap h' nx' (EndsX X rb D L h' nx' R0)) :
  CallA C n_ybj [.ptr rb 0, .fn fb [] cap] h nx (fun o h' nx' => Fq X h nx h' nx' ∧ ResOut R0 o) := by
 have low := hr.low
 have s1 := Key.toNat_succ nx
 have s2 := Key.toNat_succ nx.succ
 have s3 := Key.toNat_succ nx.succ.succ
 have s4 := Key.toNat_succ nx.succ.succ.succ
 have s5 := Key.toNat_succ nx.succ.succ.succ.succ
 have ne0 : ¬ X nx := fun e => by have := hX _ e; omega
 have ne1 : ¬ X nx.succ := fun e => by have := hX _ e; omega
 have ne2 : ¬ X nx.succ.succ := fun e => by have := hX _ e; omega
 have ne3 : ¬ X nx.succ.succ.succ := fun e => by have := hX _ e; omega
 have ne4 : ¬ X nx.succ.succ.succ.succ := fun e => by have := hX _ e; omega
 refine defer_call (kr := k8) (kx := k8) (rs := [⟨some k5, .mov (.t k8), none⟩]) (g := n_ybk) (cap := [.ptr nx 0, .ptr nx.succ 0, .ptr nx.succ.succ 0, .ptr nx.succ.succ.succ 0, .ptr nx.succ.succ.succ.succ 0]) (S.c_ybj.off _ _ _) S.c_ybj.get rfl rfl S.c_ybk.get rfl rfl ?_
 refine W.of ?_
 rw [params0]
 simp [ybj_r0]
 refine W.of ?_
 -- what is known once the results' blocks are filled
 have fin : ∀ (tm2 : T AV) (h2 : T Blk) (nx2 : Key) (v : V) (lv : List AV) (st' : St) (br : AV) (e : Int), Fq X h nx h2 nx2 → RB rb nx h2 lv [I st'.cf, I st'.cb, I st'.fl] br (I e) → IsV lv v → IsApp br (brsA st'.brs) st'.brs.length 3 h2 nx2 →
   T.get (K 4) tm2 = some (.ptr nx.succ 0) → T.get (K 5) tm2 = some (.ptr nx.succ.succ 0) → T.get (K 6) tm2 = some (.ptr nx.succ.succ.succ 0) → T.get (K 7) tm2 = some (.ptr nx.succ.succ.succ.succ 0) →
   (∀ c, IsBrs0 c st'.brs → ResOut R0 (.ret (.tuple [.agg lv, .agg [I st'.cf, I st'.cb, I st'.fl], c, I e]))) →
   ∃ l, resultsA h2 tm2 ybj.res = some l ∧ (fun o h' nx' => Fq X h nx h' nx' ∧ ResOut R0 o) (Out.ret (tupled (frzIfA (C.rawR n_ybj) l h2).1)) (frzIfA (C.rawR n_ybj) l h2).2 nx2 := by
  intro tm2 h2 nx2 v lv st' br e F B hv ha k4 k5 k6 k7 hro
  obtain ⟨c, rfl, hK⟩ := hv.cells
  have hcf : ∀ n h, frzA n c h = (c, h) := IsK.stb hK
  obtain ⟨hf1, hf2⟩ := ha.frz 7
  refine ⟨[.agg [I v.k, I v.n, .str v.a v.b, c], .agg [I st'.cf, I st'.cb, I st'.fl], br, I e], ?_, ?_⟩
  ·simp [ybj, k4, k5, k6, k7, B.b1, B.b2, B.b3, B.b4]
  ·rw [S.c_ybj.rawR]
   simp [hcf]
   refine ⟨⟨F.n, fun b hb hne hk => ?_⟩, hro _ hf1⟩
   have := F.g b hb hne hk
   rw [hf2 b (by rw [this]; exact hk), this]
 have E5 : Ext h nx (T.set nx.succ.succ.succ.succ (some (.cells [I 0] .fix)) (T.set nx.succ.succ.succ (some (.cells [.nils] .fix)) (T.set nx.succ.succ (some (.cells [I 0, I 0, I 0] .fix)) (T.set nx.succ (some (.cells [I 0, I 0, .str 0 0, .nils] .fix)) (T.set nx (some (.cells [.ptr rb 0] .fix)) h))))) nx.succ.succ.succ.succ.succ :=
  ⟨by omega, fun b hb => by simp (disch := omega) only [get_lt (α := Blk)]⟩
 have hcap' : ∀ h, frzLA (frzA 8) cap h = (cap, h) := hcap
 simp [ybj_r2, S.raw, hcap']
 refine (Hb _ _ E5).mono ?_
 rintro o h6 nx6 ⟨f6, hR⟩
 have t6 := f6.n
 have F6 : Fq X h nx h6 nx6 := Fq.from E5 f6
 have B6 : RB rb nx h6 [I 0, I 0, .str 0 0, .nils] [I 0, I 0, I 0] .nils (I 0) := by
  refine ⟨?_, ?_, ?_, ?_, ?_⟩
  ·rw [f6.g _ (by omega) ne0 (by simp; trivial)]; simp
  ·rw [f6.g _ (by omega) ne1 (by simp; trivial)]; simp
  ·rw [f6.g _ (by omega) ne2 (by simp; trivial)]; simp
  ·rw [f6.g _ (by omega) ne3 (by simp; trivial)]; simp
  ·rw [f6.g _ (by omega) ne4 (by simp; trivial)]; simp
 cases R0 with
 | stop c st' =>
  obtain ⟨rfl, hR⟩ := hR
  have bz : st'.brs.length ≤ 1048576 := by have := hR.nb; have := hR.c1; have := HL.f1; omega
  simp [stopO]
  unfold DefPost
  refine wpO_sound ?_
  rw [params0]
  simp
  refine W.of ?_
  simp [ybk_r1, eqV]
  simp [ybk_r2]
  have E7 := E0 h6 nx6 (.cells [I c] .fix)
  have s7 := Key.toNat_succ nx6
  have r7 := hR.ext E7
  obtain ⟨br, hb7, ha7⟩ := r7.blk
  have q0 := (E7.g nx (by omega)).trans B6.b0
  have q1 := (E7.g nx.succ (by omega)).trans B6.b1
  have q2 := (E7.g nx.succ.succ (by omega)).trans B6.b2
  have q3 := (E7.g nx.succ.succ.succ (by omega)).trans B6.b3
  have q4 := (E7.g nx.succ.succ.succ.succ (by omega)).trans B6.b4
  have gn1 : ∀ u t, T.get nx6 (T.set nx.succ u t) = T.get (α := Blk) nx6 t := fun u t => get_gt (by omega)
  have gn2 : ∀ u t, T.get nx6 (T.set nx.succ.succ u t) = T.get (α := Blk) nx6 t := fun u t => get_gt (by omega)
  have gn3 : ∀ u t, T.get nx6 (T.set nx.succ.succ.succ u t) = T.get (α := Blk) nx6 t := fun u t => get_gt (by omega)
  have hbc := ha7.cell.1
  have hbs := ha7.cell.2
  simp [ybk_r3]
  simp [ybk_r5, q0, q1, q2, q3, q4, hb7, gn1, gn2, gn3, hbc, hbs, AV.beq, SI.beq]
  have fin' := fin
  simp at fin'
  refine fin' _ _ _ (.mk 0 0 0 0 []) [I 0, I 0, .str 0 0, .nils] st' br c ?_ ⟨?_, ?_, ?_, ?_, ?_⟩ (.leaf 0 0 0 0) ?_ ?_ ?_ ?_ ?_ ?_
  ·exact ⟨by have := F6.n; omega, fun b hb hne hk => by
    simp (disch := omega) only [get_lt (α := Blk)]
    exact F6.g b hb hne hk⟩
  ·simp [q0]
  ·simp
  ·simp
  ·simp
  ·simp
  ·refine ha7.keep (Nat.le_refl _) fun b hb hx => ?_
   have hnf : ∀ k l, T.get k (T.set nx6 (some (.cells [I c] .fix)) h6) = some (.cells l .fix) → b ≠ k := by
    intro k l hk e
    subst e
    rcases hx with hx | ⟨l', hx⟩ <;> rw [hk] at hx <;> cases hx
   rw [T.get_set_ne _ _ _ _ (hnf _ _ q4), T.get_set_ne _ _ _ _ (hnf _ _ q3), T.get_set_ne _ _ _ _ (hnf _ _ q2), T.get_set_ne _ _ _ _ (hnf _ _ q1)]
  ·simp
  ·simp
  ·simp
  ·simp
  ·intro c' hc'
   exact ⟨c', ⟨hc', bz⟩, rfl⟩
 | ok v st' =>
  obtain ⟨⟨c, hK, rfl⟩, hR⟩ := hR
  have bz : st'.brs.length ≤ 1048576 := by have := hR.nb; have := hR.c1; have := HL.f1; omega
  have hcf : ∀ n h, frzA n c h = (c, h) := IsK.stb hK
  simp [S.raw, hcf]
  refine (clone_ok S (IsV.ofV hK) _ _).mono ?_
  rintro o h7 nx7 ⟨⟨lv, hlv, rfl⟩, e7⟩
  have t7 := e7.n
  have r7 := hR.ext e7
  obtain ⟨c2, rfl, hK2⟩ := hlv.cells
  have hcc := IsK.cell hK2
  obtain ⟨br, hb7, ha7⟩ := r7.blk
  have q0 := (e7.g nx (by omega)).trans B6.b0
  have q1 := (e7.g nx.succ (by omega)).trans B6.b1
  have q2 := (e7.g nx.succ.succ (by omega)).trans B6.b2
  have q3 := (e7.g nx.succ.succ.succ (by omega)).trans B6.b3
  have q4 := (e7.g nx.succ.succ.succ.succ (by omega)).trans B6.b4
  have gr1 : ∀ u t, T.get rb (T.set nx.succ u t) = T.get (α := Blk) rb t := fun u t => get_lt (by omega)
  have gr2 : ∀ u t, T.get rb (T.set nx.succ.succ u t) = T.get (α := Blk) rb t := fun u t => get_lt (by omega)
  have gr3 : ∀ u t, T.get rb (T.set nx.succ.succ.succ u t) = T.get (α := Blk) rb t := fun u t => get_lt (by omega)
  have hbq := ha7.beq (brsA_lits _)
  have hbc := ha7.cell.1
  have hbs := ha7.cell.2
  simp [q1, hcc]
  simp [ybj_r3, q0, q1, q2, q3, q4, hb7, gr1, gr2, gr3, hbq, hbc, hbs, hcc, AV.beq, AV.beqs, SI.beq, keyBeq_refl]
  unfold DefPost
  refine wpO_sound ?_
  rw [params0]
  simp
  refine W.of ?_
  simp [ybk_r1, eqV]
  have fin' := fin
  simp at fin'
  refine fin' _ _ _ v [I v.k, I v.n, .str v.a v.b, c2] st' br 0 ?_ ⟨?_, ?_, ?_, ?_, ?_⟩ hlv ?_ ?_ ?_ ?_ ?_ ?_
  ·exact ⟨by have := F6.n; omega, fun b hb hne hk => by
    simp (disch := omega) only [get_lt (α := Blk)]
    rw [e7.g b (by have := F6.n; omega)]
    exact F6.g b hb hne hk⟩
  ·simp [q0]
  ·simp
  ·simp
  ·simp
  ·simp
  ·refine ha7.keep (Nat.le_refl _) fun b hb hx => ?_
   have hnf : ∀ k l, T.get k h7 = some (.cells l .fix) → b ≠ k := by
    intro k l hk e
    subst e
    rcases hx with hx | ⟨l', hx⟩ <;> rw [hk] at hx <;> cases hx
   rw [T.get_set_ne _ _ _ _ (hnf _ _ q4), T.get_set_ne _ _ _ _ (hnf _ _ q3), T.get_set_ne _ _ _ _ (hnf _ _ q2), T.get_set_ne _ _ _ _ (hnf _ _ q1)]
  ·simp
  ·simp
  ·simp
  ·simp
  ·intro c' hc'
   exact ⟨_, c', hlv, ⟨hc', bz⟩, rfl⟩
end Tz
/-
 SV: runs without a module. No condition.
-/
namespace Tz
open Go.Sx Go
def st0 : St := ⟨0, 0, 0, 0, []⟩
def clampL (fu ro se att : Int) : Lim := ⟨min (max fu 0) 1048576, min (max ro 0) 1024, se, att⟩
theorem clamp_lims (fu ro se att : Int) : Lims (clampL fu ro se att) := ⟨by simp [clampL]; omega, by simp [clampL]; omega, by simp [clampL]; omega, by simp [clampL]; omega⟩
variable {C : Cfg} (S : Std C)
include S
theorem builtins_ok (h : T Blk) (nx : Key) : CallA C n_yal [] h nx (fun o h' nx' => o = .ret (.map nx) ∧ T.get nx h' = some (.map bmA) ∧ nx' = nx.succ ∧ Ext h nx h' nx') := by
 refine S.c_yal.call ?_
 simp [yal]
 simp [yal_r0]
 simp [yal_r1]
 exact ⟨rfl, E0 h nx _⟩
end Tz
/-
 SV: runs with a module. No condition.
-/
namespace Tz
open Go.Sx Go
structure NRun (kb bf bc bb rb : Key) (dc : AV) (L : Lim) (h : T Blk) (nx : Key) (lf lc : List (S × AV)) (h' : T Blk) (nx' : Key) : Prop where
 n : rb.toNat < nx'.toNat
 m : T.get kb h' = some (.cells [dc] .fix)
 r : T.get rb h' = some (.cells [.map bf, .map bc, .map bb, I L.fuel, I L.room, I L.seed, I L.att, I 0, I 0, I 0, I 0, .nils] .fix)
 f : T.get bf h' = some (.map (fmOf lf))
 c : T.get bc h' = some (.map (fmOf lc))
 b : T.get bb h' = some (.map bmA)
 g : ∀ b : Key, b.toNat < nx.toNat → T.get b h' = T.get b h
structure NKeys (nx kb bf bc bb rb : Key) : Prop where
 k0 : nx.toNat ≤ kb.toNat
 k1 : kb.toNat < bf.toNat
 k2 : bf.toNat < bc.toNat
 k3 : bc.toNat < bb.toNat
 k4 : bb.toNat < rb.toNat
section
variable {kb bf bc bb rb : Key} {dc : AV} {L : Lim} {h : T Blk} {nx : Key} {lf lc : List (S × AV)} {h' : T Blk} {nx' : Key}
theorem NRun.new (r : NRun kb bf bc bb rb dc L h nx lf lc h' nx') (k : NKeys nx kb bf bc bb rb) (B : Blk) : NRun kb bf bc bb rb dc L h nx lf lc (T.set nx' (some B) h') nx'.succ := by
 have s1 := Key.toNat_succ nx'
 obtain ⟨n, m, r1, f, c, b, g⟩ := r
 obtain ⟨k0, k1, k2, k3, k4⟩ := k
 refine ⟨by omega, ?_, ?_, ?_, ?_, ?_, fun x hx => ?_⟩ <;> rw [get_lt (by omega)] <;> first | assumption | exact g x hx
theorem ne_of_lt {a b : Key} (h : a.toNat < b.toNat) : a ≠ b := fun e => by rw [e] at h; omega
theorem NRun.setF (r : NRun kb bf bc bb rb dc L h nx lf lc h' nx') (k : NKeys nx kb bf bc bb rb) (l : List (S × AV)) : NRun kb bf bc bb rb dc L h nx l lc (T.set bf (some (.map (fmOf l))) h') nx' := by
 obtain ⟨n, m, r1, f, c, b, g⟩ := r
 obtain ⟨k0, k1, k2, k3, k4⟩ := k
 refine ⟨n, ?_, ?_, T.get_set_same _ _ _, ?_, ?_, fun x hx => ?_⟩
 ·rw [T.get_set_ne _ _ _ _ (ne_of_lt k1)]; exact m
 ·rw [T.get_set_ne _ _ _ _ (Ne.symm (ne_of_lt (by omega)))]; exact r1
 ·rw [T.get_set_ne _ _ _ _ (Ne.symm (ne_of_lt (by omega)))]; exact c
 ·rw [T.get_set_ne _ _ _ _ (Ne.symm (ne_of_lt (by omega)))]; exact b
 ·rw [T.get_set_ne _ _ _ _ (ne_of_lt (by omega))]; exact g x hx
theorem NRun.setC (r : NRun kb bf bc bb rb dc L h nx lf lc h' nx') (k : NKeys nx kb bf bc bb rb) (l : List (S × AV)) : NRun kb bf bc bb rb dc L h nx lf l (T.set bc (some (.map (fmOf l))) h') nx' := by
 obtain ⟨n, m, r1, f, c, b, g⟩ := r
 obtain ⟨k0, k1, k2, k3, k4⟩ := k
 refine ⟨n, ?_, ?_, ?_, T.get_set_same _ _ _, ?_, fun x hx => ?_⟩
 ·rw [T.get_set_ne _ _ _ _ (ne_of_lt (by omega))]; exact m
 ·rw [T.get_set_ne _ _ _ _ (Ne.symm (ne_of_lt (by omega)))]; exact r1
 ·rw [T.get_set_ne _ _ _ _ (ne_of_lt (by omega))]; exact f
 ·rw [T.get_set_ne _ _ _ _ (Ne.symm (ne_of_lt (by omega)))]; exact b
 ·rw [T.get_set_ne _ _ _ _ (ne_of_lt (by omega))]; exact g x hx
end
def RelC (lc : List (S × AV)) (cs : List (S × Int)) : Prop := ∀ nm : S, findA nm lc = (findA nm cs).map I
theorem RelC.add {lc : List (S × AV)} {cs : List (S × Int)} (r : RelC lc cs) (nm : S) (n : Int) : (findA nm lc = none → RelC (lc ++ [(nm, I n)]) (cs ++ [(nm, n)])) ∧ (findA nm lc ≠ none → RelC lc (cs ++ [(nm, n)])) := by
 constructor
 ·intro hn x
  rw [findA_app, findA_app, r x]
  cases hx : findA x cs with
  | some v => rfl
  | none =>
   simp only [Option.map, findA]
   by_cases he : x = nm
   ·simp [he]
   ·simp [he]
 ·intro hn x
  rw [findA_app, r x]
  cases hx : findA x cs with
  | some v => rfl
  | none =>
   simp only [Option.map, findA]
   by_cases he : x = nm
   ·subst he; rw [r x, hx] at hn; exact absurd rfl hn
   ·simp [he]
theorem RelF.add {lf : List (S × AV)} {fs : List (S × Fun)} (r : RelF (fmOf lf) fs) (F : Fun) (p : AV) (hp : IsFp p F) : (findA F.name lf = none → RelF (fmOf (lf ++ [(F.name, p)])) (fs ++ [(F.name, F)])) ∧ (findA F.name lf ≠ none → RelF (fmOf lf) (fs ++ [(F.name, F)])) := by
 have r' : ∀ x : S, match findA x fs with | none => findA x lf = none | some G => ∃ q, findA x lf = some q ∧ IsFp q G := by
  intro x
  have := r x
  cases hx : findA x fs with
  | none => rw [hx] at this; simp only [findK_fm] at this; exact Option.some.inj this
  | some G =>
   rw [hx] at this
   obtain ⟨q, hq, hG⟩ := this
   rw [findK_fm] at hq
   exact ⟨q, Option.some.inj hq, hG⟩
 constructor
 ·intro hn x
  have := r' x
  simp only [findK_fm, findA_app]
  cases hx : findA x fs with
  | some G =>
   rw [hx] at this
   obtain ⟨q, hq, hG⟩ := this
   simp only [hq]
   exact ⟨q, rfl, hG⟩
  | none =>
   rw [hx] at this
   simp only [this, findA]
   by_cases he : x = F.name
   ·simp only [he, if_true]; exact ⟨p, rfl, hp⟩
   ·simp only [he, if_false]
 ·intro hn x
  have := r' x
  simp only [findK_fm, findA_app]
  cases hx : findA x fs with
  | some G =>
   rw [hx] at this
   obtain ⟨q, hq, hG⟩ := this
   simp only [hq]
   exact ⟨q, rfl, hG⟩
  | none =>
   rw [hx] at this
   simp only [this, findA]
   by_cases he : x = F.name
   ·subst he; exact absurd this hn
   ·simp only [he, if_false]
def CtInv (kb bf bc bb rb : Key) (dc : AV) (L : Lim) (h : T Blk) (nx : Key) (lf : List (S × AV)) (pre : List (S × Int)) (cts : List (S × Nat)) (ccs : List AV) (dn i : Int) (m : Nat) (tm' : T AV) (h' : T Blk) (nx' : Key) : Prop :=
 ∃ (j : Nat) (lc : List (S × AV)), m = cts.length - j ∧ j ≤ cts.length ∧ T.get (K 3) tm' = some (.ptr kb 0) ∧ T.get (K 7) tm' = some (.ptr rb 0) ∧ T.get (K 32) tm' = some (I dn) ∧ T.get (K 33) tm' = some (I i) ∧ T.get (K 74) tm' = some (.sl ccs cts.length 2 .any) ∧ T.get (K 75) tm' = some (I cts.length) ∧ T.get (K 76) tm' = some (I j) ∧
  NRun kb bf bc bb rb dc L h nx lf lc h' nx' ∧ RelC lc (pre ++ (cts.take j).map fun x => (x.1, (x.2 : Int)))
variable {C : Cfg} (S : Std C)
include S
theorem ct_loop {kb bf bc bb rb : Key} {dc : AV} {L : Lim} {h : T Blk} {nx : Key} {lf : List (Go.Sx.S × AV)} {pre : List (Go.Sx.S × Int)} {cts : List (Go.Sx.S × Nat)} {ccs : List AV} {dn i : Int} (kk : NKeys nx kb bf bc bb rb) (hcl : cts.length ≤ 4000) (hcs : Rw 2 IsCtr ccs cts) (Q : Post) {tm : T AV} {h1 : T Blk} {nx1 : Key}
  (hi : CtInv kb bf bc bb rb dc L h nx lf pre cts ccs dn i cts.length tm h1 nx1)
  (hq : ∀ tm' h' nx' lc, T.get (K 3) tm' = some (.ptr kb 0) → T.get (K 7) tm' = some (.ptr rb 0) → T.get (K 32) tm' = some (I dn) → T.get (K 33) tm' = some (I i) → NRun kb bf bc bb rb dc L h nx lf lc h' nx' → RelC lc (pre ++ cts.map fun x => (x.1, (x.2 : Int))) → Q (.exit 3) tm' h' nx') :
  W C (.loop yba_l1) Q tm h1 nx1 := by
 refine W.loopM (n := cts.length) (CtInv kb bf bc bb rb dc L h nx lf pre cts ccs dn i) hi ?_
 rintro m tm2 h2 nx2 ⟨j, lc, rfl, hj, f3, f7, f32, f33, f74, f75, f76, hN, hC⟩
 have s2 := Key.toNat_succ nx2
 refine W.of ?_
 simp [yba_l1]
 simp [yba_r13, f75, f76]
 refine ⟨fun hlt => ?_, fun hge => ?_⟩
 ·have hjl : j < cts.length := by omega
  obtain ⟨c, ec, hL⟩ := hcs.hk j hjl
  have hcc : c.isCell = true := by rcases hL with ⟨rfl, _⟩ | ⟨_, _, rfl⟩ <;> rfl
  have h2' : 2 ≤ ccs.length - j * 2 := by have := hcs.hc; omega
  simp [yba_r14, f74, f76, hjl, h2', ec, hcc]
  have N2 := hN.new kk (.cells [SA cts[j].1, c] .fix)
  have q2 : T.get nx2 (T.set nx2 (some (.cells [SA cts[j].1, c] .fix)) h2) = some (.cells [SA cts[j].1, c] .fix) := T.get_set_same _ _ _
  generalize T.set nx2 (some (.cells [SA cts[j].1, c] .fix)) h2 = h3 at *
  have gr := N2.r
  have gc := N2.c
  have hfk := findK_fm cts[j].1 lc
  have hadd := hC.add cts[j].1 (cts[j].2 : Int)
  have htk : (pre ++ (cts.take j).map fun x => (x.1, (x.2 : Int))) ++ [(cts[j].1, (cts[j].2 : Int))] = pre ++ (cts.take (j + 1)).map fun x => (x.1, (x.2 : Int)) := by
   rw [List.take_succ_eq_append_getElem hjl, List.map_append, List.append_assoc]; rfl
  rw [htk] at hadd
  cases hf : findA cts[j].1 lc with
  | some v =>
   rw [hf] at hfk
   simp only [SA] at hfk
   simp [yba_r15, f7, gr, gc, q2, hfk, S.orc]
   simp [yba_r16]
   simp [yba_r18, f76]
   refine ⟨cts.length - (j + 1), by omega, j + 1, lc, rfl, by omega, ?_, ?_, ?_, ?_, ?_, ?_, ?_, N2, hadd.2 (by rw [hf]; simp)⟩
   ·simp [f3]
   ·simp [f7]
   ·simp [f32]
   ·simp [f33]
   ·simp [f74]
   ·simp [f75]
   ·simp; rw [wrap_id (by omega) (by omega)]
  | none =>
   rw [hf] at hfk
   simp only [SA] at hfk
   have hsk := setK_fm cts[j].1 (I cts[j].2) lc hf
   simp only [SA] at hsk
   have hlen : ∀ (P : AV → Prop), (P (I cts[j].2) → True) := fun _ _ => trivial
   simp [yba_r15, f7, gr, gc, q2, hfk, S.orc]
   simp [yba_r16]
   have fin : ∀ tm, T.get (K 3) tm = some (.ptr kb 0) → T.get (K 7) tm = some (.ptr rb 0) → T.get (K 32) tm = some (I dn) → T.get (K 33) tm = some (I i) → T.get (K 74) tm = some (.sl ccs cts.length 2 .any) → T.get (K 75) tm = some (I cts.length) → T.get (K 76) tm = some (I (j + 1)) →
     ∃ m, m < cts.length - j ∧ CtInv kb bf bc bb rb dc L h nx lf pre cts ccs dn i m tm (T.set bc (some (.map (fmOf (lc ++ [(cts[j].1, I cts[j].2)])))) h3) nx2.succ := by
    intro tm g3 g7 g32 g33 g74 g75 g76
    exact ⟨cts.length - (j + 1), by omega, j + 1, _, rfl, by omega, g3, g7, g32, g33, g74, g75, by simpa using g76, N2.setC kk _, hadd.1 hf⟩
   rcases hL with ⟨rfl, hz⟩ | ⟨xs, z, rfl⟩
   ·rw [hz, show ((0 : Nat) : Int) = 0 from rfl] at hsk fin
    simp [yba_r17, f7, gr, gc, q2, hsk, S.orc]
    simp [yba_r18, f76]
    refine fin _ ?_ ?_ ?_ ?_ ?_ ?_ ?_ <;> simp [f3, f7, f32, f33, f74, f75]
    rw [wrap_id (by omega) (by omega)]
   ·simp [yba_r17, f7, gr, gc, q2, hsk, S.orc]
    simp [yba_r18, f76]
    refine fin _ ?_ ?_ ?_ ?_ ?_ ?_ ?_ <;> simp [f3, f7, f32, f33, f74, f75]
    rw [wrap_id (by omega) (by omega)]
 ·have hjl : j = cts.length := by omega
  subst hjl
  rw [List.take_length] at hC
  exact hq _ _ _ lc (by simp [f3]) (by simp [f7]) (by simp [f32]) (by simp [f33]) hN hC
omit S in
theorem mod_take {ds : List Dl} {i : Nat} (hi : i < ds.length) : modF (ds.take (i + 1)) = modF (ds.take i) ++ modF [ds[i]] ∧ modC (ds.take (i + 1)) = modC (ds.take i) ++ modC [ds[i]] := by
 rw [List.take_succ_eq_append_getElem hi, modF_app, modC_app]; exact ⟨rfl, rfl⟩
omit S in
def DsInv (kb bf bc bb rb : Key) (dc : AV) (L : Lim) (h : T Blk) (nx : Key) (ds : List Dl) (m : Nat) (tm' : T AV) (h' : T Blk) (nx' : Key) : Prop :=
 ∃ (i : Nat) (lf lc : List (Go.Sx.S × AV)), m = ds.length - i ∧ i ≤ ds.length ∧ T.get (K 3) tm' = some (.ptr kb 0) ∧ T.get (K 7) tm' = some (.ptr rb 0) ∧ T.get (K 32) tm' = some (I ds.length) ∧ T.get (K 33) tm' = some (I i) ∧
  NRun kb bf bc bb rb dc L h nx lf lc h' nx' ∧ RelF (fmOf lf) (modF (ds.take i)) ∧ RelC lc (modC (ds.take i))
theorem ds_loop {kb bf bc bb rb : Key} {L : Lim} {h : T Blk} {nx : Key} {ds : List Dl} {cs : List AV} (kk : NKeys nx kb bf bc bb rb) (hdl : ds.length ≤ 4000) (hcs : Rw 45 IsDl cs ds) (Q : Post) {tm : T AV} {h1 : T Blk} {nx1 : Key}
  (hi : DsInv kb bf bc bb rb (.sl cs ds.length 45 .any) L h nx ds ds.length tm h1 nx1)
  (hq : ∀ tm' h' nx' lf lc, T.get (K 7) tm' = some (.ptr rb 0) → NRun kb bf bc bb rb (.sl cs ds.length 45 .any) L h nx lf lc h' nx' → RelF (fmOf lf) (modF ds) → RelC lc (modC ds) → Q (.exit 0) tm' h' nx') :
  W C (.loop yba_l0) Q tm h1 nx1 := by
 refine W.loopM (n := ds.length) (DsInv kb bf bc bb rb (.sl cs ds.length 45 .any) L h nx ds) hi ?_
 rintro m tm2 h2 nx2 ⟨i, lf, lc, rfl, hi', f3, f7, f32, f33, hN, hF, hC⟩
 refine W.of ?_
 simp [yba_l0]
 simp [yba_r3, f32, f33]
 refine ⟨fun hlt => ?_, fun hge => ?_⟩
 ·have hil : i < ds.length := by omega
  have hD := hcs.hk i hil
  have h45 : 45 ≤ cs.length - i * 45 := by have := hcs.hc; omega
  obtain ⟨mf, mc⟩ := mod_take hil
  generalize hl : (cs.drop (i * 45)).take 45 = ld at hD
  have gm := hN.m
  have gr := hN.r
  have gf := hN.f
  have gc := hN.c
  have hk := hD.k
  have hnm := hD.nm
  simp [yba_r4, f33]
  simp [yba_r5, f3, gm, hil, h45, hl]
  simp [yba_r6, hk]
  have next : ∀ tm h3 nx3 lf lc, T.get (K 3) tm = some (.ptr kb 0) → T.get (K 7) tm = some (.ptr rb 0) → T.get (K 32) tm = some (I ds.length) → T.get (K 33) tm = some (I i) → NRun kb bf bc bb rb (.sl cs ds.length 45 .any) L h nx lf lc h3 nx3 → RelF (fmOf lf) (modF (ds.take (i + 1))) → RelC lc (modC (ds.take (i + 1))) →
    wpC C (.ops yba_r19) (seqPost (fun tm h' nx' => ∃ m, m < ds.length - i ∧ DsInv kb bf bc bb rb (.sl cs ds.length 45 .any) L h nx ds m tm h' nx') Q) tm h3 nx3 := by
   intro tm h3 nx3 lf lc g3 g7 g32 g33 N F C'
   simp [yba_r19, g33]
   refine ⟨ds.length - (i + 1), by omega, i + 1, lf, lc, rfl, by omega, ?_, ?_, ?_, ?_, N, F, C'⟩
   ·simp [g3]
   ·simp [g7]
   ·simp [g32]
   ·simp; rw [wrap_id (by omega) (by omega)]
  simp only [wpC_ops] at next
  by_cases hk1 : ds[i].kind = 1
  ·have hk1' : (ds[i].kind == 1) = true := by simpa using hk1
   simp [yba_r7, hk1']
   have hfk := findK_fm ds[i].f.name lf
   have hadd := hF.add ds[i].f (.cref ld) ⟨ld, ds[i], rfl, hD, rfl⟩
   have e1 : modF [ds[i]] = [(ds[i].f.name, ds[i].f)] := by simp [modF, hk1]
   have e2 : modC [ds[i]] = [] := by simp [modC, hk1]
   rw [e1] at mf
   rw [e2, List.append_nil] at mc
   rw [← mf] at hadd
   cases hf : findA ds[i].f.name lf with
   | some v =>
    rw [hf] at hfk
    simp only [SA] at hfk
    simp [yba_r8, f7, gr, gf, hnm, hfk, S.orc]
    simp [yba_r9]
    refine next _ _ _ lf lc ?_ ?_ ?_ ?_ hN (hadd.2 (by rw [hf]; simp)) (by rw [mc]; exact hC) <;> simp [f3, f7, f32, f33]
   | none =>
    rw [hf] at hfk
    simp only [SA] at hfk
    have hsk := setK_fm ds[i].f.name (.cref ld) lf hf
    simp only [SA] at hsk
    simp [yba_r8, f7, gr, gf, hnm, hfk, S.orc]
    simp [yba_r9]
    simp [yba_r10, f7, gr, gf, hnm, hsk, S.orc]
    refine next _ _ _ _ lc ?_ ?_ ?_ ?_ (hN.setF kk _) (hadd.1 hf) (by rw [mc]; exact hC) <;> simp [f3, f7, f32, f33]
  ·have hk1' : (ds[i].kind == 1) = false := by simpa using hk1
   have e1 : modF [ds[i]] = [] := by simp [modF, hk1]
   rw [e1, List.append_nil] at mf
   simp [yba_r7, hk1']
   by_cases hk0 : ds[i].kind = 0
   ·have hk0' : (ds[i].kind == 0) = true := by simpa using hk0
    have e2 : modC [ds[i]] = ds[i].cts.map fun x => (x.1, (x.2 : Int)) := by simp [modC, hk0]
    rw [e2] at mc
    simp [yba_r11, hk0']
    obtain ⟨cc, hc3, hct⟩ := hD.ct
    rcases hct with ⟨rfl, hcn⟩ | ⟨ccs, rfl, hcl, hccs⟩
    ·simp [yba_r12, hc3]
     refine W.unroll (W.of ?_)
     simp [yba_l1]
     simp [yba_r13]
     rw [hcn] at mc
     refine next _ _ _ lf lc ?_ ?_ ?_ ?_ hN (by rw [mf]; exact hF) (by rw [mc]; simpa using hC) <;> simp [f3, f7, f32, f33]
    ·simp [yba_r12, hc3]
     refine ct_loop S kk hcl hccs _ (dn := ds.length) (i := i) (pre := modC (ds.take i)) (lf := lf) (L := L) (h := h) (dc := .sl cs ds.length 45 .any) ?_ ?_
     ·refine ⟨0, lc, by simp, by omega, ?_, ?_, ?_, ?_, ?_, ?_, ?_, hN, by simpa using hC⟩ <;> simp [f3, f7, f32, f33]
     ·intro tm' h' nx' lc' g3 g7 g32 g33 N' C'
      simp
      refine next _ _ _ lf lc' g3 g7 g32 g33 N' (by rw [mf]; exact hF) (by rw [mc]; exact C')
   ·have hk0' : (ds[i].kind == 0) = false := by simpa using hk0
    have e2 : modC [ds[i]] = [] := by simp [modC, hk0]
    rw [e2, List.append_nil] at mc
    simp [yba_r11, hk0']
    refine next _ _ _ lf lc ?_ ?_ ?_ ?_ hN (by rw [mf]; exact hF) (by rw [mc]; exact hC) <;> simp [f3, f7, f32, f33]
 ·have hil : i = ds.length := by omega
  subst hil
  rw [List.take_length] at hF hC
  exact hq _ _ _ lf lc (by simp [f7]) hN hF hC
end Tz
/-
 SV: runs with a module, as a whole. No condition.
-/
namespace Tz
open Go.Sx Go
theorem NRun.run {kb bf bc bb rb : Key} {dc : AV} {fu ro se att : Int} {h : T Blk} {nx : Key} {lf lc : List (S × AV)} {h' : T Blk} {nx' : Key} {ds : List Dl} (N : NRun kb bf bc bb rb dc (clampL fu ro se att) h nx lf lc h' nx') (kk : NKeys nx kb bf bc bb rb) (F : RelF (fmOf lf) (modF ds)) (C' : RelC lc (modC ds)) :
  ∃ D, Run rb D (clampL fu ro se att) st0 h' nx' ∧ Maps D (modOf ds) ∧ Ext h nx h' nx' := by
 obtain ⟨n, m, r, f, c, b, g⟩ := N
 obtain ⟨k0, k1, k2, k3, k4⟩ := kk
 refine ⟨⟨bf, bc, bb, fmOf lf, fmOf lc, bmA⟩, ⟨⟨.nils, r, .inl ⟨rfl, rfl, rfl⟩⟩, n, f, c, b, by simp; omega, by simp; omega, by simp; omega, by simp [st0], by have := (clamp_lims fu ro se att).f0; simpa [st0] using this, by simp [st0], by simp [st0], by simp [st0], by simp [st0]⟩, ⟨rfl, F, fun a b => ?_⟩, by omega, g⟩
 have := findK_fm (a, b) lc
 rw [C' (a, b)] at this
 exact this
def NewP (L : Lim) (ds : List Dl) (h : T Blk) (nx : Key) (o : Out) (h' : T Blk) (nx' : Key) : Prop := ∃ rb D, o = .ret (.ptr rb 0) ∧ nx.toNat ≤ rb.toNat ∧ Run rb D L st0 h' nx' ∧ Maps D (modOf ds) ∧ Ext h nx h' nx'
variable {C : Cfg} (S : Std C)
include S
theorem newRun_ok {dc : AV} {ds : List Dl} (hd : IsDs dc ds) (fu ro se att : Int) (h : T Blk) (nx : Key) :
  CallA C n_yba [.agg [dc], .agg [I fu, I ro], .agg [I se, I att]] h nx (NewP (clampL fu ro se att) ds h nx) := by
 have s1 := Key.toNat_succ nx
 have s2 := Key.toNat_succ nx.succ
 have s3 := Key.toNat_succ nx.succ.succ
 have s4 := Key.toNat_succ nx.succ.succ.succ
 have s5 := Key.toNat_succ nx.succ.succ.succ.succ
 have s6 := Key.toNat_succ nx.succ.succ.succ.succ.succ
 have s7 := Key.toNat_succ nx.succ.succ.succ.succ.succ.succ
 have hdc : dc.isCell = true := by rcases hd with ⟨rfl, _⟩ | ⟨_, rfl, _⟩ <;> rfl
 have kk : NKeys nx nx nx.succ.succ.succ nx.succ.succ.succ.succ nx.succ.succ.succ.succ.succ nx.succ.succ.succ.succ.succ.succ := ⟨by omega, by omega, by omega, by omega, by omega⟩
 have cf : (fu < 0 ∧ ¬ 1048576 < fu ∧ min (max fu 0) 1048576 = 0) ∨ (¬ fu < 0 ∧ ¬ 1048576 < fu ∧ min (max fu 0) 1048576 = fu) ∨ (¬ fu < 0 ∧ 1048576 < fu ∧ min (max fu 0) 1048576 = 1048576) := by omega
 have cr : (ro < 0 ∧ ¬ 1024 < ro ∧ min (max ro 0) 1024 = 0) ∨ (¬ ro < 0 ∧ ¬ 1024 < ro ∧ min (max ro 0) 1024 = ro) ∨ (¬ ro < 0 ∧ 1024 < ro ∧ min (max ro 0) 1024 = 1024) := by omega
 refine S.c_yba.call ?_
 simp [yba]
 simp [yba_r0, hdc]
 -- the loop and what follows
 have rest : ∀ tm h1, T.get (K 3) tm = some (.ptr nx 0) → T.get (K 7) tm = some (.ptr nx.succ.succ.succ.succ.succ.succ 0) → NRun nx nx.succ.succ.succ nx.succ.succ.succ.succ nx.succ.succ.succ.succ.succ nx.succ.succ.succ.succ.succ.succ dc (clampL fu ro se att) h nx [] [] h1 nx.succ.succ.succ.succ.succ.succ.succ →
   wpC C (.seq (.seq (.ops yba_r2) (.block 0 (.loop yba_l0))) (.seq (.ops yba_r20) .ret)) (BodyP [.tmp (K 6)] (NewP (clampL fu ro se att) ds h nx)) tm h1 nx.succ.succ.succ.succ.succ.succ.succ := by
  intro tm h1 f3 f7 N
  have gm := N.m
  have R0 : RelF (fmOf []) (modF []) := fun nm => rfl
  have C0 : RelC [] (modC []) := fun nm => rfl
  rcases hd with ⟨rfl, rfl⟩ | ⟨cs, rfl, hdl, hcs⟩
  ·simp [yba_r2, f3, gm]
   refine W.unroll (W.of ?_)
   simp [yba_l0]
   simp [yba_r3]
   simp [yba_r20, f7]
   obtain ⟨D, w⟩ := N.run kk R0 C0
   exact ⟨_, D, rfl, by omega, w⟩
  ·simp [yba_r2, f3, gm]
   refine ds_loop S kk hdl hcs _ (L := clampL fu ro se att) (h := h) ?_ ?_
   ·refine ⟨0, [], [], by simp, by omega, ?_, ?_, ?_, ?_, N, R0, C0⟩ <;> simp [f3, f7]
   ·intro tm' h' nx' lf lc g7 N' F' C'
    simp
    simp [yba_r20, g7]
    obtain ⟨D, w⟩ := N'.run kk F' C'
    exact ⟨_, D, rfl, by omega, w⟩
 simp only [wpC_seq, wpC_ops] at rest
 rcases cf with ⟨a1, a2, a3⟩ | ⟨a1, a2, a3⟩ | ⟨a1, a2, a3⟩ <;> rcases cr with ⟨b1, b2, b3⟩ | ⟨b1, b2, b3⟩ | ⟨b1, b2, b3⟩
 all_goals
  simp [yba_r1, S.raw, List.filter_cons, a1, a2, b1, b2]
  refine (builtins_ok S _ _).mono ?_
  rintro o h1 nx1 ⟨rfl, g1, rfl, e1⟩
  have q0 := e1.g nx (by omega)
  have q1 := e1.g nx.succ (by omega)
  have q2 := e1.g nx.succ.succ (by omega)
  simp at q0 q1 q2
  simp [q0, q1, q2, AV.beq, AV.beqs, SI.beq, List.filter_cons]
  refine rest _ _ ?_ ?_ ?_
  ·simp
  ·simp
  ·refine ⟨by omega, ?_, ?_, ?_, ?_, ?_, fun b hb => ?_⟩
   ·simp [q0]
   ·simp [clampL, a3, b3]
   ·simp [fmOf]
   ·simp [fmOf]
   ·simp [g1]
   ·simp (disch := omega) only [get_lt (α := Blk)]
    rw [e1.g b (by omega)]
    simp (disch := omega) only [get_lt (α := Blk)]
end Tz
/-
 SV: the evaluation of an expression without a module. No condition.
-/
namespace Tz
open Go.Sx Go
def IsBd (l : List AV) (x : S × V) : Prop := ∃ c, IsK c x.2.kids ∧ l = [SA x.1, I x.2.k, I x.2.n, .str x.2.a x.2.b, c]
def IsEnv (c : AV) (env : List (S × V)) : Prop := (c = .nils ∧ env = []) ∨ ∃ cs, c = .sl cs env.length 5 .any ∧ env.length ≤ 4000 ∧ Rw 5 IsBd cs env
theorem IsEnv.stb {c : AV} {env : List (S × V)} (h : IsEnv c env) : Stb c := by
 rcases h with ⟨rfl, rfl⟩ | ⟨cs, rfl, _, _⟩
 ·exact stb_nils
 ·exact stb_sl _ _ _
structure Fk (h : T Blk) (nx : Key) (h' : T Blk) (nx' : Key) : Prop where
 n : nx.toNat ≤ nx'.toNat
 g : ∀ b : Key, b.toNat < nx.toNat → Kp (T.get b h) → T.get b h' = T.get b h
theorem Fk.refl (h : T Blk) (nx : Key) : Fk h nx h nx := ⟨Nat.le_refl _, fun _ _ _ => rfl⟩
theorem Fk.trans {h1 h2 h3 : T Blk} {n1 n2 n3 : Key} (a : Fk h1 n1 h2 n2) (b : Fk h2 n2 h3 n3) : Fk h1 n1 h3 n3 :=
 ⟨Nat.le_trans a.n b.n, fun k hk hp => by
  have e := a.g k hk hp
  rw [b.g k (Nat.lt_of_lt_of_le hk a.n) (by rw [e]; exact hp), e]⟩
theorem Fk.ext {h1 h2 : T Blk} {n1 n2 : Key} (a : Ext h1 n1 h2 n2) : Fk h1 n1 h2 n2 := ⟨a.n, fun b hb _ => a.g b hb⟩
theorem IsSc.keep {rb : Key} {h h' : T Blk} {nx nx' : Key} {p : AV} {s : Sc} (hp : IsSc rb h nx p s) (hn : nx.toNat ≤ nx'.toNat) (hg : ∀ (b : Key) (l : List AV), b.toNat < nx.toNat → T.get b h = some (.cells l .fix) → l.length = 7 → T.get b h' = T.get b h) : IsSc rb h' nx' p s := by
 induction hp with
 | nil => exact .nil
 | cons b name v c p s hb hr hg' hK hz hs ih => exact .cons b name v c p s (by omega) hr (by rw [hg b _ hb hg' rfl]; exact hg') hK hz ih
variable {C : Cfg} (S : Std C)
def EnvInv (rb : Key) (D : RunB) (L : Lim) (env : List (Go.Sx.S × V)) (cs : List AV) (ra rs k7 k10 k11 : AV) (kb : Key) (h1 : T Blk) (m : Nat) (tm' : T AV) (h' : T Blk) (nx' : Key) : Prop :=
 ∃ (j : Nat) (sp : AV), m = env.length - j ∧ j ≤ env.length ∧ T.get (K 22) tm' = some (.sl cs env.length 5 .any) ∧ T.get (K 23) tm' = some (I env.length) ∧ T.get (K 24) tm' = some (I j) ∧ T.get (K 14) tm' = some ra ∧ T.get (K 15) tm' = some rs ∧ T.get (K 7) tm' = some k7 ∧ T.get (K 10) tm' = some k10 ∧ T.get (K 11) tm' = some k11 ∧
  kb.toNat < nx'.toNat ∧ (∀ b : Key, b.toNat < kb.toNat → T.get b h' = T.get b h1) ∧ T.get kb h' = some (.cells [sp] .fix) ∧ Run rb D L st0 h' nx' ∧ IsSc rb h' nx' sp (env.take j).reverse
include S
theorem env_loop {rb : Key} {D : RunB} {L : Lim} {env : List (Go.Sx.S × V)} {cs : List AV} (hcs : Rw 5 IsBd cs env) (hel : env.length ≤ 4000) (hz : ∀ x ∈ env, x.2.size ≤ 1073741824) {ra k7 k10 k11 : AV} {kb : Key} {h1 : T Blk} {nx1 : Key} {tm : T AV} (hk : rb.toNat < kb.toNat) (Q : Post)
  (hi : EnvInv rb D L env cs ra (.ptr kb 0) k7 k10 k11 kb h1 env.length tm h1 nx1)
  (hq : ∀ tm' h' nx' sp, T.get (K 14) tm' = some ra → T.get (K 15) tm' = some (.ptr kb 0) → T.get (K 7) tm' = some k7 → T.get (K 10) tm' = some k10 → T.get (K 11) tm' = some k11 → kb.toNat < nx'.toNat → (∀ b : Key, b.toNat < kb.toNat → T.get b h' = T.get b h1) → T.get kb h' = some (.cells [sp] .fix) → Run rb D L st0 h' nx' → IsSc rb h' nx' sp env.reverse → Q (.exit 0) tm' h' nx') :
  W C (.loop yai_l0) Q tm h1 nx1 := by
 refine W.loopM (n := env.length) (EnvInv rb D L env cs ra (.ptr kb 0) k7 k10 k11 kb h1) hi ?_
 rintro m tm2 h2 nx2 ⟨j, sp, rfl, hj, f22, f23, f24, f14, f15, f7, f10, f11, t2, e2, hkb, hR, hS⟩
 have s2 := Key.toNat_succ nx2
 have s3 := Key.toNat_succ nx2.succ
 have hrk : kb ≠ rb := fun e => by rw [e] at hk; omega
 refine W.of ?_
 simp [yai_l0]
 simp [yai_r4, f23, f24]
 refine ⟨fun hlt => ?_, fun hge => ?_⟩
 ·have hjl : j < env.length := by omega
  obtain ⟨c, hK, ec⟩ := hcs.hk j hjl
  have hcc := IsK.cell hK
  have hcf : ∀ n h, frzA n c h = (c, h) := IsK.stb hK
  have h5 : 5 ≤ cs.length - j * 5 := by have := hcs.hc; omega
  have hzj := hz env[j] (List.getElem_mem hjl)
  simp [yai_r5, f22, f24, hjl, h5, ec, hcc]
  have gk : ∀ u t, T.get kb (T.set nx2 u t) = T.get (α := Blk) kb t := fun u t => get_lt t2
  have hsc := hS.cell
  have hsb := hS.beq
  simp [yai_r6, f15, gk, hkb, S.raw, hcf]
  refine (measured_ok S (IsV.ofV hK) (by omega) _ _).mono ?_
  rintro o h3 nx3 ⟨⟨c3, hK3, rfl⟩, e3⟩
  have t3 := e3.n
  have s4 := Key.toNat_succ nx3
  have w1 := e3.g nx2 (by omega)
  have w2 := (e3.g kb (by omega))
  simp [gk, hkb] at w1 w2
  have hcc3 := IsK.cell hK3
  have gk3 : ∀ u t, T.get kb (T.set nx3 u t) = T.get (α := Blk) kb t := fun u t => get_lt (by omega)
  simp [w1, w2, f15, AV.beq, hsb, hsc.1, hsc.2, hcc3, List.filter_cons, gk3]
  simp [yai_r7, f24]
  have E3 : Ext h2 nx2 h3 nx3 := ⟨by omega, fun b hb => by rw [e3.g b (by omega), get_lt hb]⟩
  have E4 : Ext h2 nx2 (T.set nx3 (some (.cells [SA env[j].1, I env[j].2.k, I env[j].2.n, .str env[j].2.a env[j].2.b, c3, I env[j].2.size, sp] .fix)) h3) nx3.succ := E3.trans (E0 _ _ _)
  have R4 := hR.ext E4
  have S4 := hS.mono (Fr.ext (rb := rb) E4)
  have hkb4 : T.get kb (T.set nx3 (some (.cells [SA env[j].1, I env[j].2.k, I env[j].2.n, .str env[j].2.a env[j].2.b, c3, I env[j].2.size, sp] .fix)) h3) = some (.cells [sp] .fix) := by rw [gk3]; exact w2
  have hnk : nx3 ≠ kb := fun e => by rw [← e] at t2; omega
  refine ⟨env.length - (j + 1), by omega, j + 1, .ptr nx3 0, rfl, by omega, ?_, ?_, ?_, ?_, ?_, ?_, ?_, ?_, by omega, fun b hb => ?_, by simp, R4.set hkb4 hrk, ?_⟩
  ·simp [f22]
  ·simp [f23]
  ·simp; rw [wrap_id (by omega) (by omega)]
  ·simp [f14]
  ·simp [f15]
  ·simp [f7]
  ·simp [f10]
  ·simp [f11]
  ·rw [get_lt hb, get_lt (by omega), E3.g b (by omega)]; exact e2 b hb
  ·rw [List.take_succ_eq_append_getElem hjl, List.reverse_append]
   refine .cons nx3 env[j].1 env[j].2 c3 sp _ (by omega) (fun e => by have := hR.low; rw [← e] at this; omega) ?_ hK3 hzj ?_
   ·rw [T.get_set_ne _ _ _ _ hnk, T.get_set_same]
   ·refine S4.keep (Nat.le_refl _) fun b l hb hg hl => ?_
    have hne : b ≠ kb := by intro e; subst e; rw [hkb4] at hg; cases hg; simp at hl
    rw [T.get_set_ne _ _ _ _ hne]
 ·have hjl : j = env.length := by omega
  subst hjl
  rw [List.take_length] at hS
  exact hq _ _ _ sp (by simp [f14]) (by simp [f15]) (by simp [f7]) (by simp [f10]) (by simp [f11]) t2 e2 hkb hR hS
theorem exprC_ok {rb : Key} {D : RunB} {L : Lim} {M : Md} (HM : Maps D M) (HL : Lims L) {gas : Nat} (hgas : L.fuel < gas) {s : Sc} {e : E} {le : List AV} (hE : IsE le e) {ka kb ke : Key} {sp : AV} {h : T Blk} {nx : Key} (hr : Run rb D L st0 h nx) (hs : IsSc rb h nx sp s)
  (ga : T.get ka h = some (.cells [.ptr rb 0] .fix)) (gb : T.get kb h = some (.cells [sp] .fix)) (ge : T.get ke h = some (.cells le .fix)) (la : ka.toNat < nx.toNat) (lb : kb.toNat < nx.toNat) (lk : ke.toNat < nx.toNat) (nk : ke ≠ rb) (h39 : e.k = 3 ∨ e.k = 9) :
  CallA C n_yaj [.ptr ka 0, .ptr kb 0, .ptr ke 0] h nx (Ends rb D L h nx (ev L M gas (0, 0) s e st0)) := by
 have hs' : ∀ n h, frzA n sp h = (sp, h) := hs.stb
 have low := hr.low
 have r0 := hr.ext (E0 h nx Zb)
 have s1 := Key.toNat_succ nx
 have z0 := hs.mono (Fr.ext (rb := rb) (E0 h nx Zb))
 have q1 : T.get ka (T.set nx (some Zb) h) = some (.cells [.ptr rb 0] .fix) := by rw [get_lt la]; exact ga
 have q2 : T.get kb (T.set nx (some Zb) h) = some (.cells [sp] .fix) := by rw [get_lt lb]; exact gb
 have q3 : T.get ke (T.set nx (some Zb) h) = some (.cells le .fix) := by rw [get_lt lk]; exact ge
 refine S.c_yaj.call ?_
 simp [yaj]
 simp [yaj_r0]
 simp [yaj_r1, q1, q2, S.raw, hs']
 refine (ev_ok S HM HL gas 0 (by omega) (0, 0) s e st0 sp (.ptr ke 0) _ _ (by simp [st0]) r0 z0 ⟨le, hE, .inr ⟨ke, rfl, q3, by omega, nk, h39⟩⟩).1.mono ?_
 rintro o h1 nx1 ⟨f1, hR⟩
 cases hres : ev L M gas (0, 0) s e st0 with
 | stop c st' =>
  rw [hres] at hR
  obtain ⟨rfl, hR⟩ := hR
  simp [stopO]
  exact stop_ok f1.down hR
 | ok v st' =>
  rw [hres] at hR
  obtain ⟨⟨c, hK, rfl⟩, hR⟩ := hR
  have q := f1.res low
  have hcc := IsK.cell hK
  have hcf : ∀ n h, frzA n c h = (c, h) := IsK.stb hK
  simp [q, hcc, hcf]
  exact fin_ok f1 low hR hK
theorem IsBrs.stb {c : AV} {l : List Br} (h : IsBrs c l) : Stb c ∧ c.isCell = true := by
 rcases h.b with ⟨rfl, rfl⟩ | rfl
 ·exact ⟨stb_nils, rfl⟩
 ·exact ⟨stb_sl _ _ _, rfl⟩
end Tz
/-
 SV: the evaluation of an expression without a module, as a whole. No condition.
-/
namespace Tz
open Go.Sx Go
theorem IsE.stbs {l : List AV} {e : E} (h : IsE l e) : ∀ x ∈ l, Stb x := by
 obtain ⟨cn, cb, ck, rfl, hn, hb, hk, _⟩ := h.cells
 have i1 : ∀ n : Int, Stb (I n) := fun n k h => by cases k <;> rfl
 have s1 : Stb cn := by
  rcases hn with ⟨rfl, _⟩ | rfl
  ·exact stb_nils
  ·exact stb_sl _ _ _
 have s2 : Stb cb := by
  rcases hb with ⟨rfl, _⟩ | ⟨_, rfl, _⟩
  ·exact stb_nils
  ·exact stb_sl _ _ _
 intro x hx
 simp at hx
 rcases hx with rfl | rfl | rfl | rfl | rfl | rfl | rfl
 ·exact i1 _
 ·exact stb_str _ _
 ·exact i1 _
 ·exact s1
 ·exact s2
 ·exact IsEK.stb hk
 ·exact i1 _
variable {C : Cfg} (S : Std C)
include S
theorem expr_ok {dc : AV} {ds : List Dl} (hd : IsDs dc ds) {fu ro se att : Int} {gas : Nat} (hgas : (clampL fu ro se att).fuel < gas) {env : List (Go.Sx.S × V)} {ce : AV} (hce : IsEnv ce env) (hz : ∀ x ∈ env, x.2.size ≤ 1073741824) {e : E} {le : List AV} (hE : IsE le e) (h39 : e.k = 3 ∨ e.k = 9) (h : T Blk) (nx : Key) :
  CallA C n_yai [.agg [dc], ce, .agg le, .agg [I fu, I ro], .agg [I se, I att]] h nx (fun o h' nx' => Fk h nx h' nx' ∧ ResOut (ev (clampL fu ro se att) (modOf ds) gas (0, 0) env.reverse e st0) o) := by
 have hd' : ∀ n h, frzA n dc h = (dc, h) := hd.stb
 have hdc := hd.cell
 have hce' : ∀ n h, frzA n ce h = (ce, h) := hce.stb
 have s1 := Key.toNat_succ nx
 have s2 := Key.toNat_succ nx.succ
 have s3 := Key.toNat_succ nx.succ.succ
 have s4 := Key.toNat_succ nx.succ.succ.succ
 have s5 := Key.toNat_succ nx.succ.succ.succ.succ
 have s6 := Key.toNat_succ nx.succ.succ.succ.succ.succ
 obtain ⟨cn, cb, ck, hle, _⟩ := hE.cells
 have hlc : (AV.agg le).cells = le := rfl
 refine S.c_yai.call ?_
 simp [yai]
 simp [yai_r0, hdc]
 simp [yai_r1, S.raw, hd']
 refine (newRun_ok S hd fu ro se att _ _).mono ?_
 rintro o h1 nx1 ⟨rb, D, rfl, hrb, hR, HM, e1⟩
 have t1 := e1.n
 have u1 := Key.toNat_succ nx1
 have u2 := Key.toNat_succ nx1.succ
 have q1 := e1.g nx.succ (by omega)
 have q4 := e1.g nx.succ.succ.succ.succ (by omega)
 have q5 := e1.g nx.succ.succ.succ.succ.succ (by omega)
 simp at q1 q4 q5
 have low := hR.low
 simp
 simp [yai_r2]
 have E1 := E0 h1 nx1 (.cells [.ptr rb 0] .fix)
 have E2 := E1.trans (E0 _ _ (.cells [.nilp] .fix))
 have R2 := hR.ext E2
 -- the rest, once the variables are bound
 have rest : ∀ tm' h' nx' sp, T.get (K 14) tm' = some (.ptr nx1 0) → T.get (K 15) tm' = some (.ptr nx1.succ 0) → T.get (K 7) tm' = some (.ptr nx.succ 0) → T.get (K 10) tm' = some (.ptr nx.succ.succ.succ.succ 0) → T.get (K 11) tm' = some (.ptr nx.succ.succ.succ.succ.succ 0) → nx1.succ.toNat < nx'.toNat →
   (∀ b : Key, b.toNat < nx1.succ.toNat → T.get b h' = T.get b (T.set nx1.succ (some (.cells [.nilp] .fix)) (T.set nx1 (some (.cells [.ptr rb 0] .fix)) h1))) → T.get nx1.succ h' = some (.cells [sp] .fix) → Run rb D (clampL fu ro se att) st0 h' nx' → IsSc rb h' nx' sp env.reverse →
   wpC C (.seq (.ops yai_r8) .ret) (BodyP [.cell (K 10) true 4, .cell (K 11) true 3, .tmp (K 12), .tmp (K 13)] (fun o h' nx' => Fk h nx h' nx' ∧ ResOut (ev (clampL fu ro se att) (modOf ds) gas (0, 0) env.reverse e st0) o)) tm' h' nx' := by
  intro tm' h' nx' sp f14 f15 f7 f10 f11 t' e' hkb hR' hS'
  have w0 : T.get nx1 h' = some (.cells [.ptr rb 0] .fix) := by rw [e' nx1 (by omega)]; simp
  have w1 : T.get nx.succ h' = some (.cells le .fix) := by rw [e' _ (by omega), get_lt (by omega), get_lt (by omega)]; exact q1
  have w4 : T.get nx.succ.succ.succ.succ h' = some (.cells [I 0, I 0, .str 0 0, .nils] .fix) := by rw [e' _ (by omega), get_lt (by omega), get_lt (by omega)]; exact q4
  have w5 : T.get nx.succ.succ.succ.succ.succ h' = some (.cells [I 0, I 0, I 0] .fix) := by rw [e' _ (by omega), get_lt (by omega), get_lt (by omega)]; exact q5
  have HL := clamp_lims fu ro se att
  have ne1 : nx.succ ≠ rb := fun e => by rw [← e] at hrb; omega
  have ne4 : nx.succ.succ.succ.succ ≠ rb := fun e => by rw [← e] at hrb; omega
  have ne5 : nx.succ.succ.succ.succ.succ ≠ rb := fun e => by rw [← e] at hrb; omega
  simp [yai_r8, f14, f15, f7, w0, S.raw]
  refine (result_ok S (X := (· = rb)) (fun b hb => by rw [hb]; exact hR'.low) HL (R0 := ev (clampL fu ro se att) (modOf ds) gas (0, 0) env.reverse e st0) hR' (by intro h; simp) ?_).mono ?_
  ·intro h2 nx2 E
   have tE := E.n
   refine (exprC_ok S HM HL hgas hE (hR'.ext E) (hS'.mono (Fr.ext E)) ((E.g _ (by omega)).trans w0) ((E.g _ (by omega)).trans hkb) ((E.g _ (by omega)).trans w1) (by omega) (by omega) (by omega) ne1 h39).mono fun _ _ _ w => w.x
  ·rintro o h3 nx3 ⟨f3, hO⟩
   have t3 := f3.n
   have v4 := (f3.g _ (by omega) ne4 (by rw [w4]; trivial)).trans w4
   have v5 := (f3.g _ (by omega) ne5 (by rw [w5]; trivial)).trans w5
   have hF : Fk h nx h3 nx3 := by
    refine ⟨by omega, fun b hb hk => ?_⟩
    have hb1 : T.get b h1 = T.get b h := by
     rw [e1.g b (by omega)]
     simp (disch := omega) only [get_lt (α := Blk)]
    have hb2 : T.get b h' = T.get b h := by
     rw [e' b (by omega), get_lt (by omega), get_lt (by omega)]; exact hb1
    rw [f3.g b (by omega) (fun e => by rw [← e] at hrb; omega) (by rw [hb2]; exact hk), hb2]
   have hF2 : ∀ A B, Fk h nx (T.set nx.succ.succ.succ.succ.succ (some A) (T.set nx.succ.succ.succ.succ (some B) h3)) nx3 := by
    intro A B
    exact ⟨hF.n, fun b hb hk => by rw [get_lt (by omega), get_lt (by omega)]; exact hF.g b hb hk⟩
   cases hres : ev (clampL fu ro se att) (modOf ds) gas (0, 0) env.reverse e st0 with
   | stop ec st' =>
    rw [hres] at hO
    obtain ⟨cb3, hB, rfl⟩ := hO
    have hbf : ∀ n h, frzA n cb3 h = (cb3, h) := (IsBrs.stb S hB).1
    simp [f10, f11, v4, v5, hbf]
    exact ⟨hF2 _ _, cb3, hB, rfl⟩
   | ok v st' =>
    rw [hres] at hO
    obtain ⟨lv, cb3, hv, hB, rfl⟩ := hO
    obtain ⟨c, rfl, hK⟩ := hv.cells
    have hcc := IsK.cell hK
    have hcf : ∀ n h, frzA n c h = (c, h) := IsK.stb hK
    have hbf : ∀ n h, frzA n cb3 h = (cb3, h) := (IsBrs.stb S hB).1
    simp [f10, f11, v4, v5, hbf, hcc, hcf]
    exact ⟨hF2 _ _, _, cb3, hv, hB, rfl⟩
 rcases hce with ⟨rfl, rfl⟩ | ⟨cs, rfl, hel, hcs⟩
 ·simp [yai_r3]
  refine W.unroll (W.of ?_)
  simp [yai_l0]
  simp [yai_r4]
  have := rest
  simp at this
  refine this _ _ _ .nilp ?_ ?_ ?_ ?_ ?_ (by omega) (fun b hb => rfl) (by simp) R2 .nil <;> simp
 ·simp [yai_r3]
  refine env_loop S hcs hel hz (rb := rb) (D := D) (L := (clampL fu ro se att)) (kb := nx1.succ) (by omega) _ ?_ ?_ (ra := .ptr nx1 0) (k7 := .ptr nx.succ 0) (k10 := .ptr nx.succ.succ.succ.succ 0) (k11 := .ptr nx.succ.succ.succ.succ.succ 0)
  ·refine ⟨0, .nilp, by simp, by omega, ?_, ?_, ?_, ?_, ?_, ?_, ?_, ?_, by omega, fun b hb => rfl, by simp, R2, .nil⟩ <;> simp
  ·intro tm' h' nx' sp a1 a2 a3 a4 a5 a6 a7 a8 a9 a10
   have := rest tm' h' nx' sp a1 a2 a3 a4 a5 a6 a7 a8 a9 a10
   simpa using this
end Tz
/-
 SV: the evaluator's calls of functions from outside, as a whole. No condition.
-/
namespace Tz
open Go.Sx Go
def callR (L : Lim) (M : Md) (gas : Nat) (nm : S) (vs : List V) : Res := match findA nm M.funs with
 | none => .stop 6 st0
 | some F => if F.params.length = vs.length then callF (ev L M gas) F vs st0 else .stop 9 st0
def ArInv (vs : List V) (ca : AV) (kr kd kl ks k10 k11 : Key) (h : T Blk) (nx : Key) (m : Nat) (tm' : T AV) (h' : T Blk) (nx' : Key) : Prop :=
 ∃ (j : Nat) (L1 : List AV), m = vs.length - j ∧ j ≤ vs.length ∧ T.get (K 50) tm' = some ca ∧ T.get (K 51) tm' = some (I vs.length) ∧ T.get (K 52) tm' = some (I j) ∧ T.get (K 14) tm' = some (.ptr kr 0) ∧ T.get (K 15) tm' = some (.ptr kd 0) ∧ T.get (K 17) tm' = some (.ptr ks 0) ∧ T.get (K 10) tm' = some (.ptr k10 0) ∧ T.get (K 11) tm' = some (.ptr k11 0) ∧
  nx.toNat ≤ nx'.toNat ∧ (∀ b : Key, b.toNat < nx.toNat → b ≠ kl → T.get b h' = T.get b h) ∧ T.get kl h' = some (.cells L1 .fix) ∧ L1.length = vs.length * 5 ∧ Rw 5 IsZ (L1.take (j * 5)) (vs.take j)
variable {C : Cfg} (S : Std C)
include S
theorem ar_loop {vs : List V} {cs : List AV} {kr kd kl ks k10 k11 : Key} {h : T Blk} {nx : Key} (hcs : IsVs cs vs) (hvl : vs.length ≤ 4000) (hz : ∀ v ∈ vs, v.size ≤ 1073741824) (lk : kl.toNat < nx.toNat) (ls : ks.toNat < nx.toNat) (ne : ks ≠ kl) (gs : T.get ks h = some (.cells [.slice kl 0 vs.length 5] .fix)) (Q : Post) {tm : T AV} {h1 : T Blk} {nx1 : Key}
  (hi : ArInv vs (.sl cs vs.length 4 .any) kr kd kl ks k10 k11 h nx vs.length tm h1 nx1)
  (hq : ∀ tm' h' nx' L1, T.get (K 14) tm' = some (.ptr kr 0) → T.get (K 15) tm' = some (.ptr kd 0) → T.get (K 17) tm' = some (.ptr ks 0) → T.get (K 10) tm' = some (.ptr k10 0) → T.get (K 11) tm' = some (.ptr k11 0) → nx.toNat ≤ nx'.toNat → (∀ b : Key, b.toNat < nx.toNat → b ≠ kl → T.get b h' = T.get b h) → T.get kl h' = some (.cells L1 .fix) → L1.length = vs.length * 5 → Rw 5 IsZ L1 vs → Q (.exit 0) tm' h' nx') :
  W C (.loop yag_l0) Q tm h1 nx1 := by
 refine W.loopM (n := vs.length) (ArInv vs (.sl cs vs.length 4 .any) kr kd kl ks k10 k11 h nx) hi ?_
 rintro m tm2 h2 nx2 ⟨j, L1, rfl, hj, f50, f51, f52, f14, f15, f17, f10, f11, t2, g2, hL, hLl, hR⟩
 have s2 := Key.toNat_succ nx2
 refine W.of ?_
 simp [yag_l0]
 simp [yag_r9, f51, f52]
 refine ⟨fun hlt => ?_, fun hge => ?_⟩
 ·have hjl : j < vs.length := by omega
  obtain ⟨c, ec, hK⟩ := hcs.at hjl
  have hcc := IsK.cell hK
  have hcf : ∀ n h, frzA n c h = (c, h) := IsK.stb hK
  have h4 : 4 ≤ cs.length - j * 4 := by have := hcs.hc; omega
  have hzj := hz vs[j] (List.getElem_mem hjl)
  simp [yag_r10, f50, f52, hjl, h4, ec, hcc]
  have q2 : T.get nx2 (T.set nx2 (some (.cells [I vs[j].k, I vs[j].n, .str vs[j].a vs[j].b, c] .fix)) h2) = some (.cells [I vs[j].k, I vs[j].n, .str vs[j].a vs[j].b, c] .fix) := T.get_set_same _ _ _
  have e2 := E0 h2 nx2 (.cells [I vs[j].k, I vs[j].n, .str vs[j].a vs[j].b, c] .fix)
  have qs := ((e2.g ks (by omega)).trans (g2 ks ls ne)).trans gs
  have ql := (e2.g kl (by omega)).trans hL
  have gg : ∀ b : Key, b.toNat < nx.toNat → b ≠ kl → T.get b (T.set nx2 (some (.cells [I vs[j].k, I vs[j].n, .str vs[j].a vs[j].b, c] .fix)) h2) = T.get b h := fun b hb hn => (e2.g b (by omega)).trans (g2 b hb hn)
  generalize T.set nx2 (some (.cells [I vs[j].k, I vs[j].n, .str vs[j].a vs[j].b, c] .fix)) h2 = h3 at *
  simp [yag_r11, f17, qs, q2, S.raw, hcf]
  refine (measured_ok S (IsV.ofV hK) (by omega) _ _).mono ?_
  rintro o h4' nx4 ⟨⟨c3, hK3, rfl⟩, e4⟩
  have t4 := e4.n
  have qs4 := (e4.g ks (by omega)).trans qs
  have ql4 := (e4.g kl (by omega)).trans ql
  have hcc3 := IsK.cell hK3
  have hput : j * 5 + 5 ≤ L1.length := by omega
  have hset := Rw.snoc hLl hjl (by simp; omega) hR (u := szc vs[j] c3) (v := vs[j]) rfl ⟨c3, hK3, rfl⟩
  simp [f17, qs4, ql4, AV.beq, hcc3, hput, hjl, keyBeq_refl]
  simp [yag_r12, f52]
  simp at hset
  refine ⟨vs.length - (j + 1), by omega, j + 1, _, rfl, by omega, ?_, ?_, ?_, ?_, ?_, ?_, ?_, ?_, by omega, fun b hb hn => ?_, T.get_set_same _ _ _, by simpa using hset.1, ?_⟩
  ·simp [f50]
  ·simp [f51]
  ·simp; rw [wrap_id (by omega) (by omega)]
  ·simp [f14]
  ·simp [f15]
  ·simp [f17]
  ·simp [f10]
  ·simp [f11]
  ·rw [T.get_set_ne _ _ _ _ hn, e4.g b (by omega)]; exact gg b hb hn
  ·exact hset.2
 ·have hjl : j = vs.length := by omega
  subst hjl
  rw [List.take_length, List.take_of_length_le (by omega)] at hR
  exact hq _ _ _ L1 (by simp [f14]) (by simp [f15]) (by simp [f17]) (by simp [f10]) (by simp [f11]) t2 g2 hL hLl hR
theorem callC_ok {rb : Key} {D : RunB} {L : Lim} {M : Md} (HM : Maps D M) (HL : Lims L) {gas : Nat} (hgas : L.fuel < gas) {F : Fun} {p : AV} (hF : IsFp p F) {vs : List V} {L1 : List AV} (hLl : L1.length = vs.length * 5) (hR1 : Rw 5 IsZ L1 vs) (hl : F.params.length = vs.length) (hz : ∀ v ∈ vs, v.size ≤ 1073741824) {kr kd kl ks : Key} {h : T Blk} {nx : Key} (hr : Run rb D L st0 h nx)
  (ga : T.get kr h = some (.cells [.ptr rb 0] .fix)) (gd : T.get kd h = some (.cells [p] .fix)) (gs : T.get ks h = some (.cells [.slice kl 0 vs.length 5] .fix)) (gl : T.get kl h = some (.cells L1 .fix)) (la : kr.toNat < nx.toNat) (ld : kd.toNat < nx.toNat) (ls : ks.toNat < nx.toNat) (ll : kl.toNat < nx.toNat) (nl : kl ≠ rb) :
  CallA C n_yah [.ptr kr 0, .ptr kd 0, .ptr ks 0] h nx (EndsX (fun b => b = rb ∨ b = kl) rb D L h nx (callF (ev L M gas) F vs st0)) := by
 have low := hr.low
 have r0 := hr.ext (E0 h nx Zb)
 have s1 := Key.toNat_succ nx
 have hp' : ∀ n h, frzA n p h = (p, h) := by
  obtain ⟨x, d, rfl, _⟩ := hF
  exact fun n h => by cases n <;> rfl
 have q1 : T.get kr (T.set nx (some Zb) h) = some (.cells [.ptr rb 0] .fix) := by rw [get_lt la]; exact ga
 have q2 : T.get kd (T.set nx (some Zb) h) = some (.cells [p] .fix) := by rw [get_lt ld]; exact gd
 have q3 : T.get ks (T.set nx (some Zb) h) = some (.cells [.slice kl 0 vs.length 5] .fix) := by rw [get_lt ls]; exact gs
 have q4 : T.get kl (T.set nx (some Zb) h) = some (.cells L1 .fix) := by rw [get_lt ll]; exact gl
 refine S.c_yah.call ?_
 simp [yah]
 simp [yah_r0]
 simp [yah_r1, q1, q2, q3, S.raw, hp']
 rw [frz_fix q4 hLl (Rw.all (by omega) hR1 fun _ _ h => h.stbs)]
 have R1 : Run rb D L st0 (T.set kl (some (.cells L1 .ro)) (T.set nx (some Zb) h)) nx.succ := r0.set q4 nl
 have hnl : nx ≠ kl := fun e => by rw [← e] at ll; omega
 have p0 : T.get nx (T.set kl (some (.cells L1 .ro)) (T.set nx (some Zb) h)) = some Zb := by rw [T.get_set_ne _ _ _ _ hnl]; exact T.get_set_same _ _ _
 have G1 : ∀ b : Key, b.toNat < nx.toNat → b ≠ kl → T.get b (T.set kl (some (.cells L1 .ro)) (T.set nx (some Zb) h)) = T.get b h := fun b hb hn => by rw [T.get_set_ne _ _ _ _ hn, get_lt hb]
 simp
 generalize T.set kl (some (.cells L1 .ro)) (T.set nx (some Zb) h) = h1 at *
 refine (fcall_ok S (ev_ok S HM HL gas 0 (by omega)) (by simp [st0]) R1 hF hR1 hl hz).mono ?_
 rintro o h2 nx2 ⟨f2, hR⟩
 have t2 := f2.n
 have hnr : nx ≠ rb := fun e => by rw [← e] at low; omega
 have p2 := (f2.g nx (by omega) hnr (by rw [p0]; trivial)).trans p0
 have X2 : Fq (fun b => b = rb ∨ b = kl) h nx h2 nx2 := ⟨by omega, fun b hb hn hk => by
  have hn1 : b ≠ rb := fun e => hn (.inl e)
  have hn2 : b ≠ kl := fun e => hn (.inr e)
  have g1 := G1 b hb hn2
  rw [f2.g b (by omega) hn1 (by rw [g1]; exact hk), g1]⟩
 cases hres : callF (ev L M gas) F vs st0 with
 | stop c st' =>
  rw [hres] at hR
  obtain ⟨rfl, hR⟩ := hR
  simp [stopO]
  exact ⟨X2, rfl, hR⟩
 | ok v st' =>
  rw [hres] at hR
  obtain ⟨⟨c, hK, rfl⟩, hR⟩ := hR
  have hcc := IsK.cell hK
  have hcf : ∀ n h, frzA n c h = (c, h) := IsK.stb hK
  simp [p2, hcc, hcf]
  exact ⟨⟨X2.n, fun b hb hn hk => by rw [get_lt hb]; exact X2.g b hb hn hk⟩, ⟨c, hK, rfl⟩, hR.set p2 hnr⟩
def CallP (L : Lim) (M : Md) (gas : Nat) (nm : Go.Sx.S) (vs : List V) (h : T Blk) (nx : Key) (o : Out) (h' : T Blk) (nx' : Key) : Prop := Fk h nx h' nx' ∧ ResOut (callR L M gas nm vs) o
theorem call_ok {dc : AV} {ds : List Dl} (hd : IsDs dc ds) {fu ro se att : Int} {gas : Nat} (hgas : (clampL fu ro se att).fuel < gas) (nm : Go.Sx.S) {cv : AV} {vs : List V} (hv : IsK cv vs) (hz : ∀ v ∈ vs, v.size ≤ 1073741824) (h : T Blk) (nx : Key) :
  CallA C n_yag [.agg [dc], SA nm, cv, .agg [I fu, I ro], .agg [I se, I att]] h nx (CallP (clampL fu ro se att) (modOf ds) gas nm vs h nx) := by
 have hd' : ∀ n h, frzA n dc h = (dc, h) := hd.stb
 have hdc := hd.cell
 have HL := clamp_lims fu ro se att
 have s1 := Key.toNat_succ nx
 have s2 := Key.toNat_succ nx.succ
 have s3 := Key.toNat_succ nx.succ.succ
 have s4 := Key.toNat_succ nx.succ.succ.succ
 have s5 := Key.toNat_succ nx.succ.succ.succ.succ
 refine S.c_yag.call ?_
 simp [yag]
 simp [yag_r0, hdc]
 simp [yag_r1, S.raw, hd']
 refine (newRun_ok S hd fu ro se att _ _).mono ?_
 rintro o h1 nx1 ⟨rb, D, rfl, hrb, hR, HM, e1⟩
 have t1 := e1.n
 have u1 := Key.toNat_succ nx1
 have u2 := Key.toNat_succ nx1.succ
 have q3 := e1.g nx.succ.succ.succ (by omega)
 have q4 := e1.g nx.succ.succ.succ.succ (by omega)
 simp at q3 q4
 have E1 : Ext h nx h1 nx1 := ⟨by omega, fun b hb => by
  rw [e1.g b (by omega)]
  simp (disch := omega) only [get_lt (α := Blk)]⟩
 have low := hR.low
 simp
 have E2 := E0 h1 nx1 (.cells [.ptr rb 0] .fix)
 have R2 := hR.ext E2
 have p3 := (E2.g _ (by omega)).trans q3
 have p4 := (E2.g _ (by omega)).trans q4
 have pr : T.get nx1 (T.set nx1 (some (.cells [.ptr rb 0] .fix)) h1) = some (.cells [.ptr rb 0] .fix) := T.get_set_same _ _ _
 have E12 := E1.trans E2
 generalize T.set nx1 (some (.cells [.ptr rb 0] .fix)) h1 = h2 at *
 obtain ⟨br, hb2, ha2⟩ := R2.blk
 have gf := R2.gf
 have hf := HM.f nm
 have hM : (modOf ds).funs = modF ds := rfl
 cases hfa : findA nm (modOf ds).funs with
 | none =>
  rw [hfa] at hf
  simp only [SA] at hf
  have hcr : callR (clampL fu ro se att) (modOf ds) gas nm vs = .stop 6 st0 := by simp [callR, hfa]
  simp [yag_r2, pr, hb2, gf, hf, S.orc]
  simp [yag_r3]
  have E3 := E0 h2 nx1.succ (.cells [.nilp] .fix)
  have v3 := (E3.g _ (by omega)).trans p3
  have v4 := (E3.g _ (by omega)).trans p4
  have E13 := E12.trans E3
  generalize T.set nx1.succ (some (.cells [.nilp] .fix)) h2 = h3 at *
  simp [yag_r4, v3, v4]
  refine ⟨⟨by omega, fun b hb _ => ?_⟩, ?_⟩
  ·rw [get_lt (by omega), get_lt (by omega)]; exact E13.g b hb
  ·rw [hcr]; exact ⟨.nils, ⟨.inl ⟨rfl, rfl⟩, by simp [st0]⟩, rfl⟩
 | some F =>
  rw [hfa] at hf
  obtain ⟨p, hf, hF⟩ := hf
  simp only [SA] at hf
  have hcr : callR (clampL fu ro se att) (modOf ds) gas nm vs = if F.params.length = vs.length then callF (ev (clampL fu ro se att) (modOf ds) gas) F vs st0 else .stop 9 st0 := by simp [callR, hfa]
  have hpc : p.isCell = true ∧ p.cells = [p] := by obtain ⟨x, d, rfl, _⟩ := hF; exact ⟨rfl, rfl⟩
  simp [yag_r2, pr, hb2, gf, hf, S.orc, hpc.1, hpc.2]
  simp [yag_r3]
  have E3 := E0 h2 nx1.succ (.cells [p] .fix)
  have v3 := (E3.g _ (by omega)).trans p3
  have v4 := (E3.g _ (by omega)).trans p4
  have vr := (E3.g _ (by omega)).trans pr
  have vd : T.get nx1.succ (T.set nx1.succ (some (.cells [p] .fix)) h2) = some (.cells [p] .fix) := T.get_set_same _ _ _
  have R3 := R2.ext E3
  have E13 := E12.trans E3
  generalize T.set nx1.succ (some (.cells [p] .fix)) h2 = h3 at *
  obtain ⟨ld, d, rfl, hdl, rfl⟩ := id hF
  obtain ⟨cp, hp4, hps⟩ := hdl.ps
  by_cases hlen : d.f.params.length = vs.length
  ·rw [if_pos hlen] at hcr
   have u3 := Key.toNat_succ nx1.succ.succ
   have u4 := Key.toNat_succ nx1.succ.succ.succ
   have u5 := Key.toNat_succ nx1.succ.succ.succ.succ
   -- the rest, once the arguments have been measured
   have main : ∀ tm h5 nx5 L1, T.get (K 14) tm = some (.ptr nx1 0) → T.get (K 15) tm = some (.ptr nx1.succ 0) → T.get (K 17) tm = some (.ptr nx1.succ.succ.succ 0) → T.get (K 10) tm = some (.ptr nx.succ.succ.succ 0) → T.get (K 11) tm = some (.ptr nx.succ.succ.succ.succ 0) → nx1.succ.succ.succ.succ.toNat ≤ nx5.toNat →
     (∀ b : Key, b.toNat < nx1.succ.succ.toNat → T.get b h5 = T.get b h3) → T.get nx1.succ.succ.succ h5 = some (.cells [.slice nx1.succ.succ 0 vs.length 5] .fix) → T.get nx1.succ.succ h5 = some (.cells L1 .fix) → L1.length = vs.length * 5 → Rw 5 IsZ L1 vs →
     wpC C (.seq (.ops yag_r13) .ret) (BodyP [.cell (K 10) true 4, .cell (K 11) true 3, .tmp (K 12), .tmp (K 13)] (CallP (clampL fu ro se att) (modOf ds) gas nm vs h nx)) tm h5 nx5 := by
    intro tm h5 nx5 L1 f14 f15 f17 f10 f11 t5 g5 gs gl hLl hRw
    have E35 : Ext h3 nx1.succ.succ h5 nx5 := ⟨by omega, g5⟩
    have R5 := R3.ext E35
    have w3 := (g5 _ (by omega)).trans v3
    have w4 := (g5 _ (by omega)).trans v4
    have wr := (g5 _ (by omega)).trans vr
    have wd := (g5 _ (by omega)).trans vd
    have nl : nx1.succ.succ ≠ rb := fun e => by rw [← e] at low; omega
    have ne3 : ¬ (nx.succ.succ.succ = rb ∨ nx.succ.succ.succ = nx1.succ.succ) := by
     rintro (e | e)
     ·rw [← e] at hrb; omega
     ·have := congrArg Key.toNat e; omega
    have ne4 : ¬ (nx.succ.succ.succ.succ = rb ∨ nx.succ.succ.succ.succ = nx1.succ.succ) := by
     rintro (e | e)
     ·rw [← e] at hrb; omega
     ·have := congrArg Key.toNat e; omega
    simp [yag_r13, f14, f15, f17, wr, S.raw]
    refine (result_ok S (X := fun b => b = rb ∨ b = nx1.succ.succ) (fun b hb => by rcases hb with rfl | rfl <;> omega) HL (R0 := callF (ev (clampL fu ro se att) (modOf ds) gas) d.f vs st0) R5 (by intro h; simp) ?_).mono ?_
    ·intro h6 nx6 E
     have tE := E.n
     exact callC_ok S HM HL hgas hF hLl hRw hlen hz (R5.ext E) ((E.g _ (by omega)).trans wr) ((E.g _ (by omega)).trans wd) ((E.g _ (by omega)).trans gs) ((E.g _ (by omega)).trans gl) (by omega) (by omega) (by omega) (by omega) nl
    ·rintro o h6 nx6 ⟨f6, hO⟩
     have t6 := f6.n
     have y3 := (f6.g _ (by omega) ne3 (by rw [w3]; trivial)).trans w3
     have y4 := (f6.g _ (by omega) ne4 (by rw [w4]; trivial)).trans w4
     have hF6 : ∀ A B, Fk h nx (T.set nx.succ.succ.succ.succ (some A) (T.set nx.succ.succ.succ (some B) h6)) nx6 := by
      intro A B
      refine ⟨by omega, fun b hb hk => ?_⟩
      rw [get_lt (by omega), get_lt (by omega)]
      have hb5 : T.get b h5 = T.get b h := (g5 b (by omega)).trans (E13.g b hb)
      rw [f6.g b (by omega) (by
       rintro (e | e)
       ·rw [← e] at hrb; omega
       ·have := congrArg Key.toNat e; omega) (by rw [hb5]; exact hk), hb5]
     cases hres : callF (ev (clampL fu ro se att) (modOf ds) gas) d.f vs st0 with
     | stop ec st' =>
      rw [hres] at hO
      obtain ⟨cb3, hB, rfl⟩ := hO
      have hbf : ∀ n h, frzA n cb3 h = (cb3, h) := (IsBrs.stb S hB).1
      simp [f10, f11, y3, y4, hbf]
      exact ⟨hF6 _ _, by rw [hcr, hres]; exact ⟨cb3, hB, rfl⟩⟩
     | ok v st' =>
      rw [hres] at hO
      obtain ⟨lv, cb3, hv3, hB, rfl⟩ := hO
      obtain ⟨c, rfl, hK⟩ := hv3.cells
      have hcc := IsK.cell hK
      have hcf : ∀ n h, frzA n c h = (c, h) := IsK.stb hK
      have hbf : ∀ n h, frzA n cb3 h = (cb3, h) := (IsBrs.stb S hB).1
      simp [f10, f11, y3, y4, hbf, hcc, hcf]
      exact ⟨hF6 _ _, by rw [hcr, hres]; exact ⟨_, cb3, hv3, hB, rfl⟩⟩
   simp only [wpC_seq, wpC_ops] at main
   rcases hv with ⟨rfl, hvn⟩ | ⟨cs, rfl, hvl, hcs⟩
   ·subst hvn
    have l0 : d.f.params.length = 0 := hlen
    have fin : ∀ (Q : Prop), True := fun _ => trivial
    rcases hps with ⟨rfl, hpn⟩ | ⟨pcs, rfl, hpl, hpcs⟩
    ·simp [yag_r5, vd, hp4]
     simp [yag_r7]
     simp [yag_r8]
     refine W.unroll (W.of ?_)
     simp [yag_l0]
     simp [yag_r9]
     refine main _ _ _ [] ?_ ?_ ?_ ?_ ?_ (by omega) (fun b hb => ?_) ?_ ?_ rfl (Rw.nil 5 IsZ)
     any_goals simp
     rw [get_lt (by omega), get_lt (by omega)]
    ·simp [yag_r5, vd, hp4, l0]
     simp [yag_r7]
     simp [yag_r8]
     refine W.unroll (W.of ?_)
     simp [yag_l0]
     simp [yag_r9]
     refine main _ _ _ [] ?_ ?_ ?_ ?_ ?_ (by omega) (fun b hb => ?_) ?_ ?_ rfl (Rw.nil 5 IsZ)
     any_goals simp
     rw [get_lt (by omega), get_lt (by omega)]
   ·have hle : vs.length ≤ 65536 := by omega
    -- the loop
    have loop : ∀ tm, T.get (K 14) tm = some (.ptr nx1 0) → T.get (K 15) tm = some (.ptr nx1.succ 0) → T.get (K 10) tm = some (.ptr nx.succ.succ.succ 0) → T.get (K 11) tm = some (.ptr nx.succ.succ.succ.succ 0) → T.get (K 2) tm = some (.sl cs vs.length 4 .any) →
      wpC C (.seq (.ops yag_r7) (.seq (.seq (.ops yag_r8) (.block 0 (.loop yag_l0))) (.seq (.ops yag_r13) .ret))) (BodyP [.cell (K 10) true 4, .cell (K 11) true 3, .tmp (K 12), .tmp (K 13)] (CallP (clampL fu ro se att) (modOf ds) gas nm vs h nx)) tm h3 nx1.succ.succ := by
     intro tm f14 f15 f10 f11 f2
     simp [yag_r7, f2, hle]
     simp [yag_r8, f2]
     have neq : nx1.succ.succ.succ ≠ nx1.succ.succ := fun e => by have := congrArg Key.toNat e; omega
     refine ar_loop S hcs hvl hz (kr := nx1) (kd := nx1.succ) (kl := nx1.succ.succ) (ks := nx1.succ.succ.succ) (k10 := nx.succ.succ.succ) (k11 := nx.succ.succ.succ.succ) (h := T.set nx1.succ.succ.succ (some (.cells [.slice nx1.succ.succ 0 vs.length 5] .fix)) (T.set nx1.succ.succ (some (.cells (List.replicate vs.length [I 0, I 0, .str 0 0, .nils, I 0]).flatten .fix)) h3)) (nx := nx1.succ.succ.succ.succ) (by omega) (by omega) neq (T.get_set_same _ _ _) _ ?_ ?_
     ·refine ⟨0, (List.replicate vs.length [I 0, I 0, .str 0 0, .nils, I 0]).flatten, by simp, by omega, ?_, ?_, ?_, ?_, ?_, ?_, ?_, ?_, by omega, fun b hb hn => rfl, ?_, ?_, by simpa using Rw.nil 5 IsZ⟩
      ·simp [f2]
      ·simp [f2]
      ·simp
      ·simp [f14]
      ·simp [f15]
      ·simp
      ·simp [f10]
      ·simp [f11]
      ·rw [get_lt (by omega)]; exact T.get_set_same _ _ _
      ·simp
     ·intro tm' h' nx' L1 g14 g15 g17 g10 g11 t' g' hL hLl hRw
      simp
      refine main _ _ _ L1 g14 g15 g17 g10 g11 t' (fun b hb => ?_) ?_ hL hLl hRw
      ·rw [g' b (by omega) (fun e => by have := congrArg Key.toNat e; omega), get_lt (by omega), get_lt (by omega)]
      ·rw [g' _ (by omega) neq]; exact T.get_set_same _ _ _
    simp only [wpC_seq, wpC_ops] at loop
    rcases hps with ⟨rfl, hpn⟩ | ⟨pcs, rfl, hpl, hpcs⟩
    ·have hl2 : ((vs.length : Int) == (0 : Int)) = true := by rw [beq_iff_eq]; rw [hpn] at hlen; simp at hlen; omega
     simp [yag_r5, vd, hp4, hl2]
     refine loop _ ?_ ?_ ?_ ?_ ?_ <;> simp
    ·have hl2 : ((vs.length : Int) == (d.f.params.length : Int)) = true := by rw [beq_iff_eq]; omega
     simp [yag_r5, vd, hp4, hl2]
     refine loop _ ?_ ?_ ?_ ?_ ?_ <;> simp
  ·rw [if_neg hlen] at hcr
   have bad : ∀ h4, h4 = h3 → CallP (clampL fu ro se att) (modOf ds) gas nm vs h nx (.ret (.tuple [.agg [I 0, I 0, .str 0 0, .nils], .agg [I 0, I 0, I 0], .nils, I 9])) (T.set nx.succ.succ.succ.succ (some (.cells [I 0, I 0, I 0] .fix)) (T.set nx.succ.succ.succ (some (.cells [I 0, I 0, .str 0 0, .nils] .fix)) h4)) nx1.succ.succ := by
    rintro _ rfl
    refine ⟨⟨by omega, fun b hb _ => ?_⟩, ?_⟩
    ·rw [get_lt (by omega), get_lt (by omega)]; exact E13.g b hb
    ·rw [hcr]; exact ⟨.nils, ⟨.inl ⟨rfl, rfl⟩, by simp [st0]⟩, rfl⟩
   rcases hv with ⟨rfl, hvn⟩ | ⟨cs, rfl, hvl, hcs⟩
   ·subst hvn
    rcases hps with ⟨rfl, hpn⟩ | ⟨pcs, rfl, hpl, hpcs⟩
    ·rw [hpn] at hlen; exact absurd rfl hlen
    ·have hl2 : ((0 : Int) == (d.f.params.length : Int)) = false := beq_eq_false_iff_ne.2 (by have : d.f.params.length ≠ 0 := hlen; omega)
     have hl3 : ¬ (0 : Int) = (d.f.params.length : Int) := by have : d.f.params.length ≠ 0 := hlen; omega
     simp [yag_r5, vd, hp4, hl2, hl3]
     simp [yag_r6, v3, v4]
     exact bad _ rfl
   ·rcases hps with ⟨rfl, hpn⟩ | ⟨pcs, rfl, hpl, hpcs⟩
    ·have hl2 : ((vs.length : Int) == (0 : Int)) = false := beq_eq_false_iff_ne.2 (by rw [hpn] at hlen; simp at hlen; intro e; exact hlen (by omega))
     simp [yag_r5, vd, hp4, hl2]
     simp [yag_r6, v3, v4]
     exact bad _ rfl
    ·have hl2 : ((vs.length : Int) == (d.f.params.length : Int)) = false := beq_eq_false_iff_ne.2 (by omega)
     simp [yag_r5, vd, hp4, hl2]
     simp [yag_r6, v3, v4]
     exact bad _ rfl
end Tz
