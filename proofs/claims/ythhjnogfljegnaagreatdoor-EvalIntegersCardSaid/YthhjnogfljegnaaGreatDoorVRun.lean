/-
  SV: how a run ends. No condition.
-/
import Derived.Test.YthhjnogfljegnaaGreatDoorVEval
import Derived.Test.YthhjnogfljegnaaGreatDoorVDef
set_option linter.unusedSimpArgs false
set_option linter.unusedVariables false
set_option linter.unusedSectionVars false
namespace Tz
open Go.Sx Go
theorem brA_mem {l : List Br} {x : AV} (h : x ∈ brsA l) : (∃ s, x = SA s) ∨ ∃ n, x = I n := by
  simp [brsA, brA] at h
  obtain ⟨b, hb, h⟩ := h
  rcases h with rfl | rfl | rfl
  · exact .inl ⟨_, rfl⟩
  · exact .inr ⟨_, rfl⟩
  · exact .inr ⟨_, rfl⟩
theorem brsA_stb (l : List Br) : ∀ x ∈ brsA l, Stb x := by
  intro x hx
  rcases brA_mem hx with ⟨s, rfl⟩ | ⟨n, rfl⟩
  · exact stb_str _ _
  · exact fun k h => by cases k <;> rfl
theorem brsA_lits (l : List Br) : AV.litsL (brsA l) = true := litsL_of fun x hx => by
  rcases brA_mem hx with ⟨s, rfl⟩ | ⟨n, rfl⟩ <;> rfl
theorem brsA_length (l : List Br) : (brsA l).length = l.length * 3 := by
  induction l with
  | nil => rfl
  | cons b l ih => simp [brsA, brA] at ih ⊢; omega
theorem IsApp.beq {c : AV} {l : List AV} {len sz : Nat} {h : T Blk} {nx : Key} (ha : IsApp c l len sz h nx) (hl : AV.litsL l = true) : AV.beq c c = true := by
  rcases ha with ⟨rfl, rfl, rfl⟩ | ⟨b, rfl, hb, hlt, hll⟩ | ⟨t, rfl, ht, hlt⟩
  · rfl
  · exact beq_refl _ rfl
  · exact beq_refl _ (by simp [AV.lits, hl])
/- branches that are handed back -/
def IsBrs (c : AV) (l : List Br) : Prop := (c = .nils ∧ l = []) ∨ c = .sl (brsA l) l.length 3 .any
theorem IsApp.frz {c : AV} {l : List Br} {h : T Blk} {nx : Key} (ha : IsApp c (brsA l) l.length 3 h nx) (n : Nat) : IsBrs (frzA (n + 1) c h).1 l ∧ ∀ b, Kp (T.get b h) → T.get b (frzA (n + 1) c h).2 = T.get b h := by
  rcases ha with ⟨rfl, hn, hl⟩ | ⟨b, rfl, hb, hlt, hll⟩ | ⟨t, rfl, ht, hlt⟩
  · exact ⟨.inl ⟨rfl, List.eq_nil_of_length_eq_zero hl⟩, fun _ _ => rfl⟩
  · rw [frz_part hb hll (brsA_stb l)]
    refine ⟨.inr rfl, fun x hx => ?_⟩
    have hne : x ≠ b := by intro e; subst e; rw [hb] at hx; exact hx
    rw [T.get_set_ne _ _ _ _ hne]
  · exact ⟨.inr rfl, fun _ _ => rfl⟩

def ResOut (r : Res) (o : Out) : Prop := match r with
  | .ok v st => ∃ l c, IsV l v ∧ IsBrs c st.brs ∧ o = .ret (.tuple [.agg l, .agg [I st.cf, I st.cb, I st.fl], c, I 0])
  | .stop e st => ∃ c, IsBrs c st.brs ∧ o = .ret (.tuple [.agg [I 0, I 0, .str 0 0, .nils], .agg [I st.cf, I st.cb, I st.fl], c, I e])
/- the blocks of the results -/
structure RB (rb : Key) (nx : Key) (h : T Blk) (v cst : List AV) (br e : AV) : Prop where
  b0 : T.get nx h = some (.cells [.ptr rb 0] .fix)
  b1 : T.get nx.succ h = some (.cells v .fix)
  b2 : T.get nx.succ.succ h = some (.cells cst .fix)
  b3 : T.get nx.succ.succ.succ h = some (.cells [br] .fix)
  b4 : T.get nx.succ.succ.succ.succ h = some (.cells [e] .fix)

variable {C : Cfg} (S : Std C) {rb : Key} {D : RunB} {L : Lim}
include S

theorem result_ok {st : St} {h : T Blk} {nx : Key} {fb : Nat} {cap : List AV} {R0 : Res} (hr : Run rb D L st h nx) (hcap : ∀ h, frzLA (frzA 8) cap h = (cap, h))
    (Hb : ∀ h' nx', Ext h nx h' nx' → CallA C fb cap h' nx' (Ends rb D L h' nx' R0)) :
    CallA C n_eval_run_result [.ptr rb 0, .fn fb [] cap] h nx (fun o h' nx' => Fr rb h nx h' nx' ∧ ResOut R0 o) := by
  have low := hr.low
  have s1 := Key.toNat_succ nx
  have s2 := Key.toNat_succ nx.succ
  have s3 := Key.toNat_succ nx.succ.succ
  have s4 := Key.toNat_succ nx.succ.succ.succ
  have s5 := Key.toNat_succ nx.succ.succ.succ.succ
  have ne0 : nx ≠ rb := fun e => by rw [← e] at low; omega
  have ne1 : nx.succ ≠ rb := fun e => by rw [← e] at low; omega
  have ne2 : nx.succ.succ ≠ rb := fun e => by rw [← e] at low; omega
  have ne3 : nx.succ.succ.succ ≠ rb := fun e => by rw [← e] at low; omega
  have ne4 : nx.succ.succ.succ.succ ≠ rb := fun e => by rw [← e] at low; omega
  refine defer_call (kr := k8) (kx := k8) (rs := [⟨some k5, .mov (.t k8), none⟩]) (g := n_eval_run_result_c1) (cap := [.ptr nx 0, .ptr nx.succ 0, .ptr nx.succ.succ 0, .ptr nx.succ.succ.succ 0, .ptr nx.succ.succ.succ.succ 0]) (S.c_eval_run_result.off _ _ _) S.c_eval_run_result.get rfl rfl S.c_eval_run_result_c1.get rfl rfl ?_
  refine W.of ?_
  rw [params0]
  simp [eval_run_result_r0]
  refine W.of ?_
  -- what is known once the results' blocks are filled
  have fin : ∀ (tm2 : T AV) (h2 : T Blk) (nx2 : Key) (v : V) (lv : List AV) (st' : St) (br : AV) (e : Int), Fr rb h nx h2 nx2 → RB rb nx h2 lv [I st'.cf, I st'.cb, I st'.fl] br (I e) → IsV lv v → IsApp br (brsA st'.brs) st'.brs.length 3 h2 nx2 →
      T.get (K 4) tm2 = some (.ptr nx.succ 0) → T.get (K 5) tm2 = some (.ptr nx.succ.succ 0) → T.get (K 6) tm2 = some (.ptr nx.succ.succ.succ 0) → T.get (K 7) tm2 = some (.ptr nx.succ.succ.succ.succ 0) →
      (∀ c, IsBrs c st'.brs → ResOut R0 (.ret (.tuple [.agg lv, .agg [I st'.cf, I st'.cb, I st'.fl], c, I e]))) →
      ∃ l, resultsA h2 tm2 eval_run_result.res = some l ∧ (fun o h' nx' => Fr rb h nx h' nx' ∧ ResOut R0 o) (Out.ret (tupled (frzIfA (C.rawR n_eval_run_result) l h2).1)) (frzIfA (C.rawR n_eval_run_result) l h2).2 nx2 := by
    intro tm2 h2 nx2 v lv st' br e F B hv ha k4 k5 k6 k7 hro
    obtain ⟨c, rfl, hK⟩ := hv.cells
    have hcf : ∀ n h, frzA n c h = (c, h) := IsK.stb hK
    obtain ⟨hf1, hf2⟩ := ha.frz 7
    refine ⟨[.agg [I v.k, I v.n, .str v.a v.b, c], .agg [I st'.cf, I st'.cb, I st'.fl], br, I e], ?_, ?_⟩
    · simp [eval_run_result, k4, k5, k6, k7, B.b1, B.b2, B.b3, B.b4]
    · rw [S.c_eval_run_result.rawR]
      simp [hcf]
      refine ⟨⟨F.n, fun b hb hne hk => ?_⟩, hro _ hf1⟩
      have := F.g b hb hne hk
      rw [hf2 b (by rw [this]; exact hk), this]
  have E5 : Ext h nx (T.set nx.succ.succ.succ.succ (some (.cells [I 0] .fix)) (T.set nx.succ.succ.succ (some (.cells [.nils] .fix)) (T.set nx.succ.succ (some (.cells [I 0, I 0, I 0] .fix)) (T.set nx.succ (some (.cells [I 0, I 0, .str 0 0, .nils] .fix)) (T.set nx (some (.cells [.ptr rb 0] .fix)) h))))) nx.succ.succ.succ.succ.succ :=
    ⟨by omega, fun b hb => by simp (disch := omega) only [get_lt (α := Blk)]⟩
  have hcap' : ∀ h, frzLA (frzA 8) cap h = (cap, h) := hcap
  simp [eval_run_result_r2, S.raw, hcap']
  refine (Hb _ _ E5).mono ?_
  rintro o h6 nx6 ⟨f6, hR⟩
  have t6 := f6.n
  have F6 : Fr rb h nx h6 nx6 := (Fr.ext E5).trans f6
  have B6 : RB rb nx h6 [I 0, I 0, .str 0 0, .nils] [I 0, I 0, I 0] .nils (I 0) := by
    refine ⟨?_, ?_, ?_, ?_, ?_⟩
    · rw [f6.g _ (by omega) ne0 (by simp; trivial)]; simp
    · rw [f6.g _ (by omega) ne1 (by simp; trivial)]; simp
    · rw [f6.g _ (by omega) ne2 (by simp; trivial)]; simp
    · rw [f6.g _ (by omega) ne3 (by simp; trivial)]; simp
    · rw [f6.g _ (by omega) ne4 (by simp; trivial)]; simp
  cases R0 with
  | stop c st' =>
    obtain ⟨rfl, hR⟩ := hR
    simp [stopO]
    unfold DefPost
    refine wpO_sound ?_
    rw [params0]
    simp
    refine W.of ?_
    simp [eval_run_result_c1_r1, eqV]
    simp [eval_run_result_c1_r2]
    have E7 := E0 h6 nx6 (.cells [I c] .fix)
    have s7 := Key.toNat_succ nx6
    have r7 := hR.ext E7
    obtain ⟨br, hb7, ha7⟩ := r7.blk
    have q0 := (E7.g nx (by omega)).trans B6.b0
    have q1 := (E7.g nx.succ (by omega)).trans B6.b1
    have q2 := (E7.g nx.succ.succ (by omega)).trans B6.b2
    have q3 := (E7.g nx.succ.succ.succ (by omega)).trans B6.b3
    have q4 := (E7.g nx.succ.succ.succ.succ (by omega)).trans B6.b4
    have gn1 : ∀ u t, T.get nx6 (T.set nx.succ u t) = T.get (α := Blk) nx6 t := fun u t => get_gt (by omega)
    have gn2 : ∀ u t, T.get nx6 (T.set nx.succ.succ u t) = T.get (α := Blk) nx6 t := fun u t => get_gt (by omega)
    have gn3 : ∀ u t, T.get nx6 (T.set nx.succ.succ.succ u t) = T.get (α := Blk) nx6 t := fun u t => get_gt (by omega)
    have hbc := ha7.cell.1
    have hbs := ha7.cell.2
    simp [eval_run_result_c1_r3]
    simp [eval_run_result_c1_r5, q0, q1, q2, q3, q4, hb7, gn1, gn2, gn3, hbc, hbs, AV.beq, SI.beq]
    have fin' := fin
    simp at fin'
    refine fin' _ _ _ (.mk 0 0 0 0 []) [I 0, I 0, .str 0 0, .nils] st' br c ?_ ⟨?_, ?_, ?_, ?_, ?_⟩ (.leaf 0 0 0 0) ?_ ?_ ?_ ?_ ?_ ?_
    · exact ⟨by have := F6.n; omega, fun b hb hne hk => by
        simp (disch := omega) only [get_lt (α := Blk)]
        exact F6.g b hb hne hk⟩
    · simp [q0]
    · simp
    · simp
    · simp
    · simp
    · refine ha7.keep (Nat.le_refl _) fun b hb hx => ?_
      have hnf : ∀ k l, T.get k (T.set nx6 (some (.cells [I c] .fix)) h6) = some (.cells l .fix) → b ≠ k := by
        intro k l hk e
        subst e
        rcases hx with hx | ⟨l', hx⟩ <;> rw [hk] at hx <;> cases hx
      rw [T.get_set_ne _ _ _ _ (hnf _ _ q4), T.get_set_ne _ _ _ _ (hnf _ _ q3), T.get_set_ne _ _ _ _ (hnf _ _ q2), T.get_set_ne _ _ _ _ (hnf _ _ q1)]
    · simp
    · simp
    · simp
    · simp
    · intro c' hc'
      exact ⟨c', hc', rfl⟩
  | ok v st' =>
    obtain ⟨⟨c, hK, rfl⟩, hR⟩ := hR
    have hcf : ∀ n h, frzA n c h = (c, h) := IsK.stb hK
    simp [S.raw, hcf]
    refine (clone_ok S (IsV.ofV hK) _ _).mono ?_
    rintro o h7 nx7 ⟨⟨lv, hlv, rfl⟩, e7⟩
    have t7 := e7.n
    have r7 := hR.ext e7
    obtain ⟨c2, rfl, hK2⟩ := hlv.cells
    have hcc := IsK.cell hK2
    obtain ⟨br, hb7, ha7⟩ := r7.blk
    have q0 := (e7.g nx (by omega)).trans B6.b0
    have q1 := (e7.g nx.succ (by omega)).trans B6.b1
    have q2 := (e7.g nx.succ.succ (by omega)).trans B6.b2
    have q3 := (e7.g nx.succ.succ.succ (by omega)).trans B6.b3
    have q4 := (e7.g nx.succ.succ.succ.succ (by omega)).trans B6.b4
    have gr1 : ∀ u t, T.get rb (T.set nx.succ u t) = T.get (α := Blk) rb t := fun u t => get_lt (by omega)
    have gr2 : ∀ u t, T.get rb (T.set nx.succ.succ u t) = T.get (α := Blk) rb t := fun u t => get_lt (by omega)
    have gr3 : ∀ u t, T.get rb (T.set nx.succ.succ.succ u t) = T.get (α := Blk) rb t := fun u t => get_lt (by omega)
    have hbq := ha7.beq (brsA_lits _)
    have hbc := ha7.cell.1
    have hbs := ha7.cell.2
    simp [q1, hcc]
    simp [eval_run_result_r3, q0, q1, q2, q3, q4, hb7, gr1, gr2, gr3, hbq, hbc, hbs, hcc, AV.beq, AV.beqs, SI.beq, keyBeq_refl]
    unfold DefPost
    refine wpO_sound ?_
    rw [params0]
    simp
    refine W.of ?_
    simp [eval_run_result_c1_r1, eqV]
    have fin' := fin
    simp at fin'
    refine fin' _ _ _ v [I v.k, I v.n, .str v.a v.b, c2] st' br 0 ?_ ⟨?_, ?_, ?_, ?_, ?_⟩ hlv ?_ ?_ ?_ ?_ ?_ ?_
    · exact ⟨by have := F6.n; omega, fun b hb hne hk => by
        simp (disch := omega) only [get_lt (α := Blk)]
        rw [e7.g b (by have := F6.n; omega)]
        exact F6.g b hb hne hk⟩
    · simp [q0]
    · simp
    · simp
    · simp
    · simp
    · refine ha7.keep (Nat.le_refl _) fun b hb hx => ?_
      have hnf : ∀ k l, T.get k h7 = some (.cells l .fix) → b ≠ k := by
        intro k l hk e
        subst e
        rcases hx with hx | ⟨l', hx⟩ <;> rw [hk] at hx <;> cases hx
      rw [T.get_set_ne _ _ _ _ (hnf _ _ q4), T.get_set_ne _ _ _ _ (hnf _ _ q3), T.get_set_ne _ _ _ _ (hnf _ _ q2), T.get_set_ne _ _ _ _ (hnf _ _ q1)]
    · simp
    · simp
    · simp
    · simp
    · intro c' hc'
      exact ⟨_, c', hlv, hc', rfl⟩
end Tz
/-
  SV: runs without a module. No condition.
-/
namespace Tz
open Go.Sx Go
def M0 : Md := ⟨[], []⟩
def st0 : St := ⟨0, 0, 0, 0, []⟩
variable {C : Cfg} (S : Std C)
include S

theorem builtins_ok (h : T Blk) (nx : Key) : CallA C n_eval_builtins [] h nx (fun o h' nx' => o = .ret (.map nx) ∧ T.get nx h' = some (.map bmA) ∧ nx' = nx.succ ∧ Ext h nx h' nx') := by
  refine S.c_eval_builtins.call ?_
  simp [eval_builtins]
  simp [eval_builtins_r0]
  simp [eval_builtins_r1]
  exact ⟨rfl, E0 h nx _⟩

theorem newRun0_ok (fu ro se att : Int) (hf0 : 0 ≤ fu) (hf1 : fu ≤ 1048576) (hr0 : 0 ≤ ro) (hr1 : ro ≤ 1024) (h : T Blk) (nx : Key) :
    CallA C n_eval_newRun [.agg [.nils], .agg [I fu, I ro], .agg [I se, I att]] h nx (fun o h' nx' => ∃ rb D, o = .ret (.ptr rb 0) ∧ nx.toNat ≤ rb.toNat ∧ Run rb D ⟨fu, ro, se, att⟩ st0 h' nx' ∧ Maps D M0 ∧ Ext h nx h' nx') := by
  have s1 := Key.toNat_succ nx
  have s2 := Key.toNat_succ nx.succ
  have s3 := Key.toNat_succ nx.succ.succ
  have s4 := Key.toNat_succ nx.succ.succ.succ
  have s5 := Key.toNat_succ nx.succ.succ.succ.succ
  have a1 : ¬ fu < 0 := by omega
  have a2 : ¬ 1048576 < fu := by omega
  have a3 : ¬ ro < 0 := by omega
  have a4 : ¬ 1024 < ro := by omega
  refine S.c_eval_newRun.call ?_
  simp [eval_newRun]
  simp [eval_newRun_r0]
  simp [eval_newRun_r1, S.raw, List.filter_cons, a1, a2, a3, a4]
  refine (builtins_ok S _ _).mono ?_
  rintro o h1 nx1 ⟨rfl, g1, rfl, e1⟩
  have s6 := Key.toNat_succ nx.succ.succ.succ.succ.succ
  have s7 := Key.toNat_succ nx.succ.succ.succ.succ.succ.succ
  have q0 := e1.g nx (by omega)
  have q1 := e1.g nx.succ (by omega)
  have q2 := e1.g nx.succ.succ (by omega)
  simp at q0 q1 q2
  simp [q0, q1, q2, AV.beq, AV.beqs, SI.beq, List.filter_cons]
  simp [eval_newRun_r2, q0]
  refine W.unroll (W.of ?_)
  simp [eval_newRun_l0]
  simp [eval_newRun_r3]
  simp [eval_newRun_r20]
  refine ⟨by omega, ⟨nx.succ.succ.succ, nx.succ.succ.succ.succ, nx.succ.succ.succ.succ.succ, [], [], bmA⟩, ?_, ⟨rfl, rfl, rfl, ?_⟩, ?_⟩
  · refine ⟨⟨.nils, by simp [st0], .inl ⟨rfl, rfl, rfl⟩⟩, by omega, by simp, by simp, by simp [g1], by simp, by simp, by simp, ?_, ?_, ?_, ?_, ?_, ?_⟩ <;> simp [st0] <;> omega
  · intro a b; simp [M0, findA]
  · refine ⟨by omega, fun b hb => ?_⟩
    simp (disch := omega) only [get_lt (α := Blk)]
    rw [e1.g b (by omega)]
    simp (disch := omega) only [get_lt (α := Blk)]
end Tz
/-
  SV: the evaluation of an expression without a module. No condition.
-/
namespace Tz
open Go.Sx Go
def IsBd (l : List AV) (x : S × V) : Prop := ∃ c, IsK c x.2.kids ∧ l = [SA x.1, I x.2.k, I x.2.n, .str x.2.a x.2.b, c]
/- a list of variables -/
def IsEnv (c : AV) (env : List (S × V)) : Prop := (c = .nils ∧ env = []) ∨ ∃ cs, c = .sl cs env.length 5 .any ∧ env.length ≤ 4000 ∧ Rw 5 IsBd cs env
theorem IsEnv.stb {c : AV} {env : List (S × V)} (h : IsEnv c env) : Stb c := by
  rcases h with ⟨rfl, rfl⟩ | ⟨cs, rfl, _, _⟩
  · exact stb_nils
  · exact stb_sl _ _ _
/- blocks that are not appended to stay -/
structure Fk (h : T Blk) (nx : Key) (h' : T Blk) (nx' : Key) : Prop where
  n : nx.toNat ≤ nx'.toNat
  g : ∀ b : Key, b.toNat < nx.toNat → Kp (T.get b h) → T.get b h' = T.get b h
theorem Fk.refl (h : T Blk) (nx : Key) : Fk h nx h nx := ⟨Nat.le_refl _, fun _ _ _ => rfl⟩
theorem Fk.trans {h1 h2 h3 : T Blk} {n1 n2 n3 : Key} (a : Fk h1 n1 h2 n2) (b : Fk h2 n2 h3 n3) : Fk h1 n1 h3 n3 :=
  ⟨Nat.le_trans a.n b.n, fun k hk hp => by
    have e := a.g k hk hp
    rw [b.g k (Nat.lt_of_lt_of_le hk a.n) (by rw [e]; exact hp), e]⟩
theorem Fk.ext {h1 h2 : T Blk} {n1 n2 : Key} (a : Ext h1 n1 h2 n2) : Fk h1 n1 h2 n2 := ⟨a.n, fun b hb _ => a.g b hb⟩
theorem IsSc.keep {rb : Key} {h h' : T Blk} {nx nx' : Key} {p : AV} {s : Sc} (hp : IsSc rb h nx p s) (hn : nx.toNat ≤ nx'.toNat) (hg : ∀ (b : Key) (l : List AV), b.toNat < nx.toNat → T.get b h = some (.cells l .fix) → l.length = 7 → T.get b h' = T.get b h) : IsSc rb h' nx' p s := by
  induction hp with
  | nil => exact .nil
  | cons b name v c p s hb hr hg' hK hz hs ih => exact .cons b name v c p s (by omega) hr (by rw [hg b _ hb hg' rfl]; exact hg') hK hz ih
theorem IsSc.beq {rb : Key} {h : T Blk} {nx : Key} {p : AV} {s : Sc} (hp : IsSc rb h nx p s) : AV.beq p p = true := by
  cases hp with
  | nil => rfl
  | cons => exact beq_refl _ rfl
variable {C : Cfg} (S : Std C)

/- the loop over the variables -/
def EnvInv (rb : Key) (D : RunB) (L : Lim) (env : List (Go.Sx.S × V)) (cs : List AV) (ra rs k7 k10 k11 : AV) (kb : Key) (h1 : T Blk) (m : Nat) (tm' : T AV) (h' : T Blk) (nx' : Key) : Prop :=
  ∃ (j : Nat) (sp : AV), m = env.length - j ∧ j ≤ env.length ∧ T.get (K 22) tm' = some (.sl cs env.length 5 .any) ∧ T.get (K 23) tm' = some (I env.length) ∧ T.get (K 24) tm' = some (I j) ∧ T.get (K 14) tm' = some ra ∧ T.get (K 15) tm' = some rs ∧ T.get (K 7) tm' = some k7 ∧ T.get (K 10) tm' = some k10 ∧ T.get (K 11) tm' = some k11 ∧
    kb.toNat < nx'.toNat ∧ (∀ b : Key, b.toNat < kb.toNat → T.get b h' = T.get b h1) ∧ T.get kb h' = some (.cells [sp] .fix) ∧ Run rb D L st0 h' nx' ∧ IsSc rb h' nx' sp (env.take j).reverse
include S

theorem env_loop {rb : Key} {D : RunB} {L : Lim} {env : List (Go.Sx.S × V)} {cs : List AV} (hcs : Rw 5 IsBd cs env) (hel : env.length ≤ 4000) (hz : ∀ x ∈ env, x.2.size ≤ 1073741824) {ra k7 k10 k11 : AV} {kb : Key} {h1 : T Blk} {nx1 : Key} {tm : T AV} (hk : rb.toNat < kb.toNat) (Q : Post)
    (hi : EnvInv rb D L env cs ra (.ptr kb 0) k7 k10 k11 kb h1 env.length tm h1 nx1)
    (hq : ∀ tm' h' nx' sp, T.get (K 14) tm' = some ra → T.get (K 15) tm' = some (.ptr kb 0) → T.get (K 7) tm' = some k7 → T.get (K 10) tm' = some k10 → T.get (K 11) tm' = some k11 → kb.toNat < nx'.toNat → (∀ b : Key, b.toNat < kb.toNat → T.get b h' = T.get b h1) → T.get kb h' = some (.cells [sp] .fix) → Run rb D L st0 h' nx' → IsSc rb h' nx' sp env.reverse → Q (.exit 0) tm' h' nx') :
    W C (.loop eval_Expr_l0) Q tm h1 nx1 := by
  refine W.loopM (n := env.length) (EnvInv rb D L env cs ra (.ptr kb 0) k7 k10 k11 kb h1) hi ?_
  rintro m tm2 h2 nx2 ⟨j, sp, rfl, hj, f22, f23, f24, f14, f15, f7, f10, f11, t2, e2, hkb, hR, hS⟩
  have s2 := Key.toNat_succ nx2
  have s3 := Key.toNat_succ nx2.succ
  have hrk : kb ≠ rb := fun e => by rw [e] at hk; omega
  refine W.of ?_
  simp [eval_Expr_l0]
  simp [eval_Expr_r4, f23, f24]
  refine ⟨fun hlt => ?_, fun hge => ?_⟩
  · have hjl : j < env.length := by omega
    obtain ⟨c, hK, ec⟩ := hcs.hk j hjl
    have hcc := IsK.cell hK
    have hcf : ∀ n h, frzA n c h = (c, h) := IsK.stb hK
    have h5 : 5 ≤ cs.length - j * 5 := by have := hcs.hc; omega
    have hzj := hz env[j] (List.getElem_mem hjl)
    simp [eval_Expr_r5, f22, f24, hjl, h5, ec, hcc]
    have gk : ∀ u t, T.get kb (T.set nx2 u t) = T.get (α := Blk) kb t := fun u t => get_lt t2
    have hsc := hS.cell
    have hsb := hS.beq
    simp [eval_Expr_r6, f15, gk, hkb, S.raw, hcf]
    refine (measured_ok S (IsV.ofV hK) (by omega) _ _).mono ?_
    rintro o h3 nx3 ⟨⟨c3, hK3, rfl⟩, e3⟩
    have t3 := e3.n
    have s4 := Key.toNat_succ nx3
    have w1 := e3.g nx2 (by omega)
    have w2 := (e3.g kb (by omega))
    simp [gk, hkb] at w1 w2
    have hcc3 := IsK.cell hK3
    have gk3 : ∀ u t, T.get kb (T.set nx3 u t) = T.get (α := Blk) kb t := fun u t => get_lt (by omega)
    simp [w1, w2, f15, AV.beq, hsb, hsc.1, hsc.2, hcc3, List.filter_cons, gk3]
    simp [eval_Expr_r7, f24]
    have E3 : Ext h2 nx2 h3 nx3 := ⟨by omega, fun b hb => by rw [e3.g b (by omega), get_lt hb]⟩
    have E4 : Ext h2 nx2 (T.set nx3 (some (.cells [SA env[j].1, I env[j].2.k, I env[j].2.n, .str env[j].2.a env[j].2.b, c3, I env[j].2.size, sp] .fix)) h3) nx3.succ := E3.trans (E0 _ _ _)
    have R4 := hR.ext E4
    have S4 := hS.mono (Fr.ext (rb := rb) E4)
    have hkb4 : T.get kb (T.set nx3 (some (.cells [SA env[j].1, I env[j].2.k, I env[j].2.n, .str env[j].2.a env[j].2.b, c3, I env[j].2.size, sp] .fix)) h3) = some (.cells [sp] .fix) := by rw [gk3]; exact w2
    have hnk : nx3 ≠ kb := fun e => by rw [← e] at t2; omega
    refine ⟨env.length - (j + 1), by omega, j + 1, .ptr nx3 0, rfl, by omega, ?_, ?_, ?_, ?_, ?_, ?_, ?_, ?_, by omega, fun b hb => ?_, by simp, R4.set hkb4 hrk, ?_⟩
    · simp [f22]
    · simp [f23]
    · simp; rw [wrap_id (by omega) (by omega)]
    · simp [f14]
    · simp [f15]
    · simp [f7]
    · simp [f10]
    · simp [f11]
    · rw [get_lt hb, get_lt (by omega), E3.g b (by omega)]; exact e2 b hb
    · rw [List.take_succ_eq_append_getElem hjl, List.reverse_append]
      refine .cons nx3 env[j].1 env[j].2 c3 sp _ (by omega) (fun e => by have := hR.low; rw [← e] at this; omega) ?_ hK3 hzj ?_
      · rw [T.get_set_ne _ _ _ _ hnk, T.get_set_same]
      · refine S4.keep (Nat.le_refl _) fun b l hb hg hl => ?_
        have hne : b ≠ kb := by intro e; subst e; rw [hkb4] at hg; cases hg; simp at hl
        rw [T.get_set_ne _ _ _ _ hne]
  · have hjl : j = env.length := by omega
    subst hjl
    rw [List.take_length] at hS
    exact hq _ _ _ sp (by simp [f14]) (by simp [f15]) (by simp [f7]) (by simp [f10]) (by simp [f11]) t2 e2 hkb hR hS

/- the closure that evaluates -/
theorem exprC_ok {rb : Key} {D : RunB} {L : Lim} {M : Md} (HM : Maps D M) (HL : Lims L) {gas : Nat} (hgas : L.fuel < gas) {s : Sc} {e : E} {le : List AV} (hE : IsE le e) {ka kb ke : Key} {sp : AV} {h : T Blk} {nx : Key} (hr : Run rb D L st0 h nx) (hs : IsSc rb h nx sp s)
    (ga : T.get ka h = some (.cells [.ptr rb 0] .fix)) (gb : T.get kb h = some (.cells [sp] .fix)) (ge : T.get ke h = some (.cells le .fix)) (la : ka.toNat < nx.toNat) (lb : kb.toNat < nx.toNat) (lk : ke.toNat < nx.toNat) (nk : ke ≠ rb) (h39 : e.k = 3 ∨ e.k = 9) :
    CallA C n_eval_Expr_c1 [.ptr ka 0, .ptr kb 0, .ptr ke 0] h nx (Ends rb D L h nx (ev L M gas (0, 0) s e st0)) := by
  have hs' : ∀ n h, frzA n sp h = (sp, h) := hs.stb
  have low := hr.low
  have r0 := hr.ext (E0 h nx Zb)
  have s1 := Key.toNat_succ nx
  have z0 := hs.mono (Fr.ext (rb := rb) (E0 h nx Zb))
  have q1 : T.get ka (T.set nx (some Zb) h) = some (.cells [.ptr rb 0] .fix) := by rw [get_lt la]; exact ga
  have q2 : T.get kb (T.set nx (some Zb) h) = some (.cells [sp] .fix) := by rw [get_lt lb]; exact gb
  have q3 : T.get ke (T.set nx (some Zb) h) = some (.cells le .fix) := by rw [get_lt lk]; exact ge
  refine S.c_eval_Expr_c1.call ?_
  simp [eval_Expr_c1]
  simp [eval_Expr_c1_r0]
  simp [eval_Expr_c1_r1, q1, q2, S.raw, hs']
  refine (ev_ok S HM HL gas 0 (by omega) (0, 0) s e st0 sp (.ptr ke 0) _ _ (by simp [st0]) r0 z0 ⟨le, hE, .inr ⟨ke, rfl, q3, by omega, nk, h39⟩⟩).1.mono ?_
  rintro o h1 nx1 ⟨f1, hR⟩
  cases hres : ev L M gas (0, 0) s e st0 with
  | stop c st' =>
    rw [hres] at hR
    obtain ⟨rfl, hR⟩ := hR
    simp [stopO]
    exact stop_ok f1.down hR
  | ok v st' =>
    rw [hres] at hR
    obtain ⟨⟨c, hK, rfl⟩, hR⟩ := hR
    have q := f1.res low
    have hcc := IsK.cell hK
    have hcf : ∀ n h, frzA n c h = (c, h) := IsK.stb hK
    simp [q, hcc, hcf]
    exact fin_ok f1 low hR hK

theorem IsBrs.stb {c : AV} {l : List Br} (h : IsBrs c l) : Stb c ∧ c.isCell = true := by
  rcases h with ⟨rfl, rfl⟩ | rfl
  · exact ⟨stb_nils, rfl⟩
  · exact ⟨stb_sl _ _ _, rfl⟩
end Tz
/-
  SV: the evaluation of an expression without a module, as a whole. No condition.
-/
namespace Tz
open Go.Sx Go
theorem IsE.stbs {l : List AV} {e : E} (h : IsE l e) : ∀ x ∈ l, Stb x := by
  obtain ⟨cn, cb, ck, rfl, hn, hb, hk, _⟩ := h.cells
  have i1 : ∀ n : Int, Stb (I n) := fun n k h => by cases k <;> rfl
  have s1 : Stb cn := by
    rcases hn with ⟨rfl, _⟩ | rfl
    · exact stb_nils
    · exact stb_sl _ _ _
  have s2 : Stb cb := by
    rcases hb with ⟨rfl, _⟩ | ⟨_, rfl, _⟩
    · exact stb_nils
    · exact stb_sl _ _ _
  intro x hx
  simp at hx
  rcases hx with rfl | rfl | rfl | rfl | rfl | rfl | rfl
  · exact i1 _
  · exact stb_str _ _
  · exact i1 _
  · exact s1
  · exact s2
  · exact IsEK.stb hk
  · exact i1 _
variable {C : Cfg} (S : Std C)
include S

theorem expr0_ok {fu ro se att : Int} (hf0 : 0 ≤ fu) (hf1 : fu ≤ 1048576) (hr0 : 0 ≤ ro) (hr1 : ro ≤ 1024) {gas : Nat} (hgas : fu < gas) {env : List (Go.Sx.S × V)} {ce : AV} (hce : IsEnv ce env) (hz : ∀ x ∈ env, x.2.size ≤ 1073741824) {e : E} {le : List AV} (hE : IsE le e) (h39 : e.k = 3 ∨ e.k = 9) (h : T Blk) (nx : Key) :
    CallA C n_eval_Expr [.agg [.nils], ce, .agg le, .agg [I fu, I ro], .agg [I se, I att]] h nx (fun o h' nx' => Fk h nx h' nx' ∧ ResOut (ev ⟨fu, ro, se, att⟩ M0 gas (0, 0) env.reverse e st0) o) := by
  have hce' : ∀ n h, frzA n ce h = (ce, h) := hce.stb
  have s1 := Key.toNat_succ nx
  have s2 := Key.toNat_succ nx.succ
  have s3 := Key.toNat_succ nx.succ.succ
  have s4 := Key.toNat_succ nx.succ.succ.succ
  have s5 := Key.toNat_succ nx.succ.succ.succ.succ
  have s6 := Key.toNat_succ nx.succ.succ.succ.succ.succ
  obtain ⟨cn, cb, ck, hle, _⟩ := hE.cells
  have hlc : (AV.agg le).cells = le := rfl
  refine S.c_eval_Expr.call ?_
  simp [eval_Expr]
  simp [eval_Expr_r0]
  simp [eval_Expr_r1, S.raw]
  refine (newRun0_ok S fu ro se att hf0 hf1 hr0 hr1 _ _).mono ?_
  rintro o h1 nx1 ⟨rb, D, rfl, hrb, hR, HM, e1⟩
  have t1 := e1.n
  have u1 := Key.toNat_succ nx1
  have u2 := Key.toNat_succ nx1.succ
  have q1 := e1.g nx.succ (by omega)
  have q4 := e1.g nx.succ.succ.succ.succ (by omega)
  have q5 := e1.g nx.succ.succ.succ.succ.succ (by omega)
  simp at q1 q4 q5
  have low := hR.low
  simp
  simp [eval_Expr_r2]
  have E1 := E0 h1 nx1 (.cells [.ptr rb 0] .fix)
  have E2 := E1.trans (E0 _ _ (.cells [.nilp] .fix))
  have R2 := hR.ext E2
  -- the rest, once the variables are bound
  have rest : ∀ tm' h' nx' sp, T.get (K 14) tm' = some (.ptr nx1 0) → T.get (K 15) tm' = some (.ptr nx1.succ 0) → T.get (K 7) tm' = some (.ptr nx.succ 0) → T.get (K 10) tm' = some (.ptr nx.succ.succ.succ.succ 0) → T.get (K 11) tm' = some (.ptr nx.succ.succ.succ.succ.succ 0) → nx1.succ.toNat < nx'.toNat →
      (∀ b : Key, b.toNat < nx1.succ.toNat → T.get b h' = T.get b (T.set nx1.succ (some (.cells [.nilp] .fix)) (T.set nx1 (some (.cells [.ptr rb 0] .fix)) h1))) → T.get nx1.succ h' = some (.cells [sp] .fix) → Run rb D ⟨fu, ro, se, att⟩ st0 h' nx' → IsSc rb h' nx' sp env.reverse →
      wpC C (.seq (.ops eval_Expr_r8) .ret) (BodyP [.cell (K 10) true 4, .cell (K 11) true 3, .tmp (K 12), .tmp (K 13)] (fun o h' nx' => Fk h nx h' nx' ∧ ResOut (ev ⟨fu, ro, se, att⟩ M0 gas (0, 0) env.reverse e st0) o)) tm' h' nx' := by
    intro tm' h' nx' sp f14 f15 f7 f10 f11 t' e' hkb hR' hS'
    have w0 : T.get nx1 h' = some (.cells [.ptr rb 0] .fix) := by rw [e' nx1 (by omega)]; simp
    have w1 : T.get nx.succ h' = some (.cells le .fix) := by rw [e' _ (by omega), get_lt (by omega), get_lt (by omega)]; exact q1
    have w4 : T.get nx.succ.succ.succ.succ h' = some (.cells [I 0, I 0, .str 0 0, .nils] .fix) := by rw [e' _ (by omega), get_lt (by omega), get_lt (by omega)]; exact q4
    have w5 : T.get nx.succ.succ.succ.succ.succ h' = some (.cells [I 0, I 0, I 0] .fix) := by rw [e' _ (by omega), get_lt (by omega), get_lt (by omega)]; exact q5
    have HL : Lims ⟨fu, ro, se, att⟩ := ⟨hf0, hf1, hr0, hr1⟩
    have ne1 : nx.succ ≠ rb := fun e => by rw [← e] at hrb; omega
    have ne4 : nx.succ.succ.succ.succ ≠ rb := fun e => by rw [← e] at hrb; omega
    have ne5 : nx.succ.succ.succ.succ.succ ≠ rb := fun e => by rw [← e] at hrb; omega
    simp [eval_Expr_r8, f14, f15, f7, w0, S.raw]
    refine (result_ok S (R0 := ev ⟨fu, ro, se, att⟩ M0 gas (0, 0) env.reverse e st0) hR' (by intro h; simp) ?_).mono ?_
    · intro h2 nx2 E
      have tE := E.n
      exact exprC_ok S HM HL hgas hE (hR'.ext E) (hS'.mono (Fr.ext E)) ((E.g _ (by omega)).trans w0) ((E.g _ (by omega)).trans hkb) ((E.g _ (by omega)).trans w1) (by omega) (by omega) (by omega) ne1 h39
    · rintro o h3 nx3 ⟨f3, hO⟩
      have t3 := f3.n
      have v4 := (f3.g _ (by omega) ne4 (by rw [w4]; trivial)).trans w4
      have v5 := (f3.g _ (by omega) ne5 (by rw [w5]; trivial)).trans w5
      have hF : Fk h nx h3 nx3 := by
        refine ⟨by omega, fun b hb hk => ?_⟩
        have hb1 : T.get b h1 = T.get b h := by
          rw [e1.g b (by omega)]
          simp (disch := omega) only [get_lt (α := Blk)]
        have hb2 : T.get b h' = T.get b h := by
          rw [e' b (by omega), get_lt (by omega), get_lt (by omega)]; exact hb1
        rw [f3.g b (by omega) (fun e => by rw [← e] at hrb; omega) (by rw [hb2]; exact hk), hb2]
      have hF2 : ∀ A B, Fk h nx (T.set nx.succ.succ.succ.succ.succ (some A) (T.set nx.succ.succ.succ.succ (some B) h3)) nx3 := by
        intro A B
        exact ⟨hF.n, fun b hb hk => by rw [get_lt (by omega), get_lt (by omega)]; exact hF.g b hb hk⟩
      cases hres : ev ⟨fu, ro, se, att⟩ M0 gas (0, 0) env.reverse e st0 with
      | stop ec st' =>
        rw [hres] at hO
        obtain ⟨cb3, hB, rfl⟩ := hO
        have hbf : ∀ n h, frzA n cb3 h = (cb3, h) := (IsBrs.stb S hB).1
        simp [f10, f11, v4, v5, hbf]
        exact ⟨hF2 _ _, cb3, hB, rfl⟩
      | ok v st' =>
        rw [hres] at hO
        obtain ⟨lv, cb3, hv, hB, rfl⟩ := hO
        obtain ⟨c, rfl, hK⟩ := hv.cells
        have hcc := IsK.cell hK
        have hcf : ∀ n h, frzA n c h = (c, h) := IsK.stb hK
        have hbf : ∀ n h, frzA n cb3 h = (cb3, h) := (IsBrs.stb S hB).1
        simp [f10, f11, v4, v5, hbf, hcc, hcf]
        exact ⟨hF2 _ _, _, cb3, hv, hB, rfl⟩
  rcases hce with ⟨rfl, rfl⟩ | ⟨cs, rfl, hel, hcs⟩
  · simp [eval_Expr_r3]
    refine W.unroll (W.of ?_)
    simp [eval_Expr_l0]
    simp [eval_Expr_r4]
    have := rest
    simp at this
    refine this _ _ _ .nilp ?_ ?_ ?_ ?_ ?_ (by omega) (fun b hb => rfl) (by simp) R2 .nil <;> simp
  · simp [eval_Expr_r3]
    refine env_loop S hcs hel hz (rb := rb) (D := D) (L := ⟨fu, ro, se, att⟩) (kb := nx1.succ) (by omega) _ ?_ ?_ (ra := .ptr nx1 0) (k7 := .ptr nx.succ 0) (k10 := .ptr nx.succ.succ.succ.succ 0) (k11 := .ptr nx.succ.succ.succ.succ.succ 0)
    · refine ⟨0, .nilp, by simp, by omega, ?_, ?_, ?_, ?_, ?_, ?_, ?_, ?_, by omega, fun b hb => rfl, by simp, R2, .nil⟩ <;> simp
    · intro tm' h' nx' sp a1 a2 a3 a4 a5 a6 a7 a8 a9 a10
      have := rest tm' h' nx' sp a1 a2 a3 a4 a5 a6 a7 a8 a9 a10
      simpa using this
end Tz
