/-
  SV: cells that are read as expressions. No condition.
-/
import Derived.Test.YthhjnogfljegnaaGreatDoorVRun
import Derived.Test.YthhjnogfljegnaaGreatDoorLPure
set_option linter.unusedSimpArgs false
set_option linter.unusedVariables false
set_option linter.unusedSectionVars false
namespace Tz
open Go.Sx Go
mutual
def decE : Nat → List AV → Option E
  | 0, _ => none
  | f + 1, l => match l with
    | [.int .i64 (.lit k), .str a b, .int .i64 (.lit n), .nils, .nils, ck, .int .i64 (.lit at_)] =>
      if (k = 3 ∧ a = 4 ∧ b = 1885957222) ∨ k = 8 then none else
      match ck with
      | .nils => some (.mk k (a, b) n [] [] [] at_)
      | .sl cs len 7 .any => if len ≤ 4000 ∧ cs.length = len * 7 then (match decL f len cs with
        | some es => some (.mk k (a, b) n [] [] es at_)
        | none => none) else none
      | _ => none
    | _ => none
def decL : Nat → Nat → List AV → Option (List E)
  | 0, _, _ => none
  | _ + 1, 0, _ => some []
  | f + 1, n + 1, cs => match decE f (cs.take 7), decL f n (cs.drop 7) with
    | some e, some es => some (e :: es)
    | _, _ => none
end
mutual
theorem decE_ok : ∀ (f : Nat) (l : List AV) (e : E), decE f l = some e → IsE l e
  | 0, l, e, h => by simp [decE] at h
  | f + 1, l, e, h => by
    unfold decE at h
    split at h
    · rename_i k a b n ck at_
      split at h
      · cases h
      · rename_i hq
        have hQ : Qe k (a, b) := ⟨fun hh => hq (.inl ⟨hh.1, by simpa using hh.2⟩), fun hh => hq (.inr hh)⟩
        split at h
        · cases h
          exact .leaf k (a, b) n [] [] at_ .nils .nils (.inl ⟨rfl, rfl⟩) (.inl ⟨rfl, rfl⟩) hQ
        · rename_i cs len
          split at h
          · rename_i hc
            split at h
            · rename_i es hes
              cases h
              obtain ⟨h1, h2⟩ := decL_ok f len cs es hes
              subst h1
              exact .node k (a, b) n [] [] at_ .nils .nils (.inl ⟨rfl, rfl⟩) (.inl ⟨rfl, rfl⟩) hQ cs es hc.1 hc.2 h2
            · cases h
          · cases h
        · cases h
    · cases h
theorem decL_ok : ∀ (f n : Nat) (cs : List AV) (es : List E), decL f n cs = some es → n = es.length ∧ ∀ (i : Nat) (h : i < es.length), IsE ((cs.drop (i * 7)).take 7) es[i]
  | 0, n, cs, es, h => by simp [decL] at h
  | f + 1, 0, cs, es, h => by
    simp [decL] at h
    subst h
    exact ⟨rfl, fun i hi => by simp at hi⟩
  | f + 1, n + 1, cs, es, h => by
    unfold decL at h
    split at h
    · rename_i e es' he hes
      cases h
      obtain ⟨h1, h2⟩ := decL_ok f n _ es' hes
      refine ⟨by simp [h1], fun i hi => ?_⟩
      cases i with
      | zero => simpa using decE_ok f _ e he
      | succ i =>
        simp at hi
        have := h2 i hi
        rw [List.drop_drop] at this
        simpa [show (i + 1) * 7 = 7 + i * 7 by omega] using this
    · cases h
end
end Tz
/-
  SV: the law's small functions. No condition.
-/
namespace Tz
open Go.Sx Go
structure StdL (C : Cfg) : Prop where
  e : Std C
  around : Fn C n_ref01_Around ref01_Around
  pick : Fn C n_ref01_Pick ref01_Pick
  num : Fn C n_ref12_number ref12_number
  ints : Fn C n_ref12_Ints ref12_Ints
  sign : Fn C n_ref10_sign ref10_sign
  cmp : Fn C n_ref10_Compare ref10_Compare
  equal : Fn C n_ref10_Equal ref10_Equal
  plenty : Fn C n_law12_plenty law12_plenty
  run : Fn C n_law12_run law12_run
  holds : Fn C n_law12_holds law12_holds
  lists : Fn C n_law12_EvalLists law12_EvalLists

def arF (n m : Int) : Int := Int.tmod (if n < 0 then wrapF .i64 (0 - wrapF .i64 (n + 1)) else n) m
theorem arF_low {n m : Int} (h1 : -9223372036854775808 ≤ n) (h2 : n < 9223372036854775808) (hm : 0 < m) : 0 ≤ arF n m ∧ arF n m < m := by
  unfold arF
  have hnn : 0 ≤ (if n < 0 then wrapF .i64 (0 - wrapF .i64 (n + 1)) else n) := by
    split
    · rw [wrap_id (n := n + 1) (by omega) (by omega), wrap_id (by omega) (by omega)]; omega
    · omega
  exact ⟨Int.tmod_nonneg _ hnn, Int.tmod_lt_of_pos _ hm⟩
variable {C : Cfg} (S : StdL C)
include S

theorem around_ok (n m : Int) (hm : m ≠ 0) : Pur C n_ref01_Around [I n, I m] (· = .ret (I (arF n m))) := by
  intro h nx
  refine S.around.call ?_
  have hm' : (m == 0) = false := by simpa using hm
  simp [ref01_Around]
  simp [ref01_Around_r0]
  by_cases hn : n < 0
  · simp [ref01_Around_r1, ref01_Around_r2, ref01_Around_r3, hn, hm', arF]; exact Ext.refl _ _
  · simp [ref01_Around_r1, ref01_Around_r3, hn, hm', arF]; exact Ext.refl _ _

/- a list of numbers in range -/
def IsNs (c : AV) (l : List Int) : Prop := (c = .nils ∧ l = []) ∨ c = .sl (l.map I) l.length 1 .any
def inR (l : List Int) : Prop := ∀ n ∈ l, -9223372036854775808 ≤ n ∧ n < 9223372036854775808
theorem IsNs.stb {c : AV} {l : List Int} (h : IsNs c l) : Stb c := by
  rcases h with ⟨rfl, _⟩ | rfl
  · exact stb_nils
  · exact stb_sl _ _ _
def pickF (l : List Int) (i m : Int) : Int := if i < 0 then 0 else match l[i.toNat]? with
  | none => 0
  | some n => arF n m
theorem pickF_low {l : List Int} (hl : inR l) (i : Int) {m : Int} (hm : 0 < m) : 0 ≤ pickF l i m ∧ pickF l i m < m := by
  unfold pickF
  split
  · omega
  · split
    · omega
    · rename_i n hn
      have := hl n (List.mem_of_getElem? hn)
      exact arF_low this.1 this.2 hm
theorem pick_ok {c : AV} {l : List Int} (hc : IsNs c l) (i m : Int) (hm : m ≠ 0) : Pur C n_ref01_Pick [c, I i, I m] (· = .ret (I (pickF l i m))) := by
  intro h nx
  refine S.pick.call ?_
  simp [ref01_Pick]
  simp [ref01_Pick_r0]
  by_cases hi : i < 0
  · simp [ref01_Pick_r1, ref01_Pick_r2, hi, pickF]; exact Ext.refl _ _
  · rcases hc with ⟨rfl, rfl⟩ | rfl
    · have h0 : 0 ≤ i := by omega
      simp [ref01_Pick_r1, ref01_Pick_r2, hi, h0, pickF]; exact Ext.refl _ _
    · obtain ⟨k, hk⟩ := Int.eq_ofNat_of_zero_le (show 0 ≤ i by omega)
      subst hk
      by_cases hlt : k < l.length
      · have hlt' : (k : Int) < l.length := by omega
        have h1 : 1 ≤ l.length - k := by omega
        simp [ref01_Pick_r1, hi, hlt, hlt']
        have ht : List.take 1 (List.drop k (l.map I)) = [I l[k]] := by
          rw [List.drop_eq_getElem_cons (by simpa using hlt)]; simp
        simp [ref01_Pick_r3, hlt, h1, ht, S.e.raw]
        refine (around_ok S _ m hm _ _).mono ?_
        rintro o h1 nx1 ⟨rfl, e1⟩
        simp [pickF, hi, hlt]
        exact e1
      · have hlt' : ¬ (k : Int) < l.length := by omega
        simp [ref01_Pick_r1, ref01_Pick_r2, hi, hlt, hlt', pickF]; exact Ext.refl _ _

theorem num_ok (n : Int) : Pur C n_ref12_number [I n] (· = .ret (.agg [I 0, I n, .str 0 0, .nils])) := by
  intro h nx
  refine S.num.call ?_
  simp [ref12_number]
  simp [ref12_number_r0]
  simp [ref12_number_r1]
  exact E0 h nx _

theorem plenty_ok : Pur C n_law12_plenty [] (· = .ret (.agg [I 5000, I 1000])) := by
  intro h nx
  refine S.plenty.call ?_
  simp [law12_plenty]
  simp [law12_plenty_r0]
  simp [law12_plenty_r1]
  exact E0 h nx _

theorem equal_ok (n : Int) {c d : AV} (hc : IsK c []) (hd : IsK d []) : Pur C n_ref10_Equal [.agg [I 0, I n, .str 0 0, c], .agg [I 0, I n, .str 0 0, d]] (· = .ret (.bool true)) := by
  intro h nx
  have hc' : ∀ n h, frzA n c h = (c, h) := IsK.stb hc
  have hd' : ∀ n h, frzA n d h = (d, h) := IsK.stb hd
  have s1 := Key.toNat_succ nx
  have s2 := Key.toNat_succ nx.succ
  refine S.equal.call ?_
  simp [ref10_Equal]
  simp [ref10_Equal_r0]
  simp [ref10_Equal_r1, S.e.raw, hc', hd']
  have key : Pur C n_ref10_Compare [.agg [I 0, I n, .str 0 0, c], .agg [I 0, I n, .str 0 0, d]] (· = .ret (I 0)) := by
    intro h nx
    refine S.cmp.call ?_
    simp [ref10_Compare]
    simp [ref10_Compare_r0]
    simp [ref10_Compare_r1]
    simp [ref10_Compare_r3]
    simp [ref10_Compare_r5]
    simp [ref10_Compare_r7]
    refine W.unroll (W.of ?_)
    simp [ref10_Compare_l0]
    have hE : Ext h nx (T.set nx.succ (some (.cells [I 0, I n, .str 0 0, d] .fix)) (T.set nx (some (.cells [I 0, I n, .str 0 0, c] .fix)) h)) nx.succ.succ := (E0 _ _ _).trans (E0 _ _ _)
    rcases hc with ⟨rfl, _⟩ | ⟨cs, rfl, _, hcs⟩
    · rcases hd with ⟨rfl, _⟩ | ⟨ds, rfl, _, hds⟩
      · simp [ref10_Compare_r8]
        simp [ref10_Compare_r13, ref10_Compare_r14]
        exact hE
      · simp [ref10_Compare_r8]
        simp [ref10_Compare_r13, ref10_Compare_r14]
        exact hE
    · rcases hd with ⟨rfl, _⟩ | ⟨ds, rfl, _, hds⟩
      · simp [ref10_Compare_r8]
        simp [ref10_Compare_r13, ref10_Compare_r14]
        exact hE
      · simp [ref10_Compare_r8]
        simp [ref10_Compare_r13, ref10_Compare_r14]
        exact hE
  refine (key _ _).mono ?_
  rintro o h1 nx1 ⟨rfl, e1⟩
  simp
  have t1 := e1.n
  exact ⟨by omega, fun b hb => by rw [e1.g b (by omega), get_lt (by omega), get_lt (by omega)]⟩
end Tz
/-
  SV: the law's generator of lists. No condition.
-/
namespace Tz
open Go.Sx Go
/- a row of values that is appended to -/
def IntsInv (l : List Int) (cl : AV) (h : T Blk) (nx : Key) (m : Nat) (tm' : T AV) (h' : T Blk) (nx' : Key) : Prop :=
  ∃ (j : Nat) (vs : List V) (c : AV) (cs : List AV), (m : Int) = pickF l 0 6 - j ∧ vs.length = j ∧ (∀ v ∈ vs, isNum v) ∧ T.get (K 0) tm' = some cl ∧ T.get (K 1) tm' = some (I 0) ∧ T.get (K 4) tm' = some (.ptr nx 0) ∧ T.get (K 5) tm' = some (.ptr nx.succ 0) ∧ T.get (K 6) tm' = some (I j) ∧
    nx.succ.succ.toNat ≤ nx'.toNat ∧ (∀ b : Key, b.toNat < nx.toNat → T.get b h' = T.get b h) ∧ T.get nx h' = some (.cells [I 0, I 0, .str 0 0, .nils] .fix) ∧ T.get nx.succ h' = some (.cells [I 2, I 0, .str 0 0, c] .fix) ∧ IsVs cs vs ∧ IsApp c cs vs.length 4 h' nx' ∧ (∀ b : Key, b.toNat < nx.toNat → True) ∧
    (∀ b : Key, c = .slice b 0 vs.length 4 → nx.succ.succ.toNat ≤ b.toNat) ∧ (∀ t : Key, c = .sl cs vs.length 4 (.tok t) → nx.succ.succ.toNat ≤ t.toNat)
theorem IsApp.addW {c : AV} {l new : List AV} {len sz : Nat} {h : T Blk} {nx n0 : Key} (ha : IsApp c l len sz h nx) (hn : new.length = sz) (hl : len + 1 ≤ 1048576) (hc : new.all AV.isCell = true) (h0 : n0.toNat ≤ nx.toNat)
    (hb1 : ∀ b : Key, c = .slice b 0 len sz → n0.toNat ≤ b.toNat) (hb2 : ∀ t : Key, c = .sl l len sz (.tok t) → n0.toNat ≤ t.toNat) :
    ∃ c' h' nx', appendTo sz c new 1 h nx = .val c' h' nx' ∧ IsApp c' (l ++ new) (len + 1) sz h' nx' ∧ nx.toNat ≤ nx'.toNat ∧ (∀ b : Key, b.toNat < n0.toNat → T.get b h' = T.get b h) ∧
      (∀ b : Key, c' = .slice b 0 (len + 1) sz → n0.toNat ≤ b.toNat) ∧ (∀ t : Key, c' = .sl (l ++ new) (len + 1) sz (.tok t) → n0.toNat ≤ t.toNat) := by
  have s1 := Key.toNat_succ nx
  rcases ha with ⟨rfl, rfl, rfl⟩ | ⟨b, rfl, hb, hlt, hll⟩ | ⟨t, rfl, ht, hlt⟩
  · refine ⟨.slice nx 0 1 sz, T.set nx (some (.cells new .part)) h, nx.succ, by simp, .inr (.inl ⟨nx, rfl, by simp, by omega, by simpa using hn⟩), by omega, fun b hb => get_lt (by omega), fun b e => ?_, fun t e => by cases e⟩
    cases e; exact h0
  · have hb1 := hb1 b rfl
    refine ⟨.sl (l ++ new) (len + 1) sz (.tok nx), T.set nx (some .tok) (T.set b none h), nx.succ, ?_, .inr (.inr ⟨nx, rfl, by simp, by omega⟩), by omega, fun x hx => ?_, fun b e => (by cases e), fun t e => ?_⟩
    · simp [hl, hc, hb, hll]
    · rw [get_lt (by omega), get_lt (by omega)]
    · cases e; exact h0
  · have hb2 := hb2 t rfl
    refine ⟨.sl (l ++ new) (len + 1) sz (.tok nx), T.set nx (some .tok) (T.set t none h), nx.succ, ?_, .inr (.inr ⟨nx, rfl, by simp, by omega⟩), by omega, fun x hx => ?_, fun b e => (by cases e), fun t e => ?_⟩
    · simp [hl, hc, ht]
    · rw [get_lt (by omega), get_lt (by omega)]
    · cases e; exact h0
/- a row that is appended to, made fast -/
theorem IsApp.fast {c : AV} {cs : List AV} {vs : List V} {h : T Blk} {nx n0 : Key} (ha : IsApp c cs vs.length 4 h nx) (hcs : IsVs cs vs) (hl : vs.length ≤ 4000) (hb1 : ∀ b : Key, c = .slice b 0 vs.length 4 → n0.toNat ≤ b.toNat) (n : Nat) :
    IsK (frzA (n + 1) c h).1 vs ∧ ∀ b : Key, b.toNat < n0.toNat → T.get b (frzA (n + 1) c h).2 = T.get b h := by
  rcases ha with ⟨rfl, hn, hz⟩ | ⟨b, rfl, hb, hlt, hll⟩ | ⟨t, rfl, ht, hlt⟩
  · exact ⟨.inl ⟨rfl, List.eq_nil_of_length_eq_zero hz⟩, fun _ _ => rfl⟩
  · have hb1 := hb1 b rfl
    rw [frz_part hb hll (IsVs.stbs hcs)]
    exact ⟨.inr ⟨cs, rfl, hl, hcs⟩, fun x hx => get_lt (by omega)⟩
  · exact ⟨.inr ⟨cs, rfl, hl, hcs⟩, fun _ _ => rfl⟩
variable {C : Cfg} (S : StdL C)
include S

theorem ints_ok {cl : AV} {l : List Int} (hc : IsNs cl l) (hl : inR l) : Pur C n_ref12_Ints [cl, I 0] (fun o => ∃ vs c, vs.length ≤ 5 ∧ (∀ v ∈ vs, isNum v) ∧ IsK c vs ∧ o = .ret (.agg [I 2, I 0, .str 0 0, c])) := by
  intro h nx
  have hcl : ∀ n h, frzA n cl h = (cl, h) := IsNs.stb S hc
  have s1 := Key.toNat_succ nx
  have s2 := Key.toNat_succ nx.succ
  obtain ⟨p0, p1⟩ := pickF_low S hl 0 (m := 6) (by omega)
  refine S.ints.call ?_
  simp [ref12_Ints]
  simp [ref12_Ints_r0]
  simp [ref12_Ints_r1]
  simp [ref12_Ints_r2]
  refine W.loopM (n := (pickF l 0 6).toNat) (IntsInv l cl h nx) ?_ ?_
  · refine ⟨0, [], .nils, [], by simp; omega, rfl, by simp, by simp, by simp, by simp, by simp, by simp, by omega, fun b hb => ?_, by simp, by simp, IsVs.nil, .inl ⟨rfl, rfl, rfl⟩, fun _ _ => trivial, fun b e => (by cases e), fun t e => (by cases e)⟩
    rw [get_lt (by omega), get_lt (by omega)]
  · rintro m tm1 h1 nx1 ⟨j, vs, c, cs, hm, hvj, hnum, f0, f1, f4, f5, f6, t1, e1, q0, q1, hcs, happ, _, hb1, hb2⟩
    have u1 := Key.toNat_succ nx1
    refine W.of ?_
    simp [ref12_Ints_l0]
    simp [ref12_Ints_r3, f0, f1, f6, S.e.raw, hcl]
    refine (pick_ok S hc 0 6 (by omega) _ _).mono ?_
    rintro o h2 nx2 ⟨rfl, e2⟩
    have t2 := e2.n
    have q0' := (e2.g nx (by omega)).trans q0
    have q1' := (e2.g nx.succ (by omega)).trans q1
    have happ2 := happ.keep e2.n fun b hb _ => e2.g b hb
    simp
    refine ⟨fun hlt => ?_, fun hge => ?_⟩
    · have hbq := happ.beq (by
        have := (IsV.node 0 0 0 0 cs vs (by omega) hcs.hc hcs.hk).lits
        simpa [AV.litsL, AV.lits] using this)
      simp [-appendTo, ref12_Ints_r4, f0, f1, f5, f6, q1', S.e.raw, hcl]
      have hw : wrapF .i64 1 = 1 := by decide
      have hw2 : wrapF .i64 (1 + (j : Int)) = 1 + (j : Int) := wrap_id (by omega) (by omega)
      refine (pick_ok S hc _ 9 (by omega) _ _).mono ?_
      rintro o h3 nx3 ⟨rfl, e3⟩
      have t3 := e3.n
      have q1'' := (e3.g nx.succ (by omega)).trans q1'
      simp [-appendTo, q1'', hbq, S.e.raw]
      refine (num_ok S _ _ _).mono ?_
      rintro o h4 nx4 ⟨rfl, e4⟩
      have t4 := e4.n
      have u4 := Key.toNat_succ nx4
      have q04 := ((e3.trans e4).g nx (by omega)).trans q0'
      have q14 := (e4.g nx.succ (by omega)).trans q1''
      have happ4 := happ2.keep (e3.trans e4).n fun b hb _ => (e3.trans e4).g b hb
      generalize wrapF .i64 (pickF l (wrapF .i64 (wrapF .i64 1 + (j : Int))) 9 - 2) = z
      have happ5 : IsApp c cs vs.length 4 (T.set nx4 (some (.cells [I 0, I z, .str 0 0, .nils] .fix)) h4) nx4.succ := happ4.keep (by omega) fun b hb _ => get_lt hb
      obtain ⟨c', h6, nx6, ha, happ6, t6, g6, k1, k2⟩ := happ5.addW (n0 := nx.succ.succ) (new := [I 0, I z, .str 0 0, .nils]) rfl (by omega) rfl (by omega) hb1 hb2
      have hcc := happ6.cell.1
      have hcs2 := happ6.cell.2
      have q16 : T.get nx.succ h6 = some (.cells [I 2, I 0, .str 0 0, c] .fix) := by rw [g6 _ (by omega), get_lt (by omega)]; exact q14
      have q06 : T.get nx h6 = some (.cells [I 0, I 0, .str 0 0, .nils] .fix) := by rw [g6 _ (by omega), get_lt (by omega)]; exact q04
      simp [-appendTo, q14, hbq, List.filter_cons, ha, f5, q16, hcc, hcs2]
      simp [ref12_Ints_r5, f6]
      have hvn := hcs.append (IsVs.one (IsV.leaf 0 z 0 0))
      have hmm : 0 < m := by omega
      refine ⟨m - 1, by omega, j + 1, vs ++ [numV z], c', cs ++ [I 0, I z, .str 0 0, .nils], by omega, by simp [hvj], ?_, ?_, ?_, ?_, ?_, ?_, by omega, fun b hb => ?_, by simp [q06], by simp, hvn, ?_, fun _ _ => trivial, ?_, ?_⟩
      · intro v hv
        rcases List.mem_append.1 hv with hv | hv
        · exact hnum v hv
        · simp at hv; exact ⟨z, hv⟩
      · simp [f0]
      · simp [f1]
      · simp [f4]
      · simp [f5]
      · simp; rw [wrap_id (by omega) (by omega)]
      · rw [get_lt (by omega), g6 b (by omega), get_lt (by omega), e4.g b (by omega), e3.g b (by omega), e2.g b (by omega)]; exact e1 b hb
      · have hlen : (vs ++ [numV z]).length = vs.length + 1 := by simp
        rw [hlen]
        refine happ6.keep (Nat.le_refl _) fun b hb hx => ?_
        have hne : b ≠ nx.succ := by
          intro e; subst e
          rcases hx with hx | ⟨l', hx⟩ <;> rw [q16] at hx <;> cases hx
        rw [T.get_set_ne _ _ _ _ hne]
      · intro b e; exact k1 b (by simpa using e)
      · intro t e; exact k2 t (by simpa using e)
    · have hjz : (j : Int) ≤ 5 := by omega
      simp [ref12_Ints_r6, f5, f4, q1', q0', happ2.cell.1]
      have happ3 : IsApp c cs vs.length 4 (T.set nx (some (.cells [I 2, I 0, .str 0 0, c] .fix)) h2) nx2 := happ2.keep (Nat.le_refl _) fun b hb hx => by
        have hne : b ≠ nx := by
          intro e; subst e
          rcases hx with hx | ⟨l', hx⟩ <;> rw [q0'] at hx <;> cases hx
        rw [T.get_set_ne _ _ _ _ hne]
      obtain ⟨hk1, hk2⟩ := happ3.fast (n0 := nx.succ.succ) hcs (by omega) hb1 6
      refine ⟨⟨vs, by omega, hnum, hk1⟩, by omega, fun b hb => ?_⟩
      rw [hk2 b (by omega), get_lt hb, e2.g b (by omega)]; exact e1 b hb
end Tz
/-
  SV: the law's runs of expressions. No condition.
-/
namespace Tz
open Go.Sx Go
def RunOut (r : Res) (o : Out) : Prop := match r with
  | .ok v _ => ∃ l, IsV l v ∧ o = .ret (.tuple [.agg l, I 0])
  | .stop e _ => o = .ret (.tuple [.agg [I 0, I 0, .str 0 0, .nils], I e])
def envV (vs : List V) (i x : Int) : List (S × V) := [((1, 118), listV vs), ((1, 105), numV i), ((1, 120), numV x)]
theorem IsE.ready {l : List AV} {e : E} (h : IsE l e) : ∃ cn cb ck, l = [I e.k, SA e.name, I e.n, cn, cb, ck, I e.at_] ∧ Stb cn ∧ Stb cb ∧ Stb ck ∧ cn.isCell = true ∧ cb.isCell = true ∧ ck.isCell = true ∧ AV.beq cn cn = true ∧ AV.beq cb cb = true ∧ AV.beq ck ck = true := by
  obtain ⟨cn, cb, ck, rfl, hn, hb, hk, _⟩ := h.cells
  have hl := h.lits
  simp [AV.litsL, AV.lits] at hl
  have hst := h.stbs
  refine ⟨cn, cb, ck, rfl, hst cn (by simp), hst cb (by simp), hst ck (by simp), ?_, ?_, ?_, beq_refl _ hl.1, beq_refl _ hl.2.1, beq_refl _ hl.2.2⟩
  · rcases hn with ⟨rfl, _⟩ | rfl <;> rfl
  · rcases hb with ⟨rfl, _⟩ | ⟨_, rfl, _⟩ <;> rfl
  · rcases hk with ⟨rfl, _⟩ | ⟨_, rfl, _⟩ <;> rfl
variable {C : Cfg} (S : StdL C)
include S

theorem run_ok {a b : Nat} {le : List AV} {e : E} (hE : IsE le e) (h39 : e.k = 3 ∨ e.k = 9) (hp : ∀ h nx, C.sum n_parser_ParseExpr [.str a b] h nx = some (.tuple [.agg le, I 0, I 0], h, nx)) {c : AV} {vs : List V} (hc : IsK c vs) (hz : (listV vs).size ≤ 1073741824) (i x : Int) (h : T Blk) (nx : Key) :
    CallA C n_law12_run [.str a b, .agg [I 2, I 0, .str 0 0, c], I i, I x] h nx (fun o h' nx' => Fk h nx h' nx' ∧ RunOut (ev LP M0 5100 (0, 0) (scV vs i x) e st0) o) := by
  have hc' : ∀ n h, frzA n c h = (c, h) := IsK.stb hc
  have hcc := IsK.cell hc
  have hcq := IsK.beq hc
  have hE0 := hE
  obtain ⟨cn, cb, ck, hle, s1, s2, s3, i1, i2, i3, b1, b2, b3⟩ := IsE.ready hE
  subst hle
  have s1' : ∀ n h, frzA n cn h = (cn, h) := s1
  have s2' : ∀ n h, frzA n cb h = (cb, h) := s2
  have s3' : ∀ n h, frzA n ck h = (ck, h) := s3
  have u1 := Key.toNat_succ nx
  have u2 := Key.toNat_succ nx.succ
  have u3 := Key.toNat_succ nx.succ.succ
  have u4 := Key.toNat_succ nx.succ.succ.succ
  have u5 := Key.toNat_succ nx.succ.succ.succ.succ
  have u6 := Key.toNat_succ nx.succ.succ.succ.succ.succ
  refine S.run.call ?_
  simp [law12_run]
  simp [law12_run_r0]
  simp [law12_run_r1, S.e.raw]
  refine .inl ⟨_, _, _, hp _ _, ?_⟩
  simp [i1, i2, i3]
  simp [law12_run_r2]
  simp [law12_run_r4, S.e.raw, List.filter_cons, hcc, IsK.cells hc]
  refine (plenty_ok S _ _).mono ?_
  rintro o h1 nx1 ⟨rfl, e1⟩
  have t1 := e1.n
  have q0 := e1.g nx (by omega)
  have q1 := e1.g nx.succ (by omega)
  have q2 := e1.g nx.succ.succ (by omega)
  simp at q0 q1 q2
  have hfz : frzA 8 (.slice nx.succ.succ.succ 0 3 5) (T.set nx.succ.succ.succ (some (.cells [.str 1 118, I 2, I 0, .str 0 0, c, .str 1 105, I 0, I i, .str 0 0, .nils, .str 1 120, I 0, I x, .str 0 0, .nils] .fix)) h1)
      = (.sl [.str 1 118, I 2, I 0, .str 0 0, c, .str 1 105, I 0, I i, .str 0 0, .nils, .str 1 120, I 0, I x, .str 0 0, .nils] 3 5 .any, T.set nx.succ.succ.succ (some (.cells [.str 1 118, I 2, I 0, .str 0 0, c, .str 1 105, I 0, I i, .str 0 0, .nils, .str 1 120, I 0, I x, .str 0 0, .nils] .ro)) h1) := by
    rw [frz_fix (l := [.str 1 118, I 2, I 0, .str 0 0, c, .str 1 105, I 0, I i, .str 0 0, .nils, .str 1 120, I 0, I x, .str 0 0, .nils]) (by simp) rfl ?_, set_set]
    have j1 : ∀ n : Int, Stb (I n) := fun n k h => by cases k <;> rfl
    intro y hy
    simp at hy
    rcases hy with rfl | rfl | rfl | rfl | rfl | rfl | rfl | rfl | rfl | rfl | rfl | rfl | rfl | rfl | rfl
    all_goals first | exact j1 _ | exact stb_str _ _ | exact stb_nils | exact IsK.stb hc
  simp [q0, q1, q2, AV.beq, AV.beqs, SI.beq, hcq, b1, b2, b3, S.e.raw, hfz, s1', s2', s3', List.filter_cons]
  have henv : IsEnv (.sl [.str 1 118, I 2, I 0, .str 0 0, c, .str 1 105, I 0, I i, .str 0 0, .nils, .str 1 120, I 0, I x, .str 0 0, .nils] 3 5 .any) (envV vs i x) := by
    refine .inr ⟨_, rfl, by simp [envV], ⟨by simp [envV], fun k hk => ?_⟩⟩
    rcases k with _ | _ | _ | k
    · exact ⟨c, hc, by simp [envV, listV]⟩
    · exact ⟨.nils, .inl ⟨rfl, rfl⟩, by simp [envV, numV]⟩
    · exact ⟨.nils, .inl ⟨rfl, rfl⟩, by simp [envV, numV]⟩
    · simp [envV] at hk; omega
  have hcall := expr0_ok S.e (fu := 5000) (ro := 1000) (se := 0) (att := 0) (by omega) (by omega) (by omega) (by omega) (gas := 5100) (by omega) henv (by
    intro y hy
    simp [envV] at hy
    rcases hy with rfl | rfl | rfl
    · exact hz
    · simp [numV, V.size, V.sizes]
    · simp [numV, V.size, V.sizes]) hE0 h39 (T.set nx.succ.succ.succ (some (.cells [.str 1 118, I 2, I 0, .str 0 0, c, .str 1 105, I 0, I i, .str 0 0, .nils, .str 1 120, I 0, I x, .str 0 0, .nils] .ro)) h1) nx1
  have hrev : (envV vs i x).reverse = scV vs i x := rfl
  rw [hrev] at hcall
  refine hcall.mono ?_
  rintro o h2 nx2 ⟨f2, hO⟩
  have t2 := f2.n
  have hO : ResOut (ev LP M0 5100 (0, 0) (scV vs i x) e st0) o := hO
  have g8 := f2.g nx.succ (by omega) (by rw [get_lt (by omega), q1]; trivial)
  rw [get_lt (by omega), q1] at g8
  have hF : ∀ A B D G : Option Blk, Fk h nx (T.set nx.succ A (T.set nx.succ.succ.succ.succ.succ B (T.set nx.succ.succ.succ.succ D (T.set nx.succ.succ.succ.succ.succ G h2)))) nx2 := by
    intro A B D G
    refine ⟨by omega, fun bb hb hk => ?_⟩
    have hb1 : T.get bb h1 = T.get bb h := by
      rw [e1.g bb (by omega)]
      simp (disch := omega) only [get_lt (α := Blk)]
    rw [get_lt (by omega), get_lt (by omega), get_lt (by omega), get_lt (by omega), f2.g bb (by omega) (by rw [get_lt (by omega), hb1]; exact hk), get_lt (by omega), hb1]
  have w0 : ∀ u t, T.get nx.succ (T.set nx.succ.succ.succ.succ.succ u t) = T.get (α := Blk) nx.succ t := fun u t => get_lt (by omega)
  cases hres : ev LP M0 5100 (0, 0) (scV vs i x) e st0 with
  | stop ec st' =>
    rw [hres] at hO
    obtain ⟨cb3, hB, rfl⟩ := hO
    have hbf : ∀ n h, frzA n cb3 h = (cb3, h) := (IsBrs.stb S.e hB).1
    simp [List.filter_cons]
    simp [law12_run_r5, g8, hbf]
    exact ⟨hF _ _ _ _, rfl⟩
  | ok v st' =>
    rw [hres] at hO
    obtain ⟨lv, cb3, hv, hB, rfl⟩ := hO
    obtain ⟨c2, rfl, hK⟩ := hv.cells
    have hcc2 := IsK.cell hK
    have hcf2 : ∀ n h, frzA n c2 h = (c2, h) := IsK.stb hK
    have hbf : ∀ n h, frzA n cb3 h = (cb3, h) := (IsBrs.stb S.e hB).1
    simp [List.filter_cons, hcc2]
    simp [law12_run_r5, g8, hbf, hcf2, hcc2]
    exact ⟨hF _ _ _ _, _, hv, rfl⟩

theorem holds_ok {a b : Nat} {le : List AV} {e : E} (hE : IsE le e) (h39 : e.k = 3 ∨ e.k = 9) (hp : ∀ h nx, C.sum n_parser_ParseExpr [.str a b] h nx = some (.tuple [.agg le, I 0, I 0], h, nx)) {c : AV} {vs : List V} (hc : IsK c vs) (hz : (listV vs).size ≤ 1073741824) (i x : Int) {st : St}
    (ht : ev LP M0 5100 (0, 0) (scV vs i x) e st0 = .ok (boolV true) st) (h : T Blk) (nx : Key) :
    CallA C n_law12_holds [.str a b, .agg [I 2, I 0, .str 0 0, c], I i, I x] h nx (fun o h' nx' => Fk h nx h' nx' ∧ o = .ret (.bool true)) := by
  have hc' : ∀ n h, frzA n c h = (c, h) := IsK.stb hc
  have u1 := Key.toNat_succ nx
  refine S.holds.call ?_
  simp [law12_holds]
  simp [law12_holds_r0]
  simp [law12_holds_r1, S.e.raw, hc']
  refine (run_ok S hE h39 hp hc hz i x _ _).mono ?_
  rintro o h1 nx1 ⟨f1, hO⟩
  have t1 := f1.n
  rw [ht] at hO
  obtain ⟨l, hl, rfl⟩ := hO
  obtain ⟨c2, rfl, hK⟩ := hl.cells
  have hcc := IsK.cell hK
  have v1 := Key.toNat_succ nx1
  simp [hcc]
  simp [law12_holds_r2, boolV]
  refine ⟨by omega, fun bb hb hk => ?_⟩
  rw [get_lt (by omega), f1.g bb (by omega) (by rw [get_lt (by omega)]; exact hk), get_lt (by omega)]
end Tz
