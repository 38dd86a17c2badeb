/-
  SV: cells that are read as expressions. No condition.
-/
import Derived.Test.YthhjnogfljegnaaGreatDoorVRun
import Derived.Test.YthhjnogfljegnaaGreatDoorLPure
set_option linter.unusedSimpArgs false
set_option linter.unusedVariables false
set_option linter.unusedSectionVars false
namespace Tz
open Go.Sx Go
mutual
def decE : Nat → List AV → Option E
  | 0, _ => none
  | f + 1, l => match l with
    | [.int .i64 (.lit k), .str a b, .int .i64 (.lit n), .nils, .nils, ck, .int .i64 (.lit at_)] =>
      if (k = 3 ∧ a = 4 ∧ b = 1885957222) ∨ k = 8 then none else
      match ck with
      | .nils => some (.mk k (a, b) n [] [] [] at_)
      | .sl cs len 7 .any => if len ≤ 4000 ∧ cs.length = len * 7 then (match decL f len cs with
        | some es => some (.mk k (a, b) n [] [] es at_)
        | none => none) else none
      | _ => none
    | _ => none
def decL : Nat → Nat → List AV → Option (List E)
  | 0, _, _ => none
  | _ + 1, 0, _ => some []
  | f + 1, n + 1, cs => match decE f (cs.take 7), decL f n (cs.drop 7) with
    | some e, some es => some (e :: es)
    | _, _ => none
end
mutual
theorem decE_ok : ∀ (f : Nat) (l : List AV) (e : E), decE f l = some e → IsE l e
  | 0, l, e, h => by simp [decE] at h
  | f + 1, l, e, h => by
    unfold decE at h
    split at h
    · rename_i k a b n ck at_
      split at h
      · cases h
      · rename_i hq
        have hQ : Qe k (a, b) := ⟨fun hh => hq (.inl ⟨hh.1, by simpa using hh.2⟩), fun hh => hq (.inr hh)⟩
        split at h
        · cases h
          exact .leaf k (a, b) n [] [] at_ .nils .nils (.inl ⟨rfl, rfl⟩) (.inl ⟨rfl, rfl⟩) hQ
        · rename_i cs len
          split at h
          · rename_i hc
            split at h
            · rename_i es hes
              cases h
              obtain ⟨h1, h2⟩ := decL_ok f len cs es hes
              subst h1
              exact .node k (a, b) n [] [] at_ .nils .nils (.inl ⟨rfl, rfl⟩) (.inl ⟨rfl, rfl⟩) hQ cs es hc.1 hc.2 h2
            · cases h
          · cases h
        · cases h
    · cases h
theorem decL_ok : ∀ (f n : Nat) (cs : List AV) (es : List E), decL f n cs = some es → n = es.length ∧ ∀ (i : Nat) (h : i < es.length), IsE ((cs.drop (i * 7)).take 7) es[i]
  | 0, n, cs, es, h => by simp [decL] at h
  | f + 1, 0, cs, es, h => by
    simp [decL] at h
    subst h
    exact ⟨rfl, fun i hi => by simp at hi⟩
  | f + 1, n + 1, cs, es, h => by
    unfold decL at h
    split at h
    · rename_i e es' he hes
      cases h
      obtain ⟨h1, h2⟩ := decL_ok f n _ es' hes
      refine ⟨by simp [h1], fun i hi => ?_⟩
      cases i with
      | zero => simpa using decE_ok f _ e he
      | succ i =>
        simp at hi
        have := h2 i hi
        rw [List.drop_drop] at this
        simpa [show (i + 1) * 7 = 7 + i * 7 by omega] using this
    · cases h
end
end Tz
/-
  SV: the law of integers: its small functions and its generator. No condition.
-/
namespace Tz
open Go.Sx Go
structure StdI (C : Cfg) : Prop where
  e : Std C
  next : Fn C n_ref10_G_Next ref10_G_Next
  gval : Fn C n_ref10_G_Value ref10_G_Value
  value : Fn C n_ref10_Value ref10_Value
  valid : Fn C n_values_Valid values_Valid
  validc : Fn C n_values_Valid_c1 values_Valid_c1
  formed : Fn C n_values_formed values_formed
  fits : Fn C n_values_fits values_fits
  capital : Fn C n_values_capital values_capital
  inName : Fn C n_values_inName values_inName
  plenty : Fn C n_law12_plenty law12_plenty
  run : Fn C n_law12_run law12_run
  holds : Fn C n_law12_holds law12_holds
  ints : Fn C n_law12_EvalIntegers law12_EvalIntegers

/- texts of length 0 are empty -/
inductive Sane : V → Prop
  | mk (k n : Int) (a b : Nat) (l : List V) (h : a = 0 → b = 0) (hk : ∀ u ∈ l, Sane u) : Sane (.mk k n a b l)
theorem Sane.kid {v : V} (h : Sane v) : ∀ u ∈ v.kids, Sane u := by cases h; assumption
theorem Sane.ab {v : V} (h : Sane v) : v.a = 0 → v.b = 0 := by cases h; assumption
/- a list of numbers in range -/
def IsNs (c : AV) (l : List Int) : Prop := (c = .nils ∧ l = []) ∨ c = .sl (l.map I) l.length 1 .any
def inR (l : List Int) : Prop := ∀ n ∈ l, -9223372036854775808 ≤ n ∧ n < 9223372036854775808
theorem IsNs.stb {c : AV} {l : List Int} (h : IsNs c l) : Stb c := by
  rcases h with ⟨rfl, _⟩ | rfl
  · exact stb_nils
  · exact stb_sl _ _ _
/- the generator's state: at most B numbers have been taken -/
def Gs (g : Key) (l : List Int) (B : Nat) (h : T Blk) : Prop := ∃ (c : AV) (a : Nat), T.get g h = some (.cells [c, I a] .fix) ∧ IsNs c l ∧ a ≤ B
theorem Gs.keep {g : Key} {l : List Int} {B : Nat} {h h' : T Blk} (hg : Gs g l B h) (e : T.get g h' = T.get g h) : Gs g l B h' := by
  obtain ⟨c, a, h1, h2, h3⟩ := hg
  exact ⟨c, a, by rw [e]; exact h1, h2, h3⟩
theorem Gs.mono {g : Key} {l : List Int} {B B' : Nat} {h : T Blk} (hg : Gs g l B h) (e : B ≤ B') : Gs g l B' h := by
  obtain ⟨c, a, h1, h2, h3⟩ := hg
  exact ⟨c, a, h1, h2, by omega⟩
variable {C : Cfg} (S : StdI C)
include S

theorem plenty_ok : Pur C n_law12_plenty [] (· = .ret (.agg [I 5000, I 1000])) := by
  intro h nx
  refine S.plenty.call ?_
  simp [law12_plenty]
  simp [law12_plenty_r0]
  simp [law12_plenty_r1]
  exact E0 h nx _

theorem next_ok {g : Key} {l : List Int} {B : Nat} (hl : inR l) (hB : B ≤ 1000000) (m : Int) (hm : 2 ≤ m) (hm2 : m ≤ 1000) {h : T Blk} {nx : Key} (hg : Gs g l B h) :
    CallA C n_ref10_G_Next [.ptr g 0, I m] h nx (fun o h' nx' => (∃ r : Int, 0 ≤ r ∧ r < m ∧ o = .ret (I r)) ∧ Gs g l (B + 1) h' ∧ Fo (· = g) h nx h' nx') := by
  obtain ⟨c, a, h1, h2, h3⟩ := hg
  have hw : wrapF .i64 ((a : Int) + 1) = ((a + 1 : Nat) : Int) := by rw [wrap_id (by omega) (by omega)]; omega
  have hF : ∀ B, Fo (· = g) h nx (T.set g B h) nx := fun B => ⟨Nat.le_refl _, fun b _ ho => T.get_set_ne _ _ _ _ ho⟩
  refine S.next.call ?_
  have hm' : ¬ m < 2 := by omega
  simp [ref10_G_Next]
  simp [ref10_G_Next_r0]
  rcases h2 with ⟨rfl, rfl⟩ | rfl
  · have ha0 : ¬ (a : Int) < 0 := by omega
    simp [ref10_G_Next_r1, h1, ha0]
    simp [ref10_G_Next_r2, h1]
    simp [ref10_G_Next_r3]
    exact ⟨by omega, ⟨.nils, a + 1, by simp [hw], .inl ⟨rfl, rfl⟩, by omega⟩, hF _⟩
  · by_cases hlt : a < l.length
    · have hlt' : (a : Int) < l.length := by omega
      have h1' : 1 ≤ l.length - a := by omega
      have ht : List.take 1 (List.drop a (l.map I)) = [I l[a]] := by
        rw [List.drop_eq_getElem_cons (by simpa using hlt)]; simp
      have hm0 : (m == 0) = false := by simp; omega
      simp [ref10_G_Next_r1, h1, hlt', hm', hlt]
      simp [ref10_G_Next_r4, h1, hlt, h1', ht, hm0]
      simp [ref10_G_Next_r5, h1]
      have hr := hl l[a] (List.getElem_mem hlt)
      have t1 := Int.tmod_lt_of_pos l[a] (b := m) (by omega)
      have t2 : -m < Int.tmod l[a] m := by
        have := Int.lt_tmod_of_pos l[a] (b := m) (by omega)
        omega
      by_cases hn : Int.tmod l[a] m < 0
      · simp [ref10_G_Next_r6, hn]
        simp [ref10_G_Next_r7]
        simp [ref10_G_Next_r8]
        refine ⟨⟨?_, ?_⟩, ⟨_, a + 1, by simp [hw], .inr rfl, by omega⟩, hF _⟩
        · rw [wrap_id (by omega) (by omega)]; omega
        · rw [wrap_id (by omega) (by omega)]; omega
      · simp [ref10_G_Next_r6, hn]
        simp [ref10_G_Next_r8]
        exact ⟨⟨by omega, by omega⟩, ⟨_, a + 1, by simp [hw], .inr rfl, by omega⟩, hF _⟩
    · have hlt' : ¬ (a : Int) < l.length := by omega
      simp [ref10_G_Next_r1, h1, hlt', hlt]
      simp [ref10_G_Next_r2, h1]
      simp [ref10_G_Next_r3]
      refine ⟨by omega, ⟨_, a + 1, by simp [hw], .inr rfl, by omega⟩, hF _⟩
end Tz
/-
  SV: the generator of values. No condition.
-/
namespace Tz
open Go.Sx Go
theorem IsApp.addW {c : AV} {l new : List AV} {len sz : Nat} {h : T Blk} {nx n0 : Key} (ha : IsApp c l len sz h nx) (hn : new.length = sz) (hl : len + 1 ≤ 1048576) (hc : new.all AV.isCell = true) (h0 : n0.toNat ≤ nx.toNat)
    (hb1 : ∀ b : Key, c = .slice b 0 len sz → n0.toNat ≤ b.toNat) (hb2 : ∀ t : Key, c = .sl l len sz (.tok t) → n0.toNat ≤ t.toNat) :
    ∃ c' h' nx', appendTo sz c new 1 h nx = .val c' h' nx' ∧ IsApp c' (l ++ new) (len + 1) sz h' nx' ∧ nx.toNat ≤ nx'.toNat ∧ (∀ b : Key, b.toNat < n0.toNat → T.get b h' = T.get b h) ∧
      (∀ b : Key, c' = .slice b 0 (len + 1) sz → n0.toNat ≤ b.toNat) ∧ (∀ t : Key, c' = .sl (l ++ new) (len + 1) sz (.tok t) → n0.toNat ≤ t.toNat) := by
  have s1 := Key.toNat_succ nx
  rcases ha with ⟨rfl, rfl, rfl⟩ | ⟨b, rfl, hb, hlt, hll⟩ | ⟨t, rfl, ht, hlt⟩
  · refine ⟨.slice nx 0 1 sz, T.set nx (some (.cells new .part)) h, nx.succ, by simp, .inr (.inl ⟨nx, rfl, by simp, by omega, by simpa using hn⟩), by omega, fun b hb => get_lt (by omega), fun b e => ?_, fun t e => by cases e⟩
    cases e; exact h0
  · have hb1 := hb1 b rfl
    refine ⟨.sl (l ++ new) (len + 1) sz (.tok nx), T.set nx (some .tok) (T.set b none h), nx.succ, ?_, .inr (.inr ⟨nx, rfl, by simp, by omega⟩), by omega, fun x hx => ?_, fun b e => (by cases e), fun t e => ?_⟩
    · simp [hl, hc, hb, hll]
    · rw [get_lt (by omega), get_lt (by omega)]
    · cases e; exact h0
  · have hb2 := hb2 t rfl
    refine ⟨.sl (l ++ new) (len + 1) sz (.tok nx), T.set nx (some .tok) (T.set t none h), nx.succ, ?_, .inr (.inr ⟨nx, rfl, by simp, by omega⟩), by omega, fun x hx => ?_, fun b e => (by cases e), fun t e => ?_⟩
    · simp [hl, hc, ht]
    · rw [get_lt (by omega), get_lt (by omega)]
    · cases e; exact h0
/- a row that is appended to, made fast -/
theorem IsApp.fast {c : AV} {cs : List AV} {vs : List V} {h : T Blk} {nx n0 : Key} (ha : IsApp c cs vs.length 4 h nx) (hcs : IsVs cs vs) (hl : vs.length ≤ 4000) (hb1 : ∀ b : Key, c = .slice b 0 vs.length 4 → n0.toNat ≤ b.toNat) (n : Nat) :
    IsK (frzA (n + 1) c h).1 vs ∧ ∀ b : Key, b.toNat < n0.toNat → T.get b (frzA (n + 1) c h).2 = T.get b h := by
  rcases ha with ⟨rfl, hn, hz⟩ | ⟨b, rfl, hb, hlt, hll⟩ | ⟨t, rfl, ht, hlt⟩
  · exact ⟨.inl ⟨rfl, List.eq_nil_of_length_eq_zero hz⟩, fun _ _ => rfl⟩
  · have hb1 := hb1 b rfl
    rw [frz_part hb hll (IsVs.stbs hcs)]
    exact ⟨.inr ⟨cs, rfl, hl, hcs⟩, fun x hx => get_lt (by omega)⟩
  · exact ⟨.inr ⟨cs, rfl, hl, hcs⟩, fun _ _ => rfl⟩
def uG : Nat → Nat
  | 0 => 10
  | d + 1 => 10 + 3 * uG d
def zG : Nat → Nat
  | 0 => 1
  | d + 1 => 1 + 3 * zG d
theorem zG_pos : ∀ d, 1 ≤ zG d
  | 0 => by simp [zG]
  | d + 1 => by simp [zG]
theorem uG_low : ∀ d, 10 ≤ uG d
  | 0 => by simp [uG]
  | d + 1 => by simp [uG]
theorem sizes_app : ∀ (l m : List V), V.sizes (l ++ m) = V.sizes l + V.sizes m
  | [], m => by simp [V.sizes]
  | v :: l, m => by simp only [List.cons_append, V.sizes, sizes_app l m]; omega
abbrev z4 : List AV := [I 0, I 0, .str 0 0, .nils]
/- what the generator leaves -/
def GOut (g : Key) (l : List Int) (B z : Nat) (h : T Blk) (nx : Key) (o : Out) (h' : T Blk) (nx' : Key) : Prop := (∃ v lv, IsV lv v ∧ v.size ≤ z ∧ Sane v ∧ o = .ret (.agg lv)) ∧ Gs g l B h' ∧ Fo (· = g) h nx h' nx'
def GInv (g : Key) (l : List Int) (B d n : Nat) (k : Int) (a b : Nat) (k4 k6 : Key) (h : T Blk) (nx : Key) (m : Nat) (tm' : T AV) (h' : T Blk) (nx' : Key) : Prop :=
  ∃ (j : Nat) (vs : List V) (c : AV) (cs : List AV), m = n - j ∧ j ≤ n ∧ vs.length = j ∧ V.sizes vs ≤ j * zG d ∧ (∀ v ∈ vs, Sane v) ∧ T.get (K 0) tm' = some (.ptr g 0) ∧ T.get (K 1) tm' = some (I ((d + 1 : Nat) : Int)) ∧ T.get (K 4) tm' = some (.ptr k4 0) ∧ T.get (K 6) tm' = some (.ptr k6 0) ∧ T.get (K 7) tm' = some (I n) ∧ T.get (K 8) tm' = some (I j) ∧
    nx.toNat ≤ nx'.toNat ∧ (∀ b : Key, b.toNat < nx.toNat → b ≠ g → b ≠ k6 → T.get b h' = T.get b h) ∧ T.get k6 h' = some (.cells [I k, I 0, .str a b, c] .fix) ∧ IsVs cs vs ∧ IsApp c cs vs.length 4 h' nx' ∧ Gs g l (B + j * uG d) h' ∧
    (∀ b : Key, c = .slice b 0 vs.length 4 → nx.toNat ≤ b.toNat) ∧ (∀ t : Key, c = .sl cs vs.length 4 (.tok t) → nx.toNat ≤ t.toNat)
variable {C : Cfg} (S : StdI C)
include S

/- the loop over the parts -/
theorem gloop {g : Key} {l : List Int} {B d n : Nat} {k : Int} {a b : Nat} {k4 k6 : Key} {h : T Blk} {nx : Key} {tm : T AV} (hn : n ≤ 3) (hB : B + 3 * uG d ≤ 1000000) (hg : g.toNat < nx.toNat) (h6 : k6.toNat < nx.toNat) (h4 : k4.toNat < nx.toNat) (ne6 : k6 ≠ g) (ne4 : k4 ≠ g) (ne46 : k4 ≠ k6) (q4 : T.get k4 h = some (.cells z4 .fix))
    (ih : ∀ B, B + uG d ≤ 1000000 → ∀ h nx, g.toNat < nx.toNat → Gs g l B h → CallA C n_ref10_G_Value [.ptr g 0, I d] h nx (GOut g l (B + uG d) (zG d) h nx))
    {Q : Post} (hI : GInv g l B d n k a b k4 k6 h nx n tm h nx)
    (hq : ∀ tm' h' nx', T.get (K 4) tm' = some (.ptr k4 0) → T.get (K 6) tm' = some (.ptr k6 0) → (∃ (vs : List V) (c : AV) (cs : List AV), vs.length ≤ 3 ∧ V.sizes vs ≤ 3 * zG d ∧ (∀ v ∈ vs, Sane v) ∧ nx.toNat ≤ nx'.toNat ∧ (∀ b : Key, b.toNat < nx.toNat → b ≠ g → b ≠ k6 → T.get b h' = T.get b h) ∧ T.get k6 h' = some (.cells [I k, I 0, .str a b, c] .fix) ∧ IsVs cs vs ∧ IsApp c cs vs.length 4 h' nx' ∧ Gs g l (B + 3 * uG d) h' ∧
      (∀ b : Key, c = .slice b 0 vs.length 4 → nx.toNat ≤ b.toNat)) → Q (.exit 1) tm' h' nx') : W C (.loop ref10_G_Value_l0) Q tm h nx := by
  refine W.loopM (n := n) (GInv g l B d n k a b k4 k6 h nx) hI ?_
  rintro m tm1 h1 nx1 ⟨j, vs, c, cs, rfl, hj, hvj, hz, hsn, f0, f1, f4, f6, f7, f8, t1, e1, q6, hcs, happ, hG, hb1, hb2⟩
  have hju : j * uG d ≤ 3 * uG d := Nat.mul_le_mul_right _ (by omega)
  have hjz : j * zG d ≤ 3 * zG d := Nat.mul_le_mul_right _ (by omega)
  have u1 := Key.toNat_succ nx1
  refine W.of ?_
  simp [ref10_G_Value_l0]
  simp [ref10_G_Value_r17, f7, f8]
  refine ⟨fun hlt => ?_, fun hge => ?_⟩
  · have hju1 : (j + 1) * uG d ≤ 3 * uG d := Nat.mul_le_mul_right _ (by omega)
    have hjs : (j + 1) * uG d = j * uG d + uG d := by rw [Nat.add_mul, Nat.one_mul]
    have hzs : (j + 1) * zG d = j * zG d + zG d := by rw [Nat.add_mul, Nat.one_mul]
    have hbq := happ.beq (by
      have := (IsV.node 0 0 0 0 cs vs (by omega) hcs.hc hcs.hk).lits
      simpa [AV.litsL, AV.lits] using this)
    have hw : wrapF .i64 ((d : Nat) : Int) = (d : Int) := by
      have : 10 ≤ uG d := uG_low d
      have hd : d < 1000000 := by
        have : ∀ d, d ≤ uG d := by
          intro d
          induction d with
          | zero => simp
          | succ d ih => simp [uG]; omega
        have := this d
        omega
      rw [wrap_id (by omega) (by omega)]
    simp [-appendTo, ref10_G_Value_r18, f0, f1, f6, q6, S.e.raw, hw]
    refine (ih _ (by omega) _ _ (by omega) hG).mono ?_
    rintro o h2 nx2 ⟨⟨v, lv, hv, hvz, hvs, rfl⟩, hG2, fo2⟩
    have t2 := fo2.n
    have u2 := Key.toNat_succ nx2
    have q62 := (fo2.g k6 (by omega) ne6).trans q6
    have hgk : ∀ b : Key, b.toNat < nx1.toNat → (T.get b h1 = some .tok ∨ ∃ l, T.get b h1 = some (.cells l .part)) → T.get b h2 = T.get b h1 := fun b hb hx => fo2.g b hb (by
      intro e
      obtain ⟨c', a', hc', _⟩ := hG
      subst e
      rcases hx with hx | ⟨l', hx⟩ <;> rw [hc'] at hx <;> cases hx)
    have happ2 := happ.keep fo2.n hgk
    obtain ⟨cv, rfl, hKv⟩ := hv.cells
    have hccv := IsK.cell hKv
    have hcfv : ∀ n h, frzA n cv h = (cv, h) := IsK.stb hKv
    have happ5 : IsApp c cs vs.length 4 (T.set nx2 (some (.cells [I v.k, I v.n, .str v.a v.b, cv] .fix)) h2) nx2.succ := happ2.keep (by omega) fun b hb _ => get_lt hb
    obtain ⟨c', h5, nx5, ha, happ6, t6, g6, k1, k2⟩ := happ5.addW (n0 := nx) (new := [I v.k, I v.n, .str v.a v.b, cv]) rfl (by omega) (by simp [hccv]) (by omega) hb1 hb2
    have hcc := happ6.cell.1
    have hcs2 := happ6.cell.2
    have q66 : T.get k6 h5 = some (.cells [I k, I 0, .str a b, c] .fix) := by rw [g6 _ (by omega), get_lt (by omega)]; exact q62
    simp [-appendTo, q62, hbq, List.filter_cons, hccv, hcfv, IsK.cells hKv, ha, f6, q66, hcc, hcs2]
    simp [ref10_G_Value_r19, f8]
    have hvn := hcs.append (IsVs.one hv)
    have hgb : T.get g h5 = T.get g h2 := by rw [g6 _ hg, get_lt (by omega)]
    refine ⟨n - (j + 1), by omega, j + 1, vs ++ [v], c', cs ++ [I v.k, I v.n, .str v.a v.b, cv], rfl, by omega, by simp [hvj], ?_, ?_, ?_, ?_, ?_, ?_, ?_, ?_, by omega, fun b hb nb n6 => ?_, by simp, hvn, ?_, ?_, ?_, ?_⟩
    · rw [sizes_app]; simp [V.sizes]; omega
    · intro u hu
      rcases List.mem_append.1 hu with hu | hu
      · exact hsn u hu
      · simp at hu; subst hu; exact hvs
    · simp [f0]
    · simp [f1]
    · simp [f4]
    · simp [f6]
    · simp [f7]
    · simp; rw [wrap_id (by omega) (by omega)]
    · rw [T.get_set_ne _ _ _ _ n6, g6 b (by omega), get_lt (by omega), fo2.g b (by omega) nb]; exact e1 b hb nb n6
    · have hlen : (vs ++ [v]).length = vs.length + 1 := by simp
      rw [hlen]
      refine happ6.keep (Nat.le_refl _) fun b hb hx => ?_
      have hne : b ≠ k6 := by
        intro e; subst e
        rcases hx with hx | ⟨l', hx⟩ <;> rw [q66] at hx <;> cases hx
      rw [T.get_set_ne _ _ _ _ hne]
    · refine Gs.keep (h := h2) ?_ (by rw [T.get_set_ne _ _ _ _ (Ne.symm ne6)]; exact hgb)
      rw [hjs, ← Nat.add_assoc]; exact hG2
    · intro b e; exact k1 b (by simpa using e)
    · intro t e; exact k2 t (by simpa using e)
  · refine hq _ _ _ (by simp [f4]) (by simp [f6]) ⟨vs, c, cs, by omega, by omega, hsn, by omega, e1, q6, hcs, happ, hG.mono (by omega), hb1⟩
end Tz
/-
  SV: the generator of values, as a whole. No condition.
-/
namespace Tz
open Go.Sx Go
variable {C : Cfg} (S : StdI C)
include S

theorem gleaf {g : Key} {l : List Int} {B d : Nat} {h0 : T Blk} {nx0 : Key} (hg : g.toNat < nx0.toNat) (k n : Int) (a b : Nat) (hab : a = 0 → b = 0) (h' : T Blk) (nx' : Key) (hG' : Gs g l (B + 5) h') (hF' : Fo (· = g) h0 nx0 h' nx') :
    GOut g l (B + uG d) (zG d) h0 nx0 (.ret (.agg [I k, I n, .str a b, .nils])) (T.set nx0 (some (.cells [I k, I n, .str a b, .nils] .fix)) h') nx' := by
  have hu := uG_low d
  have hz := zG_pos d
  have ng : nx0 ≠ g := fun e => by rw [e] at hg; omega
  refine ⟨⟨.mk k n a b [], _, .leaf k n a b, by simpa [V.size, V.sizes] using hz, .mk _ _ _ _ _ hab (by simp), rfl⟩, (hG'.mono (by omega)).keep (T.get_set_ne _ _ _ _ (Ne.symm ng)), hF'.n, fun b hb ho => ?_⟩
  rw [get_lt (by omega)]; exact hF'.g b hb ho
/- numbers -/
theorem gnum {g : Key} {l : List Int} (hl : inR l) {B d : Nat} {h0 : T Blk} {nx0 : Key} {h : T Blk} {nx : Key} (hB : B + uG d ≤ 1000000) (hG : Gs g l (B + 1) h) (hg : g.toNat < nx0.toNat) (hn : nx0.toNat < nx.toNat) (hF : Fo (· = g) h0 nx0 h nx) (q4 : T.get nx0 h = some (.cells z4 .fix))
    {tm : T AV} (f0 : T.get (K 0) tm = some (.ptr g 0)) (f4 : T.get (K 4) tm = some (.ptr nx0 0)) {Q : Post}
    (hq : ∀ tm' h' nx' n, T.get (K 4) tm' = some (.ptr nx0 0) → Gs g l (B + 5) h' → Fo (· = g) h0 nx0 h' nx' → Q .norm tm' (T.set nx0 (some (.cells [I 0, I n, .str 0 0, .nils] .fix)) h') nx') : wpO C Q ref10_G_Value_r7 tm h nx := by
  have hu := uG_low d
  have ng : nx0 ≠ g := fun e => by rw [e] at hg; omega
  simp [ref10_G_Value_r7, f0, S.e.raw]
  refine (next_ok S hl (by omega) 5 (by omega) (by omega) hG).mono ?_
  rintro o h1 nx1 ⟨⟨r, r0, r1, rfl⟩, G1, F1⟩
  have t1 := F1.n
  simp [f0, S.e.raw]
  refine (next_ok S hl (by omega) 100 (by omega) (by omega) G1).mono ?_
  rintro o h2 nx2 ⟨⟨r', r0', r1', rfl⟩, G2, F2⟩
  have t2 := F2.n
  have v2 := Key.toNat_succ nx2
  have v3 := Key.toNat_succ nx2.succ
  simp [f0, S.e.raw]
  generalize wrapF .i64 (r' - 50) = r2
  have gn : ∀ u t, T.get g (T.set nx2 u t) = T.get (α := Blk) g t := fun u t => get_lt (by omega)
  have gn' : ∀ u t, T.get g (T.set nx2.succ u t) = T.get (α := Blk) g t := fun u t => get_lt (by omega)
  refine (next_ok S hl (by omega) 7 (by omega) (by omega) (G2.keep (by rw [gn', gn]))).mono ?_
  rintro o h3 nx3 ⟨⟨r3, r03, r13, rfl⟩, G3, F3⟩
  have t3 := F3.n
  have w1 := F3.g nx2 (by omega) (fun e => by rw [← e] at hg; omega)
  have w2 := F3.g nx2.succ (by omega) (fun e => by rw [← e] at hg; omega)
  simp at w1 w2
  have w0 : T.get nx0 h3 = some (.cells z4 .fix) := by
    rw [F3.g nx0 (by omega) ng, get_lt (by omega), get_lt (by omega), F2.g nx0 (by omega) ng, F1.g nx0 (by omega) ng]; exact q4
  have F03 : Fo (· = g) h0 nx0 h3 nx3 := ⟨by omega, fun b hb ho => by
    rw [F3.g b (by omega) ho, get_lt (by omega), get_lt (by omega), F2.g b (by omega) ho, F1.g b (by omega) ho]; exact hF.g b hb ho⟩
  have n4 : natOf (I 4) = some 4 := rfl
  have n5 : natOf (I 5) = some 5 := rfl
  have n6 : natOf (I 6) = some 6 := rfl
  have hr : r3 = 0 ∨ r3 = 1 ∨ r3 = 2 ∨ r3 = 3 ∨ r3 = 4 ∨ r3 = 5 ∨ r3 = 6 := by omega
  rcases hr with rfl | rfl | rfl | rfl | rfl | rfl | rfl <;> simp [w1, w2, f4, w0, n4, n5, n6] <;> exact hq _ _ _ _ (by simp [f4]) (G3.mono (by omega)) F03
theorem gmany {g : Key} {l : List Int} (hl : inR l) {B d : Nat} {h0 : T Blk} {nx0 : Key} {h : T Blk} {nx : Key} (hB : B + uG d ≤ 1000000) (hG : Gs g l (B + 1) h) (hg : g.toNat < nx0.toNat) (hn : nx0.toNat < nx.toNat) (hF : Fo (· = g) h0 nx0 h nx) (q4 : T.get nx0 h = some (.cells z4 .fix)) (ih : ∀ d', d = d' + 1 → ∀ B, B + uG d' ≤ 1000000 → ∀ h nx, g.toNat < nx.toNat → Gs g l B h → CallA C n_ref10_G_Value [.ptr g 0, I d'] h nx (GOut g l (B + uG d') (zG d') h nx)) :
    ∀ (k : Int) (a b : Nat) (tm : T AV) (h' : T Blk) (nx' : Key), (a = 0 → b = 0) → d ≠ 0 → T.get (K 0) tm = some (.ptr g 0) → T.get (K 1) tm = some (I d) → T.get (K 4) tm = some (.ptr nx0 0) → T.get (K 6) tm = some (.ptr nx 0) → nx.toNat < nx'.toNat → Gs g l (B + 2) h' → Fo (· = g) h0 nx0 h' nx' → T.get nx0 h' = some (.cells z4 .fix) → T.get nx h' = some (.cells [I k, I 0, .str a b, .nils] .fix) → wpC C (.seq (.ops ref10_G_Value_r15) (.seq (.seq (.ops ref10_G_Value_r16) (.block 1 (.loop ref10_G_Value_l0))) (.seq (.ops ref10_G_Value_r20) .ret))) (BodyP [.cell (K 4) true 4] (GOut g l (B + uG d) (zG d) h0 nx0)) tm h' nx' := by
  have hu := uG_low d
  have hz := zG_pos d
  have ng : nx0 ≠ g := fun e => by rw [e] at hg; omega
  have u1 := Key.toNat_succ nx
  have u2 := Key.toNat_succ nx.succ
  intro k a b tm h' nx' hab hd0 f0 f1 f4 f6 hn' hG' hF' q4' q6'
  obtain ⟨d', rfl⟩ : ∃ d', d = d' + 1 := ⟨d - 1, by omega⟩
  have hud : uG (d' + 1) = 10 + 3 * uG d' := rfl
  have hzd : zG (d' + 1) = 1 + 3 * zG d' := rfl
  simp [ref10_G_Value_r15, f0, S.e.raw]
  refine (next_ok S hl (by omega) 4 (by omega) (by omega) hG').mono ?_
  rintro o h1 nx1 ⟨⟨r, r0, r1, rfl⟩, G1, F1⟩
  have t1 := F1.n
  obtain ⟨n, rfl⟩ := Int.eq_ofNat_of_zero_le r0
  have ng6 : nx ≠ g := fun e => by rw [← e] at hg; omega
  have ne46 : nx0 ≠ nx := fun e => by rw [e] at hn; omega
  have q41 := (F1.g nx0 (by omega) ng).trans q4'
  have q61 := (F1.g nx (by omega) ng6).trans q6'
  simp
  simp [ref10_G_Value_r16]
  refine gloop S (n := n) (B := B + 3) (d := d') (k := k) (a := a) (b := b) (k4 := nx0) (k6 := nx) (g := g) (l := l) (by omega) (by omega) (by omega) (by omega) (by omega) ng6 ng ne46 q41 (ih d' rfl) ?_ ?_
  · refine ⟨0, [], .nils, [], by simp, by omega, rfl, by simp [V.sizes], by simp, by simp [f0], by simp [f1], by simp [f4], by simp [f6], by simp, by simp, by omega, fun _ _ _ _ => rfl, q61, IsVs.nil, .inl ⟨rfl, rfl, rfl⟩, by simpa using G1, fun b e => (by cases e), fun t e => (by cases e)⟩
  · intro tm' h2 nx2 e4 e6 ⟨vs, c, cs, hv3, hvz, hvs, t2, e2, q62, hcs, happ, G2, hb1⟩
    have q42 := (e2 nx0 (by omega) ng ne46).trans q41
    simp [ref10_G_Value_r20, e4, e6, q62, q42, happ.cell.1, happ.cell.2]
    have happ3 : IsApp c cs vs.length 4 (T.set nx0 (some (.cells [I k, I 0, .str a b, c] .fix)) h2) nx2 := happ.keep (Nat.le_refl _) fun b hb hx => by
      have hne : b ≠ nx0 := by
        intro e; subst e
        rcases hx with hx | ⟨l', hx⟩ <;> rw [q42] at hx <;> cases hx
      rw [T.get_set_ne _ _ _ _ hne]
    obtain ⟨hk1, hk2⟩ := happ3.fast (n0 := nx1) hcs (by omega) hb1 6
    refine ⟨⟨.mk k 0 a b vs, _, IsV.of hk1, ?_, .mk _ _ _ _ _ hab hvs, rfl⟩, ?_, ?_⟩
    · rw [V.size, hzd]; omega
    · refine Gs.keep (h := h2) (G2.mono (by omega)) ?_
      rw [hk2 g (by omega), T.get_set_ne _ _ _ _ (Ne.symm ng)]
    · refine ⟨by omega, fun b hb ho => ?_⟩
      rw [hk2 b (by omega), get_lt (by omega), e2 b (by omega) ho (fun e => by rw [e] at hb; omega), F1.g b (by omega) ho]
      exact hF'.g b hb ho
theorem gfour {g : Key} {l : List Int} (hl : inR l) {B d : Nat} {h0 : T Blk} {nx0 : Key} {h : T Blk} {nx : Key} (hB : B + uG d ≤ 1000000) (hG : Gs g l (B + 1) h) (hg : g.toNat < nx0.toNat) (hn : nx0.toNat < nx.toNat) (hF : Fo (· = g) h0 nx0 h nx) (q4 : T.get nx0 h = some (.cells z4 .fix)) {q : Int} (hd : d = 0 → q ≤ 3) (ih : ∀ d', d = d' + 1 → ∀ B, B + uG d' ≤ 1000000 → ∀ h nx, g.toNat < nx.toNat → Gs g l B h → CallA C n_ref10_G_Value [.ptr g 0, I d'] h nx (GOut g l (B + uG d') (zG d') h nx)) :
    ∀ tm, q = 4 ∨ q = 5 → T.get (K 5) tm = some (I q) → T.get (K 0) tm = some (.ptr g 0) → T.get (K 1) tm = some (I d) → T.get (K 4) tm = some (.ptr nx0 0) → wpC C (.seq (.ops ref10_G_Value_r12) (.seq (.seq (.ops ref10_G_Value_r13) (.cond (.t (K 48)) (.ops ref10_G_Value_r14) .skip)) (.seq (.ops ref10_G_Value_r15) (.seq (.seq (.ops ref10_G_Value_r16) (.block 1 (.loop ref10_G_Value_l0))) (.seq (.ops ref10_G_Value_r20) .ret))))) (BodyP [.cell (K 4) true 4] (GOut g l (B + uG d) (zG d) h0 nx0)) tm h nx := by
  have hu := uG_low d
  have hz := zG_pos d
  have ng : nx0 ≠ g := fun e => by rw [e] at hg; omega
  have u1 := Key.toNat_succ nx
  have u2 := Key.toNat_succ nx.succ
  intro tm hq f5 f0 f1 f4
  have := gmany S hl hB hG hg hn hF q4 ih
  simp at this
  have fin : ∀ tm', T.get (K 0) tm' = some (.ptr g 0) → T.get (K 1) tm' = some (I d) → T.get (K 4) tm' = some (.ptr nx0 0) → T.get (K 6) tm' = some (.ptr nx 0) → _ := fun tm' f0 f1 f4 f6 => this 2 0 0 tm' (T.set nx (some (.cells [I 2, I 0, .str 0 0, .nils] .fix)) h) nx.succ (by simp) (fun e => by have := hd e; omega) f0 f1 f4 f6 (by omega)
    ((hG.mono (by omega)).keep (get_lt (by omega))) ⟨by have := hF.n; omega, fun b hb ho => by rw [get_lt (by omega)]; exact hF.g b hb ho⟩ (by rw [get_lt (by omega)]; exact q4) (by simp)
  rcases hq with rfl | rfl
  · simp [ref10_G_Value_r12]
    simp [ref10_G_Value_r13, f5]
    refine fin _ ?_ ?_ ?_ ?_ <;> simp [f0, f1, f4]
  · simp [ref10_G_Value_r12]
    simp [ref10_G_Value_r13, f5]
    refine fin _ ?_ ?_ ?_ ?_ <;> simp [f0, f1, f4]
/- from the kind on -/
theorem gtail {g : Key} {l : List Int} (hl : inR l) {B d : Nat} {h0 : T Blk} {nx0 : Key} {h : T Blk} {nx : Key} {tm : T AV} {q : Int} (hq0 : 0 ≤ q) (hq6 : q ≤ 6) (hd : d = 0 → q ≤ 3) (hB : B + uG d ≤ 1000000) (hG : Gs g l (B + 1) h) (hg : g.toNat < nx0.toNat) (hn : nx0.toNat < nx.toNat) (hF : Fo (· = g) h0 nx0 h nx)
    (q4 : T.get nx0 h = some (.cells z4 .fix)) (ih : ∀ d', d = d' + 1 → ∀ B, B + uG d' ≤ 1000000 → ∀ h nx, g.toNat < nx.toNat → Gs g l B h → CallA C n_ref10_G_Value [.ptr g 0, I d'] h nx (GOut g l (B + uG d') (zG d') h nx))
    (f0 : T.get (K 0) tm = some (.ptr g 0)) (f1 : T.get (K 1) tm = some (I d)) (f4 : T.get (K 4) tm = some (.ptr nx0 0)) (f5 : T.get (K 5) tm = some (I q)) :
    wpC C (.seq (.seq (.ops ref10_G_Value_r4) (.block 0 (.seq (.seq (.ops ref10_G_Value_r5) (.cond (.t (K 16)) .skip (.ops ref10_G_Value_r6))) (.cond (.t (K 16)) (.seq (.ops ref10_G_Value_r7) .ret)
      (.seq (.ops ref10_G_Value_r8) (.cond (.t (K 33)) (.seq (.ops ref10_G_Value_r9) .ret) (.seq (.ops ref10_G_Value_r10) (.cond (.t (K 38)) (.seq (.ops ref10_G_Value_r11) .ret) .skip))))))))
      (.seq (.ops ref10_G_Value_r12) (.seq (.seq (.ops ref10_G_Value_r13) (.cond (.t (K 48)) (.ops ref10_G_Value_r14) .skip)) (.seq (.ops ref10_G_Value_r15) (.seq (.seq (.ops ref10_G_Value_r16) (.block 1 (.loop ref10_G_Value_l0))) (.seq (.ops ref10_G_Value_r20) .ret))))))
      (BodyP [.cell (K 4) true 4] (GOut g l (B + uG d) (zG d) h0 nx0)) tm h nx := by
  have hu := uG_low d
  have hz := zG_pos d
  have ng : nx0 ≠ g := fun e => by rw [e] at hg; omega
  have u1 := Key.toNat_succ nx
  have u2 := Key.toNat_succ nx.succ
  have leaf := fun (k n : Int) (a b : Nat) (hab : a = 0 → b = 0) (h' : T Blk) (nx' : Key) => gleaf S (l := l) (B := B) (d := d) (h0 := h0) hg k n a b hab h' nx'
  have hqc : q = 0 ∨ q = 1 ∨ q = 2 ∨ q = 3 ∨ q = 4 ∨ q = 5 ∨ q = 6 := by omega
  have many := gmany S hl hB hG hg hn hF q4 ih
  have four := gfour S hl hB hG hg hn hF q4 hd ih
  rcases hqc with rfl | rfl | rfl | rfl | rfl | rfl | rfl
  · simp [ref10_G_Value_r4, f5]
    simp [ref10_G_Value_r5]
    refine gnum S hl hB hG hg hn hF q4 (by simp [f0]) (by simp [f4]) ?_
    intro tm' h' nx' n e4 G' F'
    simp [e4]
    exact leaf _ _ _ _ (by simp) _ _ G' F'
  · simp [ref10_G_Value_r4, f5]
    simp [ref10_G_Value_r5]
    simp [ref10_G_Value_r6]
    refine gnum S hl hB hG hg hn hF q4 (by simp [f0]) (by simp [f4]) ?_
    intro tm' h' nx' n e4 G' F'
    simp [e4]
    exact leaf _ _ _ _ (by simp) _ _ G' F'
  · simp [ref10_G_Value_r4, f5]
    simp [ref10_G_Value_r5]
    simp [ref10_G_Value_r6]
    simp [ref10_G_Value_r8]
    simp [ref10_G_Value_r9, f0, S.e.raw]
    refine (next_ok S hl (by omega) 2 (by omega) (by omega) hG).mono ?_
    rintro o h1 nx1 ⟨⟨r, r0, r1, rfl⟩, G1, F1⟩
    have w0 := (F1.g nx0 (by omega) ng).trans q4
    simp [f4, w0]
    exact leaf _ _ _ _ (by simp) _ _ (G1.mono (by omega)) (hF.trans F1)
  · simp [ref10_G_Value_r4, f5]
    simp [ref10_G_Value_r5]
    simp [ref10_G_Value_r6]
    simp [ref10_G_Value_r8]
    simp [ref10_G_Value_r10]
    simp [ref10_G_Value_r11, f0, S.e.raw]
    refine (next_ok S hl (by omega) 4 (by omega) (by omega) (hG.keep (get_lt (by omega)))).mono ?_
    rintro o h1 nx1 ⟨⟨r, r0, r1, rfl⟩, G1, F1⟩
    have t1 := F1.n
    have w0 := F1.g nx0 (by omega) ng
    rw [get_lt (by omega), q4] at w0
    have w1 := F1.g nx (by omega) (fun e => by rw [← e] at hg; omega)
    simp at w1
    have F01 : Fo (· = g) h0 nx0 h1 nx1 := ⟨by omega, fun b hb ho => by rw [F1.g b (by omega) ho, get_lt (by omega)]; exact hF.g b hb ho⟩
    have hr : r = 0 ∨ r = 1 ∨ r = 2 ∨ r = 3 := by omega
    rcases hr with rfl | rfl | rfl | rfl <;> simp [f4, w0, w1] <;> exact leaf _ _ _ _ (by simp) _ _ (G1.mono (by omega)) F01
  · simp [ref10_G_Value_r4, f5]
    simp [ref10_G_Value_r5]
    simp [ref10_G_Value_r6]
    simp [ref10_G_Value_r8]
    simp [ref10_G_Value_r10]
    have := four
    simp at this
    exact this _ (by simp [f5]) (by simp [f0]) (by simp [f1]) (by simp [f4])
  · simp [ref10_G_Value_r4, f5]
    simp [ref10_G_Value_r5]
    simp [ref10_G_Value_r6]
    simp [ref10_G_Value_r8]
    simp [ref10_G_Value_r10]
    have := four
    simp at this
    exact this _ (by simp [f5]) (by simp [f0]) (by simp [f1]) (by simp [f4])
  · simp [ref10_G_Value_r4, f5]
    simp [ref10_G_Value_r5]
    simp [ref10_G_Value_r6]
    simp [ref10_G_Value_r8]
    simp [ref10_G_Value_r10]
    simp [ref10_G_Value_r12]
    simp [ref10_G_Value_r13, f5]
    simp [ref10_G_Value_r14, f0, S.e.raw]
    have gn : ∀ u t, T.get g (T.set nx u t) = T.get (α := Blk) g t := fun u t => get_lt (by omega)
    have gn' : ∀ u t, T.get g (T.set nx.succ u t) = T.get (α := Blk) g t := fun u t => get_lt (by omega)
    refine (next_ok S hl (by omega) 3 (by omega) (by omega) (hG.keep (by rw [gn', gn]))).mono ?_
    rintro o h1 nx1 ⟨⟨r, r0, r1, rfl⟩, G1, F1⟩
    have t1 := F1.n
    have w0 := F1.g nx0 (by omega) ng
    rw [get_lt (by omega), get_lt (by omega), q4] at w0
    have w1 := F1.g nx (by omega) (fun e => by rw [← e] at hg; omega)
    have w2 := F1.g nx.succ (by omega) (fun e => by rw [← e] at hg; omega)
    simp at w1 w2
    have F01 : ∀ X, Fo (· = g) h0 nx0 (T.set nx X h1) nx1 := fun X => ⟨by omega, fun b hb ho => by rw [get_lt (by omega), F1.g b (by omega) ho, get_lt (by omega), get_lt (by omega)]; exact hF.g b hb ho⟩
    have hr : r = 0 ∨ r = 1 ∨ r = 2 := by omega
    have := many
    simp at this
    rcases hr with rfl | rfl | rfl <;> simp [w1, w2] <;>
      refine this 3 _ _ _ _ _ (by simp) (fun e => by have := hd e; omega) ?_ ?_ ?_ ?_ (by omega) ((G1.mono (by omega)).keep (get_lt (by omega))) (F01 _) (by rw [get_lt (by omega)]; exact w0) (T.get_set_same _ _ _) <;> simp [f0, f1, f4]

theorem gval_ok {g : Key} {l : List Int} (hl : inR l) : ∀ (d : Nat), d ≤ 2 → ∀ B, B + uG d ≤ 1000000 → ∀ h nx, g.toNat < nx.toNat → Gs g l B h → CallA C n_ref10_G_Value [.ptr g 0, I d] h nx (GOut g l (B + uG d) (zG d) h nx) := by
  intro d
  induction d with
  | zero =>
    intro _ B hB h nx hg hG
    have u1 := Key.toNat_succ nx
    have hu := uG_low 0
    refine S.gval.call ?_
    simp [ref10_G_Value]
    simp [ref10_G_Value_r0]
    simp [ref10_G_Value_r1, S.e.raw]
    refine (next_ok S hl (by omega) 7 (by omega) (by omega) (hG.keep (get_lt (by omega)))).mono ?_
    rintro o h1 nx1 ⟨⟨r, r0, r1, rfl⟩, G1, F1⟩
    have t1 := F1.n
    have w0 := F1.g nx (by omega) (fun e => by rw [← e] at hg; omega)
    simp at w0
    simp
    simp [ref10_G_Value_r2]
    simp [ref10_G_Value_r3]
    have F01 : Fo (· = g) h nx h1 nx1 := ⟨by omega, fun b hb ho => by rw [F1.g b (by omega) ho, get_lt (by omega)]⟩
    have k0 : 0 ≤ Int.tmod r 4 := Int.tmod_nonneg _ r0
    have k1 := Int.tmod_lt_of_pos r (b := 4) (by omega)
    have := fun tm => gtail S hl (d := 0) (q := Int.tmod r 4) (h0 := h) (nx0 := nx) (tm := tm) k0 (by omega) (fun _ => by omega) hB G1 hg (by omega) F01 w0 (fun d' e => by omega)
    simp at this
    refine this _ ?_ ?_ ?_ ?_ <;> simp
  | succ d ih =>
    intro hd B hB h nx hg hG
    have u1 := Key.toNat_succ nx
    have hu := uG_low (d + 1)
    have hd0 : ((d : Int) + 1 == 0) = false := by simp; omega
    have hd0' : ¬ ((d : Int) + 1 = 0) := by omega
    refine S.gval.call ?_
    simp [ref10_G_Value]
    simp [ref10_G_Value_r0]
    simp [ref10_G_Value_r1, S.e.raw]
    refine (next_ok S hl (by omega) 7 (by omega) (by omega) (hG.keep (get_lt (by omega)))).mono ?_
    rintro o h1 nx1 ⟨⟨r, r0, r1, rfl⟩, G1, F1⟩
    have t1 := F1.n
    have w0 := F1.g nx (by omega) (fun e => by rw [← e] at hg; omega)
    simp at w0
    simp
    simp [ref10_G_Value_r2, hd0, hd0']
    have F01 : Fo (· = g) h nx h1 nx1 := ⟨by omega, fun b hb ho => by rw [F1.g b (by omega) ho, get_lt (by omega)]⟩
    have := fun tm => gtail S hl (d := d + 1) (q := r) (h0 := h) (nx0 := nx) (tm := tm) r0 (by omega) (fun e => by omega) hB G1 hg (by omega) F01 w0 (fun d' e => by
      have : d = d' := by omega
      subst this
      exact ih (by omega))
    simp at this
    refine this _ ?_ ?_ ?_ ?_ <;> simp
end Tz
/-
  SV: values that are generated, and their validity. No condition.
-/
namespace Tz
open Go.Sx Go
theorem inR.drop {l : List Int} (h : inR l) (n : Nat) : inR (l.drop n) := fun x hx => h x (List.mem_of_mem_drop hx)
def nmF (c : Int) : Bool := (decide (97 ≤ c) && decide (c ≤ 122)) || (decide (65 ≤ c) && decide (c ≤ 90)) || (decide (48 ≤ c) && decide (c ≤ 57)) || c == 95
def byF (b i : Nat) : Int := ((Nat.shiftRight b (8 * i)).mod 256 : Nat)
def nmsF (b : Nat) : Nat → Nat → Bool
  | 0, _ => true
  | n + 1, i => nmF (byF b i) && nmsF b n (i + 1)
def capF (a b : Nat) : Bool := if a = 0 then false else if 16 < a then false else if byF b 0 < 65 then false else if 90 < byF b 0 then false else nmsF b (a - 1) 1
def frmF (v : V) : Bool := if v.k = 0 then decide (v.a = 0 ∧ v.b = 0) && v.kids.length == 0 else if v.k = 1 then (v.n == 0 || v.n == 1) && decide (v.a = 0 ∧ v.b = 0) && v.kids.length == 0 else if v.k = 2 then v.n == 0 && decide (v.a = 0 ∧ v.b = 0) else if v.k = 3 then v.n == 0 && capF v.a v.b else false
def fitF (v : V) : Bool := decide (v.kids.length ≤ 256) && (!(v.k == 3) || decide (v.kids.length ≤ 16))
variable {C : Cfg} (S : StdI C)
include S

theorem refval_ok {cl : AV} {l : List Int} (hc : IsNs cl l) (hl : inR l) (at_ : Nat) : Pur C n_ref10_Value [cl, I at_] (fun o => ∃ v lv, IsV lv v ∧ v.size ≤ 13 ∧ Sane v ∧ o = .ret (.agg lv)) := by
  intro h nx
  have s1 := Key.toNat_succ nx
  have s2 := Key.toNat_succ nx.succ
  have ha : ¬ (at_ : Int) < 0 := by omega
  have key : ∀ (c : AV) (l : List Int) (tm : T AV), IsNs c l → inR l → T.get (K 4) tm = some (.ptr nx 0) → T.get (K 5) tm = some (.ptr nx.succ 0) → wpC C (.seq (.ops ref10_Value_r2) .ret) (BodyP [.cell (K 4) true 4] (fun o h' nx' => (∃ v lv, IsV lv v ∧ v.size ≤ 13 ∧ Sane v ∧ o = .ret (.agg lv)) ∧ Ext h nx h' nx')) tm
      (T.set nx.succ (some (.cells [c, I 0] .fix)) (T.set nx (some (.cells z4 .fix)) h)) nx.succ.succ := by
    intro c l tm hc hl f4 f5
    simp [ref10_Value_r2, f5, S.e.raw]
    refine (gval_ok S hl 2 (by omega) 0 (by simp [uG]) _ _ (by omega) (g := nx.succ) ⟨c, 0, by simp, hc, by omega⟩).mono ?_
    rintro o h1 nx1 ⟨⟨v, lv, hv, hz, hsn, rfl⟩, _, F1⟩
    have t1 := F1.n
    have w0 := F1.g nx (by omega) (fun e => by have := congrArg Key.toNat e; omega)
    simp at w0
    obtain ⟨cv, rfl, hK⟩ := hv.cells
    have hcf : ∀ n h, frzA n cv h = (cv, h) := IsK.stb hK
    simp [f4, w0, IsK.cell hK, IsK.cells hK, hcf]
    refine ⟨⟨v, _, hv, hz, hsn, rfl⟩, by omega, fun b hb => ?_⟩
    rw [get_lt (by omega), F1.g b (by omega) (fun e => by rw [e] at hb; omega), get_lt (by omega), get_lt (by omega)]
  refine S.value.call ?_
  simp [ref10_Value]
  simp [ref10_Value_r0]
  have key' := key
  simp at key'
  rcases hc with ⟨rfl, rfl⟩ | rfl
  · by_cases h0 : at_ = 0
    · subst h0
      simp [ref10_Value_r1]
      refine key' .nils [] _ (.inl ⟨rfl, rfl⟩) hl ?_ ?_ <;> simp
    · have ha2 : (0 : Int) < at_ := by omega
      have ha3 : 0 < at_ := by omega
      simp [ref10_Value_r1, ha, ha2, ha3]
      refine key' .nils [] _ (.inl ⟨rfl, rfl⟩) hl ?_ ?_ <;> simp
  · by_cases h0 : l.length < at_
    · have h0' : (l.length : Int) < at_ := by omega
      simp [ref10_Value_r1, ha, h0, h0']
      refine key' (.sl (([] : List Int).map I) ([] : List Int).length 1 .any) [] _ (.inr rfl) (fun _ h => absurd h (by simp)) ?_ ?_ <;> simp
    · have h0' : ¬ (l.length : Int) < at_ := by omega
      have h1 : at_ ≤ l.length := by omega
      simp [ref10_Value_r1, ha, h0, h0', h1]
      have e1 : List.map (fun a => AV.int IntKind.i64 (SI.lit a)) l = l.map I := rfl
      refine key' _ (l.drop at_) _ (.inr (by simp; rw [List.take_of_length_le (by simp)])) (hl.drop at_) ?_ ?_ <;> simp

theorem inName_ok (c : Int) : Pur C n_values_inName [.int .u8 (.lit c)] (· = .ret (.bool (nmF c))) := by
  intro h nx
  refine S.inName.call ?_
  simp [values_inName]
  simp [values_inName_r0]
  by_cases h1 : c < 97
  · by_cases h3 : c < 65
    · by_cases h5 : c < 48
      · have e : nmF c = false := by simp [nmF]; omega
        have e2 : (c == 95) = false := by simp; omega
        simp [values_inName_r1, h1, h3, h5, e, e2]; exact Ext.refl _ _
      · by_cases h6 : 57 < c
        · have e : nmF c = false := by simp [nmF]; omega
          have e2 : (c == 95) = false := by simp; omega
          simp [values_inName_r1, h1, h3, h5, h6, e, e2]; exact Ext.refl _ _
        · have e : nmF c = true := by simp [nmF]; omega
          simp [values_inName_r1, h1, h3, h5, h6, e]; exact Ext.refl _ _
    · by_cases h4 : 90 < c
      · have h5 : ¬ c < 48 := by omega
        have h6 : 57 < c := by omega
        have e : nmF c = (c == 95) := by
          have a1 : ¬ 97 ≤ c := by omega
          have a2 : ¬ c ≤ 90 := by omega
          have a3 : ¬ c ≤ 57 := by omega
          simp [nmF, a1, a2, a3]
        simp [values_inName_r1, h1, h3, h4, h5, h6, e]; exact Ext.refl _ _
      · have e : nmF c = true := by simp [nmF]; omega
        simp [values_inName_r1, h1, h3, h4, e]; exact Ext.refl _ _
  · by_cases h2 : 122 < c
    · have h3 : ¬ c < 65 := by omega
      have h4 : 90 < c := by omega
      have h5 : ¬ c < 48 := by omega
      have h6 : 57 < c := by omega
      have e : nmF c = false := by simp [nmF]; omega
      have e2 : (c == 95) = false := by simp; omega
      simp [values_inName_r1, h1, h2, h3, h4, h5, h6, e, e2]; exact Ext.refl _ _
    · have e : nmF c = true := by simp [nmF]; omega
      simp [values_inName_r1, h1, h2, e]; exact Ext.refl _ _
end Tz
/-
  SV: the validity of values. No condition.
-/
namespace Tz
open Go.Sx Go
def CapInv (a b : Nat) (h : T Blk) (nx : Key) (m : Nat) (tm' : T AV) (h' : T Blk) (nx' : Key) : Prop :=
  ∃ j : Nat, m = a - j ∧ 1 ≤ j ∧ j ≤ a ∧ T.get (K 0) tm' = some (.str a b) ∧ T.get (K 3) tm' = some (I j) ∧ Ext h nx h' nx' ∧ nmsF b (a - j) j = nmsF b (a - 1) 1
def valF (v : V) (s : Int × Bool × Bool) : Bool × (Int × Bool × Bool) := ((s.2.1 && frmF v), (wrapF .i64 (s.1 + 1), (s.2.1 && frmF v), (s.2.2 && fitF v)))
def ValP (k1 k2 k3 : Key) (s : Int × Bool × Bool) (h : T Blk) : Prop := T.get k1 h = some (.cells [I s.1] .fix) ∧ T.get k2 h = some (.cells [.bool s.2.1] .fix) ∧ T.get k3 h = some (.cells [.bool s.2.2] .fix)
variable {C : Cfg} (S : StdI C)
include S

theorem capital_ok (a b : Nat) (hab : a = 0 → b = 0) : Pur C n_values_capital [.str a b] (· = .ret (.bool (capF a b))) := by
  intro h nx
  refine S.capital.call ?_
  simp [values_capital]
  simp [values_capital_r0]
  by_cases h0 : a = 0
  · have := hab h0
    subst h0 this
    simp [values_capital_r1, values_capital_r2, capF]; exact Ext.refl _ _
  · have h0' : ¬ (a = 0 ∧ b = 0) := fun h => h0 h.1
    have hp : 0 < a := by omega
    by_cases h1 : 16 < a
    · have h1' : (16 : Int) < a := by omega
      simp [values_capital_r1, values_capital_r2, h0, h1, h1', capF]; exact Ext.refl _ _
    · have h1' : ¬ (16 : Int) < a := by omega
      have hb0 : ((b.mod 256 : Nat) : Int) = byF b 0 := rfl
      by_cases h2 : byF b 0 < 65
      · simp [values_capital_r1, values_capital_r2, h0, h1, h1', h2, hb0, hp, capF]; exact Ext.refl _ _
      · by_cases h3 : 90 < byF b 0
        · simp [values_capital_r1, values_capital_r2, h0, h1, h1', h2, h3, hb0, hp, capF]; exact Ext.refl _ _
        · simp [values_capital_r1, h0, h1, h1', h2, h3, hb0, hp, capF]
          simp [values_capital_r3]
          refine W.loopM (n := a - 1) (CapInv a b h nx) ⟨1, rfl, by omega, by omega, by simp, by simp, Ext.refl _ _, rfl⟩ ?_
          rintro m tm1 g1 nx1 ⟨j, rfl, hj1, hja, f0, f3, E1, hn⟩
          refine W.of ?_
          simp [values_capital_l0]
          simp [values_capital_r4, f0, f3]
          refine ⟨fun hlt => ?_, fun hge => ?_⟩
          · have hlt' : j < a := by omega
            have hs : nmsF b (a - j) j = (nmF (byF b j) && nmsF b (a - (j + 1)) (j + 1)) := by
              rw [show a - j = (a - (j + 1)) + 1 by omega]; rfl
            have hbj : (((b >>> (8 * j)).mod 256 : Nat) : Int) = byF b j := rfl
            simp [values_capital_r5, f0, f3, hlt', S.e.raw, hbj]
            refine (inName_ok S _ _ _).mono ?_
            rintro o g2 nx2 ⟨rfl, E2⟩
            cases hx : nmF (byF b j) with
            | false =>
              simp [values_capital_r6]
              rw [← hn, hs, hx]
              exact ⟨rfl, E1.trans E2⟩
            | true =>
              simp [values_capital_r7, f3]
              refine ⟨a - (j + 1), by omega, j + 1, rfl, by omega, by omega, by simp [f0], ?_, E1.trans E2, ?_⟩
              · simp; rw [wrap_id (by omega) (by omega)]
              · rw [← hn, hs, hx]; rfl
          · have hja' : j = a := by omega
            subst hja'
            simp [values_capital_r8]
            rw [← hn]
            simp [nmsF]
            exact E1

theorem formed_ok {l : List AV} {v : V} (hv : IsV l v) (hab : v.a = 0 → v.b = 0) : Pur C n_values_formed [.agg l] (· = .ret (.bool (frmF v))) := by
  intro h nx
  obtain ⟨c, rfl, hK⟩ := hv.cells
  have hE := E0 h nx (.cells [I v.k, I v.n, .str v.a v.b, c] .fix)
  have hcl : ((v.kids.length : Int) == 0) = (v.kids.length == 0) := by
    by_cases h : v.kids.length = 0
    · simp [h]
    · have : ¬ ((v.kids.length : Int) = 0) := by omega
      rw [beq_false_of_ne this, beq_false_of_ne h]
  have hs : (v.a = 0 ∧ v.b = 0) ∨ ¬ v.a = 0 := by
    by_cases h0 : v.a = 0
    · exact .inl ⟨h0, hab h0⟩
    · exact .inr h0
  refine S.formed.call ?_
  simp [values_formed]
  simp [values_formed_r0]
  simp [values_formed_r1]
  by_cases k0 : v.k = 0
  · simp [values_formed_r2, k0]
    rcases hs with ⟨a0, b0⟩ | a0
    · rcases hK with ⟨rfl, hk⟩ | ⟨cs, rfl, _, _⟩
      · simp [values_formed_r3, a0, b0, frmF, k0, hk]; simpa [k0, a0, b0] using hE
      · simp [values_formed_r3, a0, b0, frmF, k0, hcl]; simpa [k0, a0, b0] using hE
    · simp [values_formed_r3, a0, frmF, k0]; simpa [k0] using hE
  · by_cases k1 : v.k = 1
    · simp [values_formed_r2, values_formed_r4, k1]
      by_cases n0 : v.n = 0
      · rcases hs with ⟨a0, b0⟩ | a0
        · rcases hK with ⟨rfl, hk⟩ | ⟨cs, rfl, _, _⟩
          · simp [values_formed_r5, a0, b0, frmF, k1, hk, n0]; simpa [k1, a0, b0, n0] using hE
          · simp [values_formed_r5, a0, b0, frmF, k1, hcl, n0]; simpa [k1, a0, b0, n0] using hE
        · simp [values_formed_r5, a0, frmF, k1, n0]; simpa [k1, n0] using hE
      · by_cases n1 : v.n = 1
        · rcases hs with ⟨a0, b0⟩ | a0
          · rcases hK with ⟨rfl, hk⟩ | ⟨cs, rfl, _, _⟩
            · simp [values_formed_r5, a0, b0, frmF, k1, hk, n1]; simpa [k1, a0, b0, n1] using hE
            · simp [values_formed_r5, a0, b0, frmF, k1, hcl, n1]; simpa [k1, a0, b0, n1] using hE
          · simp [values_formed_r5, a0, frmF, k1, n1]; simpa [k1, n1] using hE
        · have m0 : (v.n == 0) = false := by simpa using n0
          have m1 : (v.n == 1) = false := by simpa using n1
          simp [values_formed_r5, frmF, k1, m0, m1]; simpa [k1] using hE
    · by_cases k2 : v.k = 2
      · simp [values_formed_r2, values_formed_r4, values_formed_r6, k2]
        by_cases n0 : v.n = 0
        · rcases hs with ⟨a0, b0⟩ | a0
          · simp [values_formed_r7, a0, b0, frmF, k2, n0]; simpa [k2, a0, b0, n0] using hE
          · simp [values_formed_r7, a0, frmF, k2, n0]; simpa [k2, n0] using hE
        · have m0 : (v.n == 0) = false := by simpa using n0
          simp [values_formed_r7, frmF, k2, m0]; simpa [k2] using hE
      · by_cases k3 : v.k = 3
        · simp [values_formed_r2, values_formed_r4, values_formed_r6, values_formed_r8, k3]
          by_cases n0 : v.n = 0
          · simp [values_formed_r9, n0, S.e.raw]
            refine (capital_ok S _ _ hab _ _).mono ?_
            rintro o h1 nx1 ⟨rfl, e1⟩
            simp [frmF, k3, n0]
            rw [k3, n0] at hE
            exact hE.trans e1
          · have m0 : (v.n == 0) = false := by simpa using n0
            simp [values_formed_r9, frmF, k3, m0]; simpa [k3] using hE
        · have j0 : (v.k == 0) = false := by simpa using k0
          have j1 : (v.k == 1) = false := by simpa using k1
          have j2 : (v.k == 2) = false := by simpa using k2
          have j3 : (v.k == 3) = false := by simpa using k3
          simp [values_formed_r2, values_formed_r4, values_formed_r6, values_formed_r8, values_formed_r10, k0, k1, k2, k3, j0, j1, j2, j3, frmF]
          exact hE

theorem fits_ok {l : List AV} {v : V} (hv : IsV l v) : Pur C n_values_fits [.agg l] (· = .ret (.bool (fitF v))) := by
  intro h nx
  obtain ⟨c, rfl, hK⟩ := hv.cells
  have hE := E0 h nx (.cells [I v.k, I v.n, .str v.a v.b, c] .fix)
  refine S.fits.call ?_
  simp [values_fits]
  simp [values_fits_r0]
  have a1 : (256 < (v.kids.length : Int)) = (256 < v.kids.length) := by apply propext; omega
  have a2 : (16 < (v.kids.length : Int)) = (16 < v.kids.length) := by apply propext; omega
  rcases hK with ⟨rfl, hk⟩ | ⟨cs, rfl, _, _⟩
  · by_cases k3 : v.k = 3
    · simp [values_fits_r1, fitF, hk, k3]; simpa [k3] using hE
    · have j3 : (v.k == 3) = false := by simpa using k3
      simp [values_fits_r1, fitF, hk, k3, j3]; exact hE
  · by_cases l1 : 256 < v.kids.length
    · have l1' : ¬ v.kids.length ≤ 256 := by omega
      have l2 : (256 : Int) < v.kids.length := by omega
      simp [values_fits_r1, fitF, l1, l2, l1']; exact hE
    · have l1' : v.kids.length ≤ 256 := by omega
      have l2 : ¬ (256 : Int) < v.kids.length := by omega
      by_cases k3 : v.k = 3
      · by_cases m1 : 16 < v.kids.length
        · have m1' : ¬ v.kids.length ≤ 16 := by omega
          have m2 : (16 : Int) < v.kids.length := by omega
          simp [values_fits_r1, fitF, k3, l1, l2, l1', m1, m1', m2]; simpa [k3] using hE
        · have m1' : v.kids.length ≤ 16 := by omega
          have m2 : ¬ (16 : Int) < v.kids.length := by omega
          simp [values_fits_r1, fitF, k3, l1, l2, l1', m1, m1', m2]; simpa [k3] using hE
      · have j3 : (v.k == 3) = false := by simpa using k3
        simp [values_fits_r1, fitF, k3, j3, l1, l2, l1']; exact hE

end Tz
/-
  SV: values.Valid comes to some answer. No condition.
-/
namespace Tz
open Go.Sx Go
variable {C : Cfg} (S : StdI C)
include S

theorem seeVal_ok {k1 k2 k3 : Key} (l12 : k1.toNat < k2.toNat) (l23 : k2.toNat < k3.toNat) : SeeOK C n_values_Valid_c1 [.ptr k1 0, .ptr k2 0, .ptr k3 0] (fun b => b = k1 ∨ b = k2 ∨ b = k3) (k3.toNat + 1) (ValP k1 k2 k3) valF Sane := by
  have h12 : k1 ≠ k2 := fun e => by rw [e] at l12; omega
  have h23 : k2 ≠ k3 := fun e => by rw [e] at l23; omega
  have h13 : k1 ≠ k3 := fun e => by rw [e] at l12; omega
  refine ⟨fun v h => h.kid, ?_, ?_, ?_, ?_⟩
  · intro cells v d s h nx h0 hv hPv ⟨g1, g2, g3⟩
    obtain ⟨n, good, small⟩ := s
    have hv0 := hv
    obtain ⟨c, rfl, hK⟩ := hv.cells
    have hc' : ∀ n h, frzA n c h = (c, h) := IsK.stb hK
    have u1 := Key.toNat_succ nx
    simp at g1 g2 g3
    refine S.validc.call ?_
    simp [values_Valid_c1]
    simp [values_Valid_c1_r0]
    have m1 : ∀ u t, T.get k1 (T.set nx u t) = T.get (α := Blk) k1 t := fun u t => get_lt (by omega)
    have m2 : ∀ u t, T.get k2 (T.set nx u t) = T.get (α := Blk) k2 t := fun u t => get_lt (by omega)
    have m3 : ∀ u t, T.get k3 (T.set nx u t) = T.get (α := Blk) k3 t := fun u t => get_lt (by omega)
    have m0 : ∀ u t, T.get nx (T.set k1 u t) = T.get (α := Blk) nx t := fun u t => get_gt (by omega)
    have p0 : ∀ u t, T.get nx (T.set k2 u t) = T.get (α := Blk) nx t := fun u t => get_gt (by omega)
    have x12 : ∀ u t, T.get k2 (T.set k1 u t) = T.get (α := Blk) k2 t := fun u t => T.get_set_ne _ _ _ _ (Ne.symm h12)
    have x13 : ∀ u t, T.get k3 (T.set k1 u t) = T.get (α := Blk) k3 t := fun u t => T.get_set_ne _ _ _ _ (Ne.symm h13)
    have x23 : ∀ u t, T.get k3 (T.set k2 u t) = T.get (α := Blk) k3 t := fun u t => T.get_set_ne _ _ _ _ (Ne.symm h23)
    have y12 : ∀ u t, T.get k1 (T.set k2 u t) = T.get (α := Blk) k1 t := fun u t => T.get_set_ne _ _ _ _ h12
    have y13 : ∀ u t, T.get k1 (T.set k3 u t) = T.get (α := Blk) k1 t := fun u t => T.get_set_ne _ _ _ _ h13
    have y23 : ∀ u t, T.get k2 (T.set k3 u t) = T.get (α := Blk) k2 t := fun u t => T.get_set_ne _ _ _ _ h23
    simp [values_Valid_c1_r1, m1, g1]
    -- the second part
    have fin : ∀ (tm : T AV) (h' : T Blk) (nx' : Key) (gd : Bool), gd = (good && frmF v) → T.get (K 5) tm = some (.ptr nx 0) → T.get (K 3) tm = some (.ptr k2 0) → T.get (K 4) tm = some (.ptr k3 0) → nx.succ.toNat ≤ nx'.toNat → T.get nx h' = some (.cells [I v.k, I v.n, .str v.a v.b, c] .fix) → T.get k1 h' = some (.cells [I (wrapF .i64 (n + 1))] .fix) → T.get k2 h' = some (.cells [.bool gd] .fix) → T.get k3 h' = some (.cells [.bool small] .fix) →
        (∀ b : Key, b.toNat < nx.toNat → ¬ (b = k1 ∨ b = k2 ∨ b = k3) → T.get b h' = T.get b h) →
        wpC C (.seq (.ops values_Valid_c1_r3) (.seq (.ops values_Valid_c1_r4) .ret)) (BodyP [.tmp (K 7)] (fun o h' nx' => o = .ret (.bool (valF v (n, good, small)).1) ∧ ValP k1 k2 k3 (valF v (n, good, small)).2 h' ∧ Fo (fun b => b = k1 ∨ b = k2 ∨ b = k3) h nx h' nx')) tm h' nx' := by
      intro tm h' nx' gd hgd f5 f3 f4 tn q0 q1 q2 q3 hf
      subst hgd
      cases small with
      | false =>
        simp [values_Valid_c1_r3, f4, q3]
        simp [values_Valid_c1_r4, f3, y23, q2, valF, ValP, y13, q1]
        exact ⟨by omega, fun b hb ho => by rw [T.get_set_ne _ _ _ _ (fun e => ho (.inr (.inr e)))]; exact hf b hb ho⟩
      | true =>
        simp [values_Valid_c1_r3, f4, f5, q0, q3, S.e.raw, hc']
        refine (fits_ok S hv0 _ _).mono ?_
        rintro o h2 nx2 ⟨rfl, e2⟩
        have t2 := e2.n
        have q12 := (e2.g k1 (by omega)).trans q1
        have q22 := (e2.g k2 (by omega)).trans q2
        have q32 := (e2.g k3 (by omega)).trans q3
        simp [f4, q32]
        simp [values_Valid_c1_r4, f3, y23, q22, valF, ValP, y13, q12]
        exact ⟨by omega, fun b hb ho => by rw [T.get_set_ne _ _ _ _ (fun e => ho (.inr (.inr e))), e2.g b (by omega)]; exact hf b hb ho⟩
    have fin' := fin
    simp at fin'
    cases good with
    | false =>
      simp [values_Valid_c1_r2, x12, m2, g2]
      refine fin' _ _ _ ?_ ?_ ?_ (by omega) ?_ ?_ ?_ ?_ (fun b hb o1 o2 o3 => ?_)
      · simp
      · simp
      · simp
      · simp [p0, m0]
      · simp [y12]
      · simp
      · simp [x23, x13, m3, g3]
      · rw [T.get_set_ne _ _ _ _ o2, T.get_set_ne _ _ _ _ o1, get_lt hb]
    | true =>
      simp [values_Valid_c1_r2, x12, m2, g2, m0, S.e.raw, hc']
      refine (formed_ok S hv0 hPv.ab _ _).mono ?_
      rintro o h2 nx2 ⟨rfl, e2⟩
      have t2 := e2.n
      have q02 := e2.g nx (by omega)
      have q12 := e2.g k1 (by omega)
      have q22 := e2.g k2 (by omega)
      have q32 := e2.g k3 (by omega)
      simp [m0, x12, m2, g2, x13, m3, g3] at q02 q12 q22 q32
      simp [q22]
      refine fin' _ _ _ ?_ ?_ ?_ (by omega) ?_ ?_ ?_ ?_ (fun b hb o1 o2 o3 => ?_)
      · simp
      · simp
      · simp
      · simp [p0, q02]
      · simp [y12, q12]
      · simp
      · simp [x23, q32]
      · rw [T.get_set_ne _ _ _ _ o2, e2.g b (by omega), T.get_set_ne _ _ _ _ o1, get_lt hb]
  · intro s h h' ⟨g1, g2, g3⟩ hk
    exact ⟨by rw [hk k1 (.inl rfl)]; exact g1, by rw [hk k2 (.inr (.inl rfl))]; exact g2, by rw [hk k3 (.inr (.inr rfl))]; exact g3⟩
  · intro b hb
    rcases hb with rfl | rfl | rfl <;> omega
  · intro h; simp

theorem valid_ok {l : List AV} {v : V} (hv : IsV l v) (hs : Sane v) : Pur C n_values_Valid [.agg l] (fun o => ∃ e : Int, o = .ret (I e)) := by
  intro h nx
  obtain ⟨c, rfl, hK⟩ := hv.cells
  have hc' : ∀ n h, frzA n c h = (c, h) := IsK.stb hK
  have s1 := Key.toNat_succ nx
  have s2 := Key.toNat_succ nx.succ
  have s3 := Key.toNat_succ nx.succ.succ
  have s4 := Key.toNat_succ nx.succ.succ.succ
  refine S.valid.call ?_
  simp [values_Valid]
  simp [values_Valid_r0]
  simp [values_Valid_r1]
  simp [values_Valid_r2, S.e.raw, hc']
  refine (visit_ok S.e (seeVal_ok S (k1 := nx.succ) (k2 := nx.succ.succ) (k3 := nx.succ.succ.succ) (by omega) (by omega)) hv hs (0, true, true) _ _ (by omega) ⟨by simp, by simp, by simp⟩).mono ?_
  rintro o h1 nx1 ⟨rfl, ⟨p1, p2, p3⟩, f1⟩
  have t1 := f1.n
  generalize (walkF valF v (0, true, true)).2 = z at p1 p2 p3
  obtain ⟨n, good, small⟩ := z
  simp at p1 p2 p3
  have hE : Ext h nx h1 nx1 := ⟨by omega, fun b hb => by
    rw [f1.g b (by omega) (fun e => by rcases e with e | e | e <;> rw [e] at hb <;> omega)]
    rw [get_lt (by omega), get_lt (by omega), get_lt (by omega), get_lt (by omega), get_lt (by omega), get_lt (by omega), get_lt (by omega)]⟩
  cases good with
  | false => simp [values_Valid_r3, p2, values_Valid_r4]; exact hE
  | true =>
    cases small with
    | false => simp [values_Valid_r3, p2, p3, values_Valid_r5, values_Valid_r6]; exact hE
    | true =>
      by_cases hn : 1024 < n
      · simp [values_Valid_r3, p1, p2, p3, values_Valid_r5, values_Valid_r6, hn]; exact hE
      · simp [values_Valid_r3, p1, p2, p3, values_Valid_r5, values_Valid_r7, hn]; exact hE
end Tz
/-
  SV: the law's runs of expressions. No condition.
-/
namespace Tz
open Go.Sx Go
def RunOut (r : Res) (o : Out) : Prop := match r with
  | .ok v _ => ∃ l, IsV l v ∧ o = .ret (.tuple [.agg l, I 0])
  | .stop e _ => o = .ret (.tuple [.agg [I 0, I 0, .str 0 0, .nils], I e])
def envV (vs : List V) (i x : Int) : List (S × V) := [((1, 118), listV vs), ((1, 105), numV i), ((1, 120), numV x)]
theorem IsE.ready {l : List AV} {e : E} (h : IsE l e) : ∃ cn cb ck, l = [I e.k, SA e.name, I e.n, cn, cb, ck, I e.at_] ∧ Stb cn ∧ Stb cb ∧ Stb ck ∧ cn.isCell = true ∧ cb.isCell = true ∧ ck.isCell = true ∧ AV.beq cn cn = true ∧ AV.beq cb cb = true ∧ AV.beq ck ck = true := by
  obtain ⟨cn, cb, ck, rfl, hn, hb, hk, _⟩ := h.cells
  have hl := h.lits
  simp [AV.litsL, AV.lits] at hl
  have hst := h.stbs
  refine ⟨cn, cb, ck, rfl, hst cn (by simp), hst cb (by simp), hst ck (by simp), ?_, ?_, ?_, beq_refl _ hl.1, beq_refl _ hl.2.1, beq_refl _ hl.2.2⟩
  · rcases hn with ⟨rfl, _⟩ | rfl <;> rfl
  · rcases hb with ⟨rfl, _⟩ | ⟨_, rfl, _⟩ <;> rfl
  · rcases hk with ⟨rfl, _⟩ | ⟨_, rfl, _⟩ <;> rfl
variable {C : Cfg} (S : StdI C)
include S

theorem run_ok {a b : Nat} {le : List AV} {e : E} (hE : IsE le e) (h39 : e.k = 3 ∨ e.k = 9) (hp : ∀ h nx, C.sum n_parser_ParseExpr [.str a b] h nx = some (.tuple [.agg le, I 0, I 0], h, nx)) {c : AV} {vs : List V} (hc : IsK c vs) (hz : (listV vs).size ≤ 1073741824) (i x : Int) (h : T Blk) (nx : Key) :
    CallA C n_law12_run [.str a b, .agg [I 2, I 0, .str 0 0, c], I i, I x] h nx (fun o h' nx' => Fk h nx h' nx' ∧ RunOut (ev LP M0 5100 (0, 0) (scV vs i x) e st0) o) := by
  have hc' : ∀ n h, frzA n c h = (c, h) := IsK.stb hc
  have hcc := IsK.cell hc
  have hcq := IsK.beq hc
  have hE0 := hE
  obtain ⟨cn, cb, ck, hle, s1, s2, s3, i1, i2, i3, b1, b2, b3⟩ := IsE.ready hE
  subst hle
  have s1' : ∀ n h, frzA n cn h = (cn, h) := s1
  have s2' : ∀ n h, frzA n cb h = (cb, h) := s2
  have s3' : ∀ n h, frzA n ck h = (ck, h) := s3
  have u1 := Key.toNat_succ nx
  have u2 := Key.toNat_succ nx.succ
  have u3 := Key.toNat_succ nx.succ.succ
  have u4 := Key.toNat_succ nx.succ.succ.succ
  have u5 := Key.toNat_succ nx.succ.succ.succ.succ
  have u6 := Key.toNat_succ nx.succ.succ.succ.succ.succ
  refine S.run.call ?_
  simp [law12_run]
  simp [law12_run_r0]
  simp [law12_run_r1, S.e.raw]
  refine .inl ⟨_, _, _, hp _ _, ?_⟩
  simp [i1, i2, i3]
  simp [law12_run_r2]
  simp [law12_run_r4, S.e.raw, List.filter_cons, hcc, IsK.cells hc]
  refine (plenty_ok S _ _).mono ?_
  rintro o h1 nx1 ⟨rfl, e1⟩
  have t1 := e1.n
  have q0 := e1.g nx (by omega)
  have q1 := e1.g nx.succ (by omega)
  have q2 := e1.g nx.succ.succ (by omega)
  simp at q0 q1 q2
  have hfz : frzA 8 (.slice nx.succ.succ.succ 0 3 5) (T.set nx.succ.succ.succ (some (.cells [.str 1 118, I 2, I 0, .str 0 0, c, .str 1 105, I 0, I i, .str 0 0, .nils, .str 1 120, I 0, I x, .str 0 0, .nils] .fix)) h1)
      = (.sl [.str 1 118, I 2, I 0, .str 0 0, c, .str 1 105, I 0, I i, .str 0 0, .nils, .str 1 120, I 0, I x, .str 0 0, .nils] 3 5 .any, T.set nx.succ.succ.succ (some (.cells [.str 1 118, I 2, I 0, .str 0 0, c, .str 1 105, I 0, I i, .str 0 0, .nils, .str 1 120, I 0, I x, .str 0 0, .nils] .ro)) h1) := by
    rw [frz_fix (l := [.str 1 118, I 2, I 0, .str 0 0, c, .str 1 105, I 0, I i, .str 0 0, .nils, .str 1 120, I 0, I x, .str 0 0, .nils]) (by simp) rfl ?_, set_set]
    have j1 : ∀ n : Int, Stb (I n) := fun n k h => by cases k <;> rfl
    intro y hy
    simp at hy
    rcases hy with rfl | rfl | rfl | rfl | rfl | rfl | rfl | rfl | rfl | rfl | rfl | rfl | rfl | rfl | rfl
    all_goals first | exact j1 _ | exact stb_str _ _ | exact stb_nils | exact IsK.stb hc
  simp [q0, q1, q2, AV.beq, AV.beqs, SI.beq, hcq, b1, b2, b3, S.e.raw, hfz, s1', s2', s3', List.filter_cons]
  have henv : IsEnv (.sl [.str 1 118, I 2, I 0, .str 0 0, c, .str 1 105, I 0, I i, .str 0 0, .nils, .str 1 120, I 0, I x, .str 0 0, .nils] 3 5 .any) (envV vs i x) := by
    refine .inr ⟨_, rfl, by simp [envV], ⟨by simp [envV], fun k hk => ?_⟩⟩
    rcases k with _ | _ | _ | k
    · exact ⟨c, hc, by simp [envV, listV]⟩
    · exact ⟨.nils, .inl ⟨rfl, rfl⟩, by simp [envV, numV]⟩
    · exact ⟨.nils, .inl ⟨rfl, rfl⟩, by simp [envV, numV]⟩
    · simp [envV] at hk; omega
  have hcall := expr0_ok S.e (fu := 5000) (ro := 1000) (se := 0) (att := 0) (by omega) (by omega) (by omega) (by omega) (gas := 5100) (by omega) henv (by
    intro y hy
    simp [envV] at hy
    rcases hy with rfl | rfl | rfl
    · exact hz
    · simp [numV, V.size, V.sizes]
    · simp [numV, V.size, V.sizes]) hE0 h39 (T.set nx.succ.succ.succ (some (.cells [.str 1 118, I 2, I 0, .str 0 0, c, .str 1 105, I 0, I i, .str 0 0, .nils, .str 1 120, I 0, I x, .str 0 0, .nils] .ro)) h1) nx1
  have hrev : (envV vs i x).reverse = scV vs i x := rfl
  rw [hrev] at hcall
  refine hcall.mono ?_
  rintro o h2 nx2 ⟨f2, hO⟩
  have t2 := f2.n
  have hO : ResOut (ev LP M0 5100 (0, 0) (scV vs i x) e st0) o := hO
  have g8 := f2.g nx.succ (by omega) (by rw [get_lt (by omega), q1]; trivial)
  rw [get_lt (by omega), q1] at g8
  have hF : ∀ A B D G : Option Blk, Fk h nx (T.set nx.succ A (T.set nx.succ.succ.succ.succ.succ B (T.set nx.succ.succ.succ.succ D (T.set nx.succ.succ.succ.succ.succ G h2)))) nx2 := by
    intro A B D G
    refine ⟨by omega, fun bb hb hk => ?_⟩
    have hb1 : T.get bb h1 = T.get bb h := by
      rw [e1.g bb (by omega)]
      simp (disch := omega) only [get_lt (α := Blk)]
    rw [get_lt (by omega), get_lt (by omega), get_lt (by omega), get_lt (by omega), f2.g bb (by omega) (by rw [get_lt (by omega), hb1]; exact hk), get_lt (by omega), hb1]
  have w0 : ∀ u t, T.get nx.succ (T.set nx.succ.succ.succ.succ.succ u t) = T.get (α := Blk) nx.succ t := fun u t => get_lt (by omega)
  cases hres : ev LP M0 5100 (0, 0) (scV vs i x) e st0 with
  | stop ec st' =>
    rw [hres] at hO
    obtain ⟨cb3, hB, rfl⟩ := hO
    have hbf : ∀ n h, frzA n cb3 h = (cb3, h) := (IsBrs.stb S.e hB).1
    simp [List.filter_cons]
    simp [law12_run_r5, g8, hbf]
    exact ⟨hF _ _ _ _, rfl⟩
  | ok v st' =>
    rw [hres] at hO
    obtain ⟨lv, cb3, hv, hB, rfl⟩ := hO
    obtain ⟨c2, rfl, hK⟩ := hv.cells
    have hcc2 := IsK.cell hK
    have hcf2 : ∀ n h, frzA n c2 h = (c2, h) := IsK.stb hK
    have hbf : ∀ n h, frzA n cb3 h = (cb3, h) := (IsBrs.stb S.e hB).1
    simp [List.filter_cons, hcc2]
    simp [law12_run_r5, g8, hbf, hcf2, hcc2]
    exact ⟨hF _ _ _ _, _, hv, rfl⟩

theorem holds_ok {a b : Nat} {le : List AV} {e : E} (hE : IsE le e) (h39 : e.k = 3 ∨ e.k = 9) (hp : ∀ h nx, C.sum n_parser_ParseExpr [.str a b] h nx = some (.tuple [.agg le, I 0, I 0], h, nx)) {c : AV} {vs : List V} (hc : IsK c vs) (hz : (listV vs).size ≤ 1073741824) (i x : Int) {st : St}
    (ht : ev LP M0 5100 (0, 0) (scV vs i x) e st0 = .ok (boolV true) st) (h : T Blk) (nx : Key) :
    CallA C n_law12_holds [.str a b, .agg [I 2, I 0, .str 0 0, c], I i, I x] h nx (fun o h' nx' => Fk h nx h' nx' ∧ o = .ret (.bool true)) := by
  have hc' : ∀ n h, frzA n c h = (c, h) := IsK.stb hc
  have u1 := Key.toNat_succ nx
  refine S.holds.call ?_
  simp [law12_holds]
  simp [law12_holds_r0]
  simp [law12_holds_r1, S.e.raw, hc']
  refine (run_ok S hE h39 hp hc hz i x _ _).mono ?_
  rintro o h1 nx1 ⟨f1, hO⟩
  have t1 := f1.n
  rw [ht] at hO
  obtain ⟨l, hl, rfl⟩ := hO
  obtain ⟨c2, rfl, hK⟩ := hl.cells
  have hcc := IsK.cell hK
  have v1 := Key.toNat_succ nx1
  simp [hcc]
  simp [law12_holds_r2, boolV]
  refine ⟨by omega, fun bb hb hk => ?_⟩
  rw [get_lt (by omega), f1.g bb (by omega) (by rw [get_lt (by omega)]; exact hk), get_lt (by omega)]
end Tz
