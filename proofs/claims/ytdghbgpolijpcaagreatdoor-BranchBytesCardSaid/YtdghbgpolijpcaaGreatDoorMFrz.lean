/-
  SX: slices made fast. No condition.
-/
import Derived.Test.YtdghbgpolijpcaaGreatDoorMHeavy
import Derived.ChangeKeysEq
import Derived.Lib.ConvBytes
set_option linter.unusedSimpArgs false
set_option linter.unusedVariables false
set_option linter.unusedSectionVars false
namespace Go.Sx
open Go.RowKit

/- the same without continuations -/
noncomputable def frzLA (g : AV → T Blk → AV × T Blk) : List AV → T Blk → List AV × T Blk
  | [], h => ([], h)
  | v :: l, h => ((g v h).1 :: (frzLA g l (g v h).2).1, (frzLA g l (g v h).2).2)
noncomputable def frzSA (ih : AV → T Blk → AV × T Blk) (v : AV) (h : T Blk) : AV × T Blk :=
  match v with
  | .slice b off len sz => match T.get b h with
    | some (.cells l .fix) => if len * sz ≤ (l.drop off).length then (.sl (frzLA ih ((l.drop off).take (len * sz)) (T.set b (some (.cells l .ro)) h)).1 len sz .any, (frzLA ih ((l.drop off).take (len * sz)) (T.set b (some (.cells l .ro)) h)).2) else (v, h)
    | some (.cells l .ro) => if len * sz ≤ (l.drop off).length then (.sl (frzLA ih ((l.drop off).take (len * sz)) h).1 len sz .any, (frzLA ih ((l.drop off).take (len * sz)) h).2) else (v, h)
    | some (.cells l .part) => if len * sz ≤ (l.drop off).length then (.sl (frzLA ih ((l.drop off).take (len * sz)) (T.set b none h)).1 len sz .any, (frzLA ih ((l.drop off).take (len * sz)) (T.set b none h)).2) else (v, h)
    | _ => (v, h)
  | .sl l len sz _ => (.sl l len sz .any, h)
  | .agg cs => (.agg (frzLA ih cs h).1, (frzLA ih cs h).2)
  | v => (v, h)
noncomputable def frzA : Nat → AV → T Blk → AV × T Blk
  | 0, v, h => (v, h)
  | n + 1, v, h => frzSA (frzA n) v h

section
variable {R : Type}
theorem frzL_eq {g : AV → T Blk → (AV → T Blk → R) → R} {ga : AV → T Blk → AV × T Blk} (hg : ∀ v h c, g v h c = c (ga v h).1 (ga v h).2) : ∀ (l : List AV) (h : T Blk) (c : List AV → T Blk → R), frzL g l h c = c (frzLA ga l h).1 (frzLA ga l h).2
  | [], h, c => rfl
  | v :: l, h, c => by
    show g v h (fun v h => frzL g l h fun r h => c (v :: r) h) = _
    rw [hg, frzL_eq hg l]
    rfl
theorem frz_eq : ∀ (n : Nat) (v : AV) (h : T Blk) (c : AV → T Blk → R), frz n v h c = c (frzA n v h).1 (frzA n v h).2
  | 0, v, h, c => rfl
  | n + 1, v, h, c => by
    show frzS (frz n) v h c = _
    have hL := frzL_eq (R := R) (frz_eq n)
    cases v with
    | slice b off len sz =>
      simp only [frzA, frzSA, frzS]
      cases hb : T.get b h with
      | none => rfl
      | some B =>
        cases B with
        | cells l ck =>
          cases ck <;> simp only [takeC_eq, dropL_eq, T.setC_eq, hL] <;> split <;> rfl
        | _ => rfl
    | agg cs => simp only [frzA, frzSA, frzS, hL]
    | _ => rfl
end

section
variable {P : Program} {ρ : Nat → Int} {w0 : W0} {w : World} {nx : Key}

/- all that is related stays so -/
structure FrzTo (P : Program) (ρ : Nat → Int) (w0 : W0) (w : World) (nx : Key) (μ : Mu) (G : Key → Option Blk) (H : T Blk) (μ' : Mu) (G' : Key → Option Blk) (H' : T Blk) : Prop where
  le : μ.le μ'
  m : ∀ b, μ' b = μ b
  M : MRel P ρ w0 μ' G' nx.toNat w
  hs : HSub H' G'
  g : ∀ b, T.get b H = none → G' b = G b ∧ T.get b H' = none

theorem FrzTo.refl {μ : Mu} {G : Key → Option Blk} {H : T Blk} (hM : MRel P ρ w0 μ G nx.toNat w) (hH : HSub H G) : FrzTo P ρ w0 w nx μ G H μ G H := ⟨μ.le_refl, fun _ => rfl, hM, hH, fun _ h => ⟨rfl, h⟩⟩
theorem FrzTo.trans {μ μ1 μ2 : Mu} {G G1 G2 : Key → Option Blk} {H H1 H2 : T Blk} (a : FrzTo P ρ w0 w nx μ G H μ1 G1 H1) (b : FrzTo P ρ w0 w nx μ1 G1 H1 μ2 G2 H2) : FrzTo P ρ w0 w nx μ G H μ2 G2 H2 :=
  ⟨Mu.le_trans a.le b.le, fun k => (b.m k).trans (a.m k), b.M, b.hs, fun k hk => ⟨((b.g k (a.g k hk).2).1).trans (a.g k hk).1, (b.g k (a.g k hk).2).2⟩⟩
theorem FrzTo.kept {μ μ' : Mu} {G G' : Key → Option Blk} {H H' : T Blk} (h : FrzTo P ρ w0 w nx μ G H μ' G' H') : Kept H H' nx nx μ μ' G G' :=
  ⟨fun b hb _ => (h.g b hb).1, fun b _ => h.m b, fun b hb _ => (h.g b hb).2, Nat.le_refl _⟩

/- a row's cells are not written any more -/
def Mu.fast (μ : Mu) (c : Nat) (arr : Array Value) : Mu := ⟨μ.loc, fun c' i => match μ.fz c' i with | some v => some v | none => if c' = c then arr[i]? else none⟩

theorem fast_row {μ : Mu} {G : Key → Option Blk} {H : T Blk} (hM : MRel P ρ w0 μ G nx.toNat w) (hH : HSub H G) {b : Key} {L : List AV} {ck : CK} (hb : T.get b H = some (.cells L ck)) (X : Option Blk) (hX : X = none ∨ (X = some (.cells L .ro) ∧ ck ≠ .part)) :
    ∃ l arr elem f μ', μ b = some l ∧ w.heap[l.c]? = some (.cells arr elem f) ∧ FrzTo P ρ w0 w nx μ G H μ' (upd G b X) (T.set b X H) ∧ (∀ i v, arr[i]? = some v → μ'.fz l.c i = some v) ∧
      (∀ i a, L[i]? = some a → ∃ v, arr[l.base + i]? = some v ∧ VRel ρ μ' a v) ∧ l.base + l.ext ≤ arr.size ∧ L.length ≤ l.ext := by
  have hg := hH _ _ hb
  obtain ⟨l, arr, elem, f, h1, h2, hc, hs, hl, hf, he⟩ := hM.cells hg
  have hle : μ.le (μ.fast l.c arr) := by
    refine ⟨fun _ _ h => h, fun c i v h => ?_⟩
    show (match μ.fz c i with | some v => some v | none => if c = l.c then arr[i]? else none) = some v
    rw [h]
  have hold : ∀ i v, μ.fz l.c i = some v → arr[i]? = some v := by
    intro i v h
    obtain ⟨arr', elem', f', e1, e2⟩ := hM.fzw _ _ _ h
    rw [h2] at e1; cases e1
    exact e2
  have hfz : ∀ i v, arr[i]? = some v → (μ.fast l.c arr).fz l.c i = some v := by
    intro i v h
    show (match μ.fz l.c i with | some v => some v | none => if l.c = l.c then arr[i]? else none) = some v
    cases hz : μ.fz l.c i with
    | none => simp [h]
    | some u => have := hold i u hz; rw [h] at this; cases this; rfl
  refine ⟨l, arr, elem, f, μ.fast l.c arr, h1, h2, ⟨hle, fun _ => rfl, ?_, ?_, ?_⟩, hfz, fun i a ha => ?_, hs, hl⟩
  · refine ⟨?_, ?_, hM.bnd, ?_, hM.glob, hM.new, hM.below, ?_, ?_, fun c i v e => hle.f _ _ _ (hM.zle c i v e), ?_, ?_, hM.dr⟩
    · intro b' B' e
      by_cases hbb : b' = b
      · subst hbb
        rw [upd_same] at e
        rcases hX with rfl | ⟨rfl, hck⟩ <;> cases e
        exact ⟨l, _, h1, h2, .cells L .ro l arr elem f (fun i a ha => let ⟨v, hv, hr⟩ := hc i a ha; ⟨v, hv, hr.mono hle⟩) hs hl (fun h => absurd rfl h) (fun _ => he hck)⟩
      · rw [upd_ne _ _ hbb] at e
        obtain ⟨l', o', e1, e2, e3⟩ := hM.blk b' B' e
        exact ⟨l', o', e1, e2, e3.mono hle⟩
    · intro b1 b2 B1 B2 l1 l2 e1 e2 m1 m2 hne
      have : ∀ x B, upd G b X x = some B → ∃ B', G x = some B' := by
        intro x B e
        by_cases hbb : x = b
        · subst hbb; exact ⟨_, hg⟩
        · rw [upd_ne _ _ hbb] at e; exact ⟨_, e⟩
      obtain ⟨B1', e1'⟩ := this _ _ e1
      obtain ⟨B2', e2'⟩ := this _ _ e2
      exact hM.sep b1 b2 B1' B2' l1 l2 e1' e2' m1 m2 hne
    · intro b' B' l' e m
      by_cases hbb : b' = b
      · subst hbb; rw [upd_same] at e; rcases hX with rfl | ⟨rfl, hck⟩ <;> cases e; exact .inl trivial
      · rw [upd_ne _ _ hbb] at e; exact hM.own b' B' l' e m
    · intro c i v e
      have e2 : (match μ.fz c i with | some v => some v | none => if c = l.c then arr[i]? else none) = some v := e
      clear e
      cases hz : μ.fz c i with
      | some u => rw [hz] at e2; cases e2; exact hM.fzw _ _ _ hz
      | none =>
        rw [hz] at e2
        by_cases hcc : c = l.c
        · subst hcc; simp only [if_true] at e2; exact ⟨arr, elem, f, h2, e2⟩
        · simp only [hcc, if_false] at e2; cases e2
    · intro b' B' l' n e m hlo i hi
      by_cases hbb : b' = b
      · subst hbb; rw [upd_same] at e; rcases hX with rfl | ⟨rfl, hck⟩ <;> cases e; cases hlo
      · rw [upd_ne _ _ hbb] at e
        have hne : l'.c ≠ l.c := hM.sep b' b B' _ l' l e hg m h1 hbb
        have := hM.fzf b' B' l' n e m hlo i hi
        show (match μ.fz l'.c i with | some v => some v | none => if l'.c = l.c then arr[i]? else none) = none
        rw [this]; simp [hne]
    · intro c i v e
      have e2 : (match μ.fz c i with | some v => some v | none => if c = l.c then arr[i]? else none) = some v := e
      clear e
      cases hz : μ.fz c i with
      | some u => rw [hz] at e2; cases e2; exact hM.fzo c i v hz
      | none =>
        rw [hz] at e2
        by_cases hcc : c = l.c
        · subst hcc
          simp only [if_true] at e2
          cases ck with
          | fix => exact .inl ((hM.own b _ l hg h1).resolve_left (by simp [Blk.ro]))
          | part => exact .inl ((hM.own b _ l hg h1).resolve_left (by simp [Blk.ro]))
          | ro =>
            rcases hM.rof b L l hg h1 with h' | h'
            · exact .inl h'
            · have := h' arr elem f i v h2 e2
              rw [hz] at this; cases this
        · simp only [hcc, if_false] at e2; cases e2
    · intro b' L' l' e m
      by_cases hbb : b' = b
      · subst hbb
        have m : μ b' = some l' := m
        rw [h1] at m; cases m
        refine .inr fun arr' ee ff i v ha hv => ?_
        rw [h2] at ha; cases ha
        exact hfz i v hv
      · rw [upd_ne _ _ hbb] at e
        rcases hM.rof b' L' l' e m with h' | h'
        · exact .inl h'
        · exact .inr fun arr' ee ff i v ha hv => hle.f _ _ _ (h' arr' ee ff i v ha hv)
  · exact hH.set b _
  · intro b' hb'
    have hne : b' ≠ b := by intro e; subst e; rw [hb] at hb'; cases hb'
    exact ⟨upd_ne _ _ hne, by rw [T.get_set_ne _ _ _ _ hne]; exact hb'⟩
  · obtain ⟨v, hv, hr⟩ := hc i a ha
    exact ⟨v, hv, hr.mono hle⟩

def FrzOk (P : Program) (ρ : Nat → Int) (w0 : W0) (w : World) (nx : Key) (g : AV → T Blk → AV × T Blk) : Prop := ∀ (v : AV) (u : Value) (μ : Mu) (G : Key → Option Blk) (H : T Blk), MRel P ρ w0 μ G nx.toNat w → HSub H G → VRel ρ μ v u →
  ∃ μ' G', FrzTo P ρ w0 w nx μ G H μ' G' (g v H).2 ∧ VRel ρ μ' (g v H).1 u

theorem frzLA_sound {g : AV → T Blk → AV × T Blk} (hg : FrzOk P ρ w0 w nx g) : ∀ (l : List AV) (us : List Value) (μ : Mu) (G : Key → Option Blk) (H : T Blk), MRel P ρ w0 μ G nx.toNat w → HSub H G → VRels ρ μ l us →
    ∃ μ' G', FrzTo P ρ w0 w nx μ G H μ' G' (frzLA g l H).2 ∧ VRels ρ μ' (frzLA g l H).1 us
  | [], us, μ, G, H, hM, hH, h => by cases h; exact ⟨μ, G, FrzTo.refl hM hH, .nil⟩
  | v :: l, us, μ, G, H, hM, hH, h => by
    cases h with | cons _ _ u us h1 h2 =>
    obtain ⟨μ1, G1, f1, r1⟩ := hg v u μ G H hM hH h1
    obtain ⟨μ2, G2, f2, r2⟩ := frzLA_sound hg l us μ1 G1 _ f1.M f1.hs (h2.mono f1.le)
    exact ⟨μ2, G2, f1.trans f2, .cons _ _ _ _ (r1.mono f2.le) r2⟩

theorem frzSA_sound {ih : AV → T Blk → AV × T Blk} (hi : FrzOk P ρ w0 w nx ih) : FrzOk P ρ w0 w nx (frzSA ih) := by
  intro v u μ G H hM hH hv
  unfold frzSA
  split
  · rename_i b off len sz
    have go : ∀ (L : List AV) (ck : CK) (X : Option Blk), (X = none ∨ (X = some (.cells L .ro) ∧ ck ≠ .part)) → T.get b H = some (.cells L ck) → len * sz ≤ (L.drop off).length → ∃ μ1 G1 vs, FrzTo P ρ w0 w nx μ G H μ1 G1 (T.set b X H) ∧ VRels ρ μ1 ((L.drop off).take (len * sz)) vs ∧
        ∃ cap c o a, u = .slice (some a) len cap ∧ len ≤ cap ∧ (cap = 0 ∨ a = ⟨c, o, none⟩) ∧ (∀ i v, vs[i]? = some v → μ1.fz c (o + i) = some v) := by
      intro L ck X hX hb hle
      obtain ⟨l, arr, elem, f, μ', h1, h2, h3, h4, h5, h6, h7⟩ := fast_row hM hH hb X hX
      cases hv with | slice _ _ _ _ cap l' a hm hcap hlen ha =>
      rw [h1] at hm; cases hm
      by_cases h0 : len * sz = 0
      · refine ⟨μ', _, [], h3, by rw [h0]; simp; exact .nil, cap, l.c, l.base + off, a, rfl, hlen, ha, ?_⟩
        intro i v hv; simp at hv
      · refine ⟨μ', _, (arr.toList.drop (l.base + off)).take (len * sz), h3, cells_rel h5 (by omega) (by simp at hle; omega), cap, l.c, l.base + off, a, rfl, hlen, ha, ?_⟩
        intro i v hv
        have hi : i < len * sz := by
          rcases Nat.lt_or_ge i (len * sz) with h' | h'
          · exact h'
          · rw [List.getElem?_eq_none (by simp; omega)] at hv; cases hv
        rw [List.getElem?_take_of_lt hi, List.getElem?_drop] at hv
        exact h4 _ _ (by simpa using hv)
    have fin : ∀ (L : List AV) (ck : CK) (H1 : T Blk) (μ1 : Mu) (G1 : Key → Option Blk) (vs : List Value), len * sz ≤ (L.drop off).length → FrzTo P ρ w0 w nx μ G H μ1 G1 H1 → VRels ρ μ1 ((L.drop off).take (len * sz)) vs →
        (∃ cap c o a, u = .slice (some a) len cap ∧ len ≤ cap ∧ (cap = 0 ∨ a = ⟨c, o, none⟩) ∧ (∀ i v, vs[i]? = some v → μ1.fz c (o + i) = some v)) →
        ∃ μ' G', FrzTo P ρ w0 w nx μ G H μ' G' (frzLA ih ((L.drop off).take (len * sz)) H1).2 ∧ VRel ρ μ' (.sl (frzLA ih ((L.drop off).take (len * sz)) H1).1 len sz .any) u := by
      intro L ck H1 μ1 G1 vs hle f1 r1 hx
      obtain ⟨cap, c, o, a, rfl, hlen, ha, hf⟩ := hx
      obtain ⟨μ2, G2, f2, r2⟩ := frzLA_sound hi _ _ μ1 G1 H1 f1.M f1.hs r1
      refine ⟨μ2, G2, f1.trans f2, .sl _ len sz .any cap c o a vs r2 ?_ hlen ha (fun i v hv => f2.le.f _ _ _ (hf i v hv)) trivial⟩
      rw [r2.length, ← r1.length, List.length_take]
      omega
    split
    · rename_i L hb
      split
      · rename_i hle
        obtain ⟨μ1, G1, vs, f1, r1, hx⟩ := go L .fix _ (.inr ⟨rfl, by simp⟩) hb hle
        exact fin L .fix _ μ1 G1 vs hle f1 r1 hx
      · exact ⟨μ, G, FrzTo.refl hM hH, hv⟩
    · rename_i L hb
      split
      · rename_i hle
        obtain ⟨μ1, G1, vs, f1, r1, hx⟩ := go L .ro _ (.inr ⟨rfl, by simp⟩) hb hle
        -- the row was only read before: the heap stays as it was
        have f1' : FrzTo P ρ w0 w nx μ G H μ1 G1 H := ⟨f1.le, f1.m, f1.M, fun b' B' e => by
            refine f1.hs b' B' ?_
            by_cases hbb : b' = b
            · subst hbb; rw [hb] at e; cases e; rw [T.get_set_same]
            · rw [T.get_set_ne _ _ _ _ hbb]; exact e, fun b' hb' => ⟨(f1.g b' hb').1, hb'⟩⟩
        exact fin L .ro _ μ1 G1 vs hle f1' r1 hx
      · exact ⟨μ, G, FrzTo.refl hM hH, hv⟩
    · rename_i L hb
      split
      · rename_i hle
        obtain ⟨μ1, G1, vs, f1, r1, hx⟩ := go L .part none (.inl rfl) hb hle
        exact fin L .part _ μ1 G1 vs hle f1 r1 hx
      · exact ⟨μ, G, FrzTo.refl hM hH, hv⟩
    · exact ⟨μ, G, FrzTo.refl hM hH, hv⟩
  · rename_i l len sz fl
    cases hv with | sl _ _ _ _ cap c o a vs hr hn hl ha hf hg =>
    exact ⟨μ, G, FrzTo.refl hM hH, .sl _ _ _ _ cap c o a vs hr hn hl ha hf trivial⟩
  · rename_i cs
    cases hv with | agg _ vs hr =>
    obtain ⟨μ1, G1, f1, r1⟩ := frzLA_sound hi _ _ μ G H hM hH hr
    exact ⟨μ1, G1, f1, .agg _ _ r1⟩
  · exact ⟨μ, G, FrzTo.refl hM hH, hv⟩

theorem frzA_sound : ∀ (n : Nat), FrzOk P ρ w0 w nx (frzA n)
  | 0 => fun v u μ G H hM hH hv => ⟨μ, G, FrzTo.refl hM hH, hv⟩
  | n + 1 => frzSA_sound (frzA_sound n)

/- cells stay cells -/
theorem frzLA_length (g : AV → T Blk → AV × T Blk) : ∀ (l : List AV) (H : T Blk), (frzLA g l H).1.length = l.length
  | [], H => rfl
  | v :: l, H => by simp [frzLA, frzLA_length g l]
end
end Go.Sx
/-
  SX: append. No condition.
-/
namespace Go.Sx
open Go.RowKit

theorem growBy_le (newLen : Nat) : ∀ (r c : Nat), c < newLen → Builtin.growBy newLen r c ≤ newLen + (newLen + 768) / 4
  | 0, c, h => by simp [Builtin.growBy]; omega
  | r + 1, c, h => by
    simp only [Builtin.growBy]
    rw [if_neg (by omega)]
    by_cases h' : c + (c + 768) / 4 < newLen
    · exact growBy_le newLen r _ h'
    · have : Builtin.growBy newLen r (c + (c + 768) / 4) = c + (c + 768) / 4 := by
        cases r with
        | zero => rfl
        | succ r => simp only [Builtin.growBy]; rw [if_pos (by omega)]
      rw [this]
      omega
theorem nextcap_le {newLen cap : Nat} (h : cap < newLen) : Builtin.nextslicecap newLen cap ≤ 2 * newLen + 1000 := by
  unfold Builtin.nextslicecap
  split
  · omega
  · split
    · omega
    · have := growBy_le newLen 4 cap h
      omega

section
variable {P : Program} {ρ : Nat → Int} {w0 : W0} {w : World} {μ : Mu} {G : Key → Option Blk} {nx : Key} {orc : Orc} {nt : Nat} {tm : T AV} {H : T Blk} {ev : Operand → Value}

structure AppT (P : Program) (t u e : TypeId) (i : TypeInfo) (z : Value) : Prop where
  ht : P.underlying t = some (.slice e)
  hu : (∃ e', P.underlying u = some (.slice e')) ∨ P.underlying u = some .string
  hi : P.info? e = some i
  hz : i.zero = some z
  pos : 0 < i.size
  zs : z.cells.size = i.size
  by_ : i.bytes ≤ 65536

theorem run_append_in {t u e : TypeId} {i : TypeInfo} {z : Value} (hT : AppT P t u e i z) (ty : TypeId) {base : Option Addr} {sLen sCap n : Nat} {x : Value} {us : Array Value} (hn : (Builtin.lenOf x).run P w = .ok n w)
    (hle : sLen + n ≤ sCap) (hc : (Builtin.firstCells i.size n x).run P w = .ok us w) :
    (Builtin.append_ #[t, u] ty #[.slice base sLen sCap, x]).run P w =
      (match base with | some a => (storeCells (a.add (sLen * i.size)) us.toList).run P w | none => .ok () w).andThen fun _ w' => .ok (.slice base (sLen + n) sCap) w' := by
  rcases hT.hu with ⟨e', h⟩ | h
  all_goals
    simp only [Builtin.append_, List.getElem?_toArray, List.getElem?_cons_zero, List.getElem?_cons_succ, Sem.run_bind, run_underlyingS hT.ht, Result.andThen_ok, run_sizeOfS hT.hi, run_underlyingS h, Sem.run_pure, Bool.false_eq_true, if_false, hn, hle, if_true, Bool.not_false, hc]
    cases base <;> simp

theorem run_append_grow {t u e : TypeId} {i : TypeInfo} {z : Value} (hT : AppT P t u e i z) (ty : TypeId) {base : Option Addr} {sLen sCap n : Nat} {x : Value} {us os : Array Value} (hn : (Builtin.lenOf x).run P w = .ok n w)
    (hgt : sCap < sLen + n) (hsm : sLen + n ≤ 1048576) (hc : ∀ d, (Builtin.firstCells i.size n x).run P { w with drawn := d } = .ok us { w with drawn := d })
    (ho : ∀ d, (Builtin.firstCells i.size sLen (.slice base sLen sCap)).run P { w with drawn := d } = .ok os { w with drawn := d }) :
    ∃ cap, sLen + n ≤ cap ∧ (Builtin.append_ #[t, u] ty #[.slice base sLen sCap, x]).run P w =
      .ok (.slice (some ⟨w.heap.size, 0, none⟩) (sLen + n) cap) ({ w with drawn := w.drawn + 1 }.alloc (.cells (os ++ us ++ Builtin.zeroCells z.cells (cap - (sLen + n))) e)) := by
  refine ⟨(sLen + n) + w.tape w.drawn (.appendCap (sLen + n) sCap e) % (2 ^ 63 - (sLen + n)), by omega, ?_⟩
  have h1 : ¬ (sLen + n ≤ sCap) := by omega
  have h2 : ¬ (((sLen + n : Nat) : Int) > IntKind.i64.max ∧ (False ∨ i.bytes = 0)) := by
    have : IntKind.i64.max = 9223372036854775807 := by decide
    rw [this]
    omega
  have h3 : ¬ (Builtin.nextslicecap (sLen + n) sCap * i.bytes > 2 ^ 48) := by
    have a := nextcap_le hgt
    have : Builtin.nextslicecap (sLen + n) sCap * i.bytes ≤ 2098152 * 65536 := Nat.mul_le_mul (by omega) hT.by_
    omega
  have hch : (choose (.appendCap (sLen + n) sCap e)).run P w = .ok ((sLen + n) + w.tape w.drawn (.appendCap (sLen + n) sCap e) % (2 ^ 63 - (sLen + n))) { w with drawn := w.drawn + 1 } := by
    simp [Question.forced, Question.cut]
  have ho' := ho (w.drawn + 1)
  have hc' := hc (w.drawn + 1)
  rcases hT.hu with ⟨e', h⟩ | h
  all_goals
    simp only [Builtin.append_, List.getElem?_toArray, List.getElem?_cons_zero, List.getElem?_cons_succ, Sem.run_bind, run_underlyingS hT.ht, Result.andThen_ok, run_sizeOfS hT.hi, run_underlyingS h, Sem.run_pure, Bool.false_eq_true, if_false, hn, h1, Bool.not_false, run_typeInfoS hT.hi]
    rw [if_neg h2]
    simp only [Sem.run_bind, run_typeInfoS hT.hi, Result.andThen_ok]
    rw [if_neg h3]
    simp only [Sem.run_bind, hch, Result.andThen_ok, run_typeInfoS hT.hi, run_askRoom, ho', if_true, hc', run_zeroS hT.hi hT.hz, run_newRowS, Sem.run_pure]

/- what is appended -/
structure AppSrc (P : Program) (ρ : Nat → Int) (μ : Mu) (w : World) (sz : Nat) (x : Value) (new : List AV) (m : Nat) (us : Array Value) : Prop where
  hn : (Builtin.lenOf x).run P w = .ok m w
  hc : ∀ d, (Builtin.firstCells sz m x).run P { w with drawn := d } = .ok us { w with drawn := d }
  hr : VRels ρ μ new us.toList
  hl : new.length = m * sz

theorem AppSrc.now {sz : Nat} {x : Value} {new : List AV} {m : Nat} {us : Array Value} (h : AppSrc P ρ μ w sz x new m us) : (Builtin.firstCells sz m x).run P w = .ok us w := h.hc w.drawn

theorem zeroCells_size (z : Array Value) (n : Nat) : (Builtin.zeroCells z n).size = n * z.size := by simp [Builtin.zeroCells]

/- a row whose cells below 'base' are not written any more, with a mark at its end -/
def Mu.mark (μ : Mu) (k : Key) (c base ext : Nat) (arr : Array Value) : Mu := ⟨upd μ.loc k (some ⟨c, base, ext⟩), fun c' i => match μ.fz c' i with | some v => some v | none => if c' = c ∧ i < base then arr[i]? else none⟩
theorem Mu.mark_same (μ : Mu) (k : Key) (c base ext : Nat) (arr : Array Value) : (μ.mark k c base ext arr) k = some ⟨c, base, ext⟩ := upd_same _ _ _
theorem Mu.mark_ne (μ : Mu) {k b : Key} (c base ext : Nat) (arr : Array Value) (h : b ≠ k) : (μ.mark k c base ext arr) b = μ b := upd_ne _ _ h

theorem MRel.mark {w' : World} {n n' : Nat} (h : MRel P ρ w0 μ G n w) (k : Key) (c base ext : Nat) {arr : Array Value} {elem : TypeId} (hk : μ k = none) (hw : Touch w w' c) (ho : w'.heap[c]? = some (.cells arr elem (0, 0)))
    (hs : base + ext ≤ arr.size) (hfree : ∀ b B' l', G b = some B' → μ b = some l' → l'.c ≠ c) (hold : ∀ i v, μ.fz c i = some v → arr[i]? = some v ∧ i < base) (hown : w0.heap.size ≤ c) (hn : n ≤ n') (hkn : k.toNat < n') :
    μ.le (μ.mark k c base ext arr) ∧ MRel P ρ w0 (μ.mark k c base ext arr) (upd G k (some .tok)) n' w' ∧ (∀ i v, i < base → arr[i]? = some v → (μ.mark k c base ext arr).fz c i = some v) := by
  have hfzv : ∀ c' i, (μ.mark k c base ext arr).fz c' i = (match μ.fz c' i with | some v => some v | none => if c' = c ∧ i < base then arr[i]? else none) := fun _ _ => rfl
  have hle : μ.le (μ.mark k c base ext arr) := by
    refine ⟨fun b l e => ?_, fun c' i v e => by rw [hfzv, e]⟩
    by_cases hb : b = k
    · subst hb; rw [hk] at e; cases e
    · rw [Mu.mark_ne _ _ _ _ _ hb]; exact e
  have hlc : c < w'.heap.size := by
    rcases Nat.lt_or_ge c w'.heap.size with h' | h'
    · exact h'
    · rw [Array.getElem?_eq_none h'] at ho; cases ho
  refine ⟨hle, ⟨?_, ?_, ?_, ?_, ?_, ?_, hw.below h.below h.below.size hown, ?_, ?_, fun c' i v e => hle.f _ _ _ (h.zle c' i v e), ?_, ?_, Nat.le_trans h.dr hw.dr⟩, ?_⟩
  · intro b B' e
    by_cases hb : b = k
    · subst hb
      rw [upd_same] at e
      cases e
      exact ⟨_, _, Mu.mark_same _ _ _ _ _ _, ho, .tok _ arr elem hs⟩
    · rw [upd_ne _ _ hb] at e
      obtain ⟨l', o', h1, h2, h3⟩ := h.blk b B' e
      refine ⟨l', o', by rw [Mu.mark_ne _ _ _ _ _ hb]; exact h1, ?_, h3.mono hle⟩
      rw [hw.other l'.c (hfree b B' l' e h1) (h.bnd b l' h1)]
      exact h2
  · intro b b' B1 B2 l1 l2 e1 e2 m1 m2 hne
    by_cases hb : b = k
    · subst hb
      rw [Mu.mark_same] at m1; cases m1
      have hb' : b' ≠ b := fun e => hne e.symm
      rw [upd_ne _ _ hb'] at e2
      rw [Mu.mark_ne _ _ _ _ _ hb'] at m2
      exact fun e => hfree b' B2 l2 e2 m2 e.symm
    · rw [upd_ne _ _ hb] at e1
      rw [Mu.mark_ne _ _ _ _ _ hb] at m1
      by_cases hb' : b' = k
      · subst hb'
        rw [Mu.mark_same] at m2; cases m2
        exact hfree b B1 l1 e1 m1
      · rw [upd_ne _ _ hb'] at e2
        rw [Mu.mark_ne _ _ _ _ _ hb'] at m2
        exact h.sep b b' B1 B2 l1 l2 e1 e2 m1 m2 hne
  · intro b l' e
    by_cases hb : b = k
    · subst hb; rw [Mu.mark_same] at e; cases e; exact hlc
    · rw [Mu.mark_ne _ _ _ _ _ hb] at e; exact Nat.lt_of_lt_of_le (h.bnd b l' e) hw.size
  · intro b B' l' e m
    by_cases hb : b = k
    · subst hb; rw [Mu.mark_same] at m; cases m; exact .inr hown
    · rw [upd_ne _ _ hb] at e; rw [Mu.mark_ne _ _ _ _ _ hb] at m; exact h.own b B' l' e m
  · intro b hb
    obtain ⟨ext, he⟩ := h.glob b hb
    exact ⟨ext, hle.l _ _ he⟩
  · intro b l' e
    by_cases hb : b = k
    · subst hb; exact hkn
    · rw [Mu.mark_ne _ _ _ _ _ hb] at e; exact Nat.lt_of_lt_of_le (h.new b l' e) hn
  · intro c' i v e
    rw [hfzv] at e
    cases hz : μ.fz c' i with
    | some u =>
      rw [hz] at e; cases e
      by_cases hc : c' = c
      · subst hc; exact ⟨arr, elem, (0, 0), ho, (hold i v hz).1⟩
      · obtain ⟨arr', elem', f', h1, h2⟩ := h.fzw c' i v hz
        have hlt : c' < w.heap.size := by
          rcases Nat.lt_or_ge c' w.heap.size with h' | h'
          · exact h'
          · rw [Array.getElem?_eq_none h'] at h1; cases h1
        exact ⟨arr', elem', f', by rw [hw.other c' hc hlt]; exact h1, h2⟩
    | none =>
      rw [hz] at e
      simp only at e
      by_cases hc : c' = c ∧ i < base
      · rw [if_pos hc] at e; rw [hc.1]; exact ⟨arr, elem, (0, 0), ho, e⟩
      · rw [if_neg hc] at e; cases e
  · intro b B' l' n e m hlo i hi
    rw [hfzv]
    by_cases hb : b = k
    · subst hb
      rw [upd_same] at e; cases e
      rw [Mu.mark_same] at m; cases m
      simp only [Blk.lo, Option.some.injEq] at hlo; subst hlo
      cases hz : μ.fz c i with
      | some u => exact absurd (hold i u hz).2 (by show ¬ i < base; exact Nat.not_lt.2 hi)
      | none =>
        have : ¬ (c = c ∧ i < base) := fun h => absurd h.2 (Nat.not_lt.2 hi)
        show (if c = c ∧ i < base then arr[i]? else none) = none
        rw [if_neg this]
    · rw [upd_ne _ _ hb] at e; rw [Mu.mark_ne _ _ _ _ _ hb] at m
      have hne := hfree b B' l' e m
      rw [h.fzf b B' l' n e m hlo i hi]
      simp [hne]
  · intro c' i v e
    rw [hfzv] at e
    cases hz : μ.fz c' i with
    | some u => rw [hz] at e; cases e; exact h.fzo c' i v hz
    | none =>
      rw [hz] at e
      simp only at e
      by_cases hc : c' = c ∧ i < base
      · rw [hc.1]; exact .inl hown
      · rw [if_neg hc] at e; cases e
  · intro b L l' e m
    by_cases hb : b = k
    · subst hb; rw [Mu.mark_same] at m; cases m; exact .inl hown
    · rw [upd_ne _ _ hb] at e; rw [Mu.mark_ne _ _ _ _ _ hb] at m
      rcases h.rof b L l' e m with h1 | h1
      · exact .inl h1
      · refine .inr fun arr' ee f i v ha hv => hle.f _ _ _ (h1 arr' ee f i v ?_ hv)
        rw [← hw.other l'.c (hfree b _ l' e m) (h.bnd b l' m)]; exact ha
  · intro i v hi hv
    rw [hfzv]
    cases hz : μ.fz c i with
    | some u => have := (hold i u hz).1; rw [hv] at this; cases this; rfl
    | none => simp [hi, hv]

theorem keeps_mark (c base ext : Nat) (arr : Array Value) (B B' : Option Blk) : Kept H (T.set nx B' H) nx nx.succ μ (μ.mark nx c base ext arr) G (upd G nx B) := by
  have hs := Key.toNat_succ nx
  exact ⟨fun b _ hl => upd_ne _ _ (ne_of_lt hl), fun b hl => Mu.mark_ne _ _ _ _ _ (ne_of_lt hl), fun b hb hl => by rw [T.get_set_ne _ _ _ _ (ne_of_lt hl)]; exact hb, by omega⟩

/- a new row, behind a draw -/
theorem made_tok (hM : MRel P ρ w0 μ G nx.toNat w) {t u e : TypeId} {i : TypeInfo} {z : Value} (hT : AppT P t u e i z) {L : List AV} {vs : Array Value} (hL : VRels ρ μ L vs.toList) {len cap : Nat} (hlen : vs.size = len * i.size) (hcap : len ≤ cap) :
    ∃ μ', μ.le μ' ∧ MRel P ρ w0 μ' (upd G nx (some .tok)) nx.succ.toNat ({ w with drawn := w.drawn + 1 }.alloc (.cells (vs ++ Builtin.zeroCells z.cells (cap - len)) e)) ∧
      VRel ρ μ' (.sl L len i.size (.tok nx)) (.slice (some ⟨w.heap.size, 0, none⟩) len cap) ∧ (∀ (B B' : Option Blk) (H : T Blk) (G : Key → Option Blk), Kept H (T.set nx B' H) nx nx.succ μ μ' G (upd G nx B)) := by
  have hs := Key.toNat_succ nx
  have hk := hM.nx_none
  have hzs : (Builtin.zeroCells z.cells (cap - len)).size = (cap - len) * i.size := by rw [zeroCells_size, hT.zs]
  obtain ⟨h1, h2, h3⟩ := (hM.drawn (w.drawn + 1) (Nat.le_succ _)).mark (w' := { w with drawn := w.drawn + 1 }.alloc (.cells (vs ++ Builtin.zeroCells z.cells (cap - len)) e)) nx w.heap.size (len * i.size) ((cap - len) * i.size) (arr := vs ++ Builtin.zeroCells z.cells (cap - len)) (elem := e) hk
    (Touch.alloc _ _) (by show (w.heap.push _)[w.heap.size]? = _; simp) (by rw [Array.size_append, hzs, hlen]; exact Nat.le_refl _)
    (fun b B' l' _ m => Nat.ne_of_lt (hM.bnd b l' m)) (fun j v hv => by rw [hM.fz_new j] at hv; cases hv) hM.below.size (n' := nx.succ.toNat) (by omega) (by omega)
  refine ⟨_, h1, h2, ?_, fun B B' H G => keeps_mark _ _ _ _ B B'⟩
  refine .sl L len i.size _ cap w.heap.size 0 _ vs.toList (hL.mono h1) ?_ hcap (.inr rfl) ?_ ?_
  · rw [hL.length]; simpa using hlen
  · intro j v hv
    have hj : j < vs.size := by
      rcases Nat.lt_or_ge j vs.size with h' | h'
      · exact h'
      · rw [List.getElem?_eq_none (by simpa using h')] at hv; cases hv
    rw [Nat.zero_add]
    refine h3 j v (by omega) ?_
    rw [Array.getElem?_append_left hj]
    simpa using hv
  · show _ = some (⟨w.heap.size, 0 + len * i.size, (cap - len) * i.size⟩ : Loc)
    rw [Nat.zero_add]
    exact Mu.mark_same _ _ _ _ _ _

/- a new row that may be written, behind a draw -/
theorem made_part (hM : MRel P ρ w0 μ G nx.toNat w) {t u e : TypeId} {i : TypeInfo} {z : Value} (hT : AppT P t u e i z) {L : List AV} {vs : Array Value} (hL : VRels ρ μ L vs.toList) {len cap : Nat} (hlen : vs.size = len * i.size) (hcap : len ≤ cap) :
    ∃ μ', μ.le μ' ∧ MRel P ρ w0 μ' (upd G nx (some (.cells L .part))) nx.succ.toNat ({ w with drawn := w.drawn + 1 }.alloc (.cells (vs ++ Builtin.zeroCells z.cells (cap - len)) e)) ∧
      VRel ρ μ' (.slice nx 0 len i.size) (.slice (some ⟨w.heap.size, 0, none⟩) len cap) ∧ (∀ (B B' : Option Blk) (H : T Blk) (G : Key → Option Blk), Kept H (T.set nx B' H) nx nx.succ μ μ' G (upd G nx B)) := by
  have hs := Key.toNat_succ nx
  have hk := hM.nx_none
  have hzs : (Builtin.zeroCells z.cells (cap - len)).size = (cap - len) * i.size := by rw [zeroCells_size, hT.zs]
  have hsz : (vs ++ Builtin.zeroCells z.cells (cap - len)).size = cap * i.size := by
    rw [Array.size_append, hzs, hlen, ← Nat.add_mul]; congr 1; omega
  have hLl : L.length = len * i.size := by rw [hL.length]; simpa using hlen
  have hll : len * i.size ≤ cap * i.size := Nat.mul_le_mul_right _ hcap
  have hle : μ.le (μ.put nx ⟨w.heap.size, 0, cap * i.size⟩) := Mu.le_put (.inl hk)
  have hb : BRel P ρ (μ.put nx ⟨w.heap.size, 0, cap * i.size⟩) (.cells L .part) ⟨w.heap.size, 0, cap * i.size⟩ (.cells (vs ++ Builtin.zeroCells z.cells (cap - len)) e (0, 0)) := by
    refine .cells L .part _ _ e (0, 0) ?_ (by rw [hsz]; simp) (by show L.length ≤ cap * i.size; omega) (fun _ => rfl) (fun h => absurd rfl h)
    intro j a ha
    obtain ⟨v, hv, hr⟩ := hL.get j a ha
    refine ⟨v, ?_, hr.mono hle⟩
    have hj : j < vs.size := by
      rcases Nat.lt_or_ge j vs.size with h' | h'
      · exact h'
      · rw [List.getElem?_eq_none (by simpa using h')] at hv; cases hv
    show (vs ++ _)[0 + j]? = some v
    rw [Nat.zero_add, Array.getElem?_append_left hj]
    simpa using hv
  obtain ⟨g1, g2⟩ := (hM.drawn (w.drawn + 1) (Nat.le_succ _)).alloc nx (.cells L .part) (.cells (vs ++ Builtin.zeroCells z.cells (cap - len)) e) (cap * i.size) hk hb (nx' := nx.succ.toNat) (by omega) (by omega)
  refine ⟨_, g1, g2, ?_, fun B B' H G => keeps_set _ _ _⟩
  exact .slice nx 0 len i.size cap _ _ (Mu.put_same _ _ _) (by simp) hcap (.inr (by simp))

theorem appendTo_sound (hM : MRel P ρ w0 μ G nx.toNat w) (hH : HSub H G) {t u e : TypeId} {i : TypeInfo} {z : Value} (hT : AppT P t u e i z) (ty : TypeId) {s : AV} {sv xv : Value} (hs : VRel ρ μ s sv) {new : List AV} {m : Nat} {us : Array Value}
    (hx : AppSrc P ρ μ w i.size xv new m us) {a : AV} {H' : T Blk} {nx' : Key} (h : appendTo i.size s new m H nx = .val a H' nx') :
    ∃ v w' μ' G', (Builtin.append_ #[t, u] ty #[sv, xv]).run P w = .ok v w' ∧ VRel ρ μ' a v ∧ μ.le μ' ∧ MRel P ρ w0 μ' G' nx'.toNat w' ∧ HSub H' G' ∧ Kept H H' nx nx' μ μ' G G' := by
  have hss := Key.toNat_succ nx
  have husz : us.size = m * i.size := by have := hx.hr.length; rw [hx.hl] at this; simpa using this.symm
  have hpos := hT.pos
  unfold appendTo at h
  split at h
  · -- nothing there
    cases hs
    cases hm0 : Nat.beq m 0 with
    | true =>
      rw [hm0] at h
      simp only [cond_true, OR.val.injEq] at h
      obtain ⟨rfl, rfl, rfl⟩ := h
      have hm := Nat.eq_of_beq_eq_true hm0
      subst hm
      refine ⟨.slice none 0 0, w, μ, G, ?_, .nils, μ.le_refl, hM, hH, Kept.refl _ _ _ _⟩
      rw [run_append_in hT ty (base := none) (sLen := 0) (sCap := 0) hx.hn (Nat.le_refl _) hx.now]
      rfl
    | false =>
      rw [hm0] at h
      simp only [cond_false] at h
      have hmne : m ≠ 0 := by intro e; subst e; cases hm0
      cases hms : Nat.ble m 1048576 with
      | false => rw [hms] at h; cases h
      | true =>
        rw [hms] at h
        rw [Nat.ble_eq] at hms
        simp only [cond_true, T.setC_eq, OR.val.injEq] at h
        obtain ⟨rfl, rfl, rfl⟩ := h
        obtain ⟨cap, hcap, hrun⟩ := run_append_grow (P := P) (w := w) hT ty (base := none) (sLen := 0) (sCap := 0) (os := #[]) hx.hn (by omega) (by omega) hx.hc (by intro d; rfl)
        simp only [Nat.zero_add] at hcap hrun
        obtain ⟨μ', g1, g2, g3, g4⟩ := made_part hM hT hx.hr husz hcap
        refine ⟨_, _, _, _, hrun, g3, g1, ?_, hH.set nx _, g4 _ _ _ _⟩
        have : (#[] : Array Value) ++ us = us := by simp
        rw [this]
        exact g2
  · -- a row that is not written any more
    rename_i L len sz' fl
    cases hm0 : Nat.beq m 0 with
    | true =>
      rw [hm0] at h
      simp only [cond_true, OR.val.injEq] at h
      obtain ⟨rfl, rfl, rfl⟩ := h
      have hm := Nat.eq_of_beq_eq_true hm0
      subst hm
      have hus : us = #[] := by apply Array.eq_empty_of_size_eq_zero; simpa using husz
      subst hus
      have hs0 := hs
      cases hs with | sl _ _ _ _ cap c o ad vs hrel hn hle had hf hg =>
      refine ⟨.slice (some ad) len cap, w, μ, G, ?_, hs0, μ.le_refl, hM, hH, Kept.refl _ _ _ _⟩
      rw [run_append_in hT ty (base := some ad) (sLen := len) (sCap := cap) hx.hn (by omega) hx.now]
      simp [storeCells]
    | false =>
      rw [hm0] at h
      simp only [cond_false] at h
      have hmne : m ≠ 0 := by intro e; subst e; cases hm0
      cases hc0 : (Nat.beq i.size sz' && Nat.ble (len + m) 1048576 && new.all AV.isCell) with
      | false => rw [hc0] at h; cases h
      | true =>
        rw [hc0] at h
        simp only [cond_true] at h
        simp only [Bool.and_eq_true, Nat.ble_eq] at hc0
        obtain ⟨⟨hsz', hsm⟩, hcells⟩ := hc0
        have hsz' := Nat.eq_of_beq_eq_true hsz'
        subst hsz'
        split at h
        · cases h
        · rename_i b
          split at h
          · rename_i htok
            simp only [appC_eq, T.setC_eq, OR.val.injEq] at h
            obtain ⟨rfl, rfl, rfl⟩ := h
            cases hs with | sl _ _ _ _ cap c o ad vs hrel hn hle had hf hg =>
            have hg : μ b = some ⟨c, o + len * i.size, (cap - len) * i.size⟩ := hg
            have hgb := hH _ _ htok
            have hvl := hrel.length
            obtain ⟨lb, ob, q1, q2, q3⟩ := hM.blk b _ hgb
            rw [hg] at q1; cases q1
            cases q3 with | tok _ arr elem hsb =>
            have hsb : o + len * i.size + (cap - len) * i.size ≤ arr.size := hsb
            have q2 : w.heap[c]? = some (.cells arr elem (0, 0)) := q2
            have hM1 : MRel P ρ w0 μ (upd G b none) nx.toNat w := hM.sub (fun b' B' e' => by
              by_cases hb : b' = b
              · subst hb; rw [upd_same] at e'; cases e'
              · rw [upd_ne _ _ hb] at e'; exact e')
            have ne : ∀ b', T.get b' H = none → b' ≠ b := fun b' h0 e0 => by rw [e0, htok] at h0; cases h0
            have hkeep : ∀ (μ' : Mu) x y, (∀ b' : Key, b'.toNat < nx.toNat → μ' b' = μ b') → Kept H (T.set nx y (T.set b none H)) nx nx.succ μ μ' G (upd (upd G b none) nx x) := by
              intro μ' x y hmu
              exact ⟨fun b' hb' hlt => by rw [upd_ne _ _ (ne_of_lt hlt), upd_ne _ _ (ne b' hb')], hmu,
                fun b' hb' hlt => by rw [T.get_set_ne _ _ _ _ (ne_of_lt hlt), T.get_set_ne _ _ _ _ (ne b' hb')]; exact hb', by omega⟩
            have hvals : VRels ρ μ (L ++ new) (vs ++ us.toList) := hrel.append hx.hr
            by_cases hlm : len + m ≤ cap
            · -- in place, behind its end
              have had : ad = ⟨c, o, none⟩ := had.resolve_left (by omega)
              subst had
              have hus1 := oneCell_of hx.hr hcells
              have hext : (cap - len) * i.size = cap * i.size - len * i.size := Nat.mul_sub_right_distrib _ _ _
              have hmul : (len + m) * i.size ≤ cap * i.size := Nat.mul_le_mul_right _ hlm
              have hadd : (len + m) * i.size = len * i.size + m * i.size := Nat.add_mul _ _ _
              have hlc : len * i.size ≤ cap * i.size := Nat.mul_le_mul_right _ hle
              obtain ⟨w', e1, e2, e3, e4⟩ := storeCells_run P c (o + len * i.size) elem us.toList 0 w arr q2 (by simp [husz]; omega) hus1
              have hown : w0.heap.size ≤ c := (hM.own b _ _ hgb hg).resolve_left (by simp [Blk.ro])
              have hfold : ∀ j v, μ.fz c j = some v → arr[j]? = some v ∧ j < o + len * i.size := by
                intro j v hj
                constructor
                · obtain ⟨arr', elem', f', x1, x2⟩ := hM.fzw _ _ _ hj
                  rw [q2] at x1; cases x1; exact x2
                · rcases Nat.lt_or_ge j (o + len * i.size) with h' | h'
                  · exact h'
                  · have := hM.fzf b _ _ (o + len * i.size) hgb hg rfl j h'
                    rw [this] at hj; cases hj
              have hext2 : (cap - (len + m)) * i.size = cap * i.size - (len + m) * i.size := Nat.mul_sub_right_distrib _ _ _
              obtain ⟨g1, g2, g3⟩ := hM1.mark (w' := w') nx c (o + (len + m) * i.size) ((cap - (len + m)) * i.size) hM.nx_none e2 e4 (by rw [setRange_size]; omega)
                (fun b' B' l' gg mm => by
                  by_cases hbb : b' = b
                  · subst hbb; rw [upd_same] at gg; cases gg
                  · rw [upd_ne _ _ hbb] at gg
                    exact hM.sep b' b B' _ l' _ gg hgb mm hg hbb)
                (fun j v hj => by
                  obtain ⟨y1, y2⟩ := hfold j v hj
                  refine ⟨?_, by omega⟩
                  rw [setRange_get _ _ _ _ (by simp [husz]; omega), if_neg (by omega)]
                  exact y1) hown (n' := nx.succ.toNat) (by omega) (by omega)
              refine ⟨.slice (some ⟨c, o, none⟩) (len + m) cap, w', _, _, ?_, ?_, g1, g2, (hH.set b none).set nx _, hkeep _ _ _ (fun b' hlt => Mu.mark_ne _ _ _ _ _ (ne_of_lt hlt))⟩
              · rw [run_append_in hT ty (base := some ⟨c, o, none⟩) hx.hn hlm hx.now]
                simp only [add_mk, e1, Result.andThen_ok]
              · refine .sl _ _ _ _ cap c o _ (vs ++ us.toList) (hvals.mono g1) ?_ hlm (.inr rfl) ?_ ?_
                · rw [List.length_append, hn, hx.hl, hadd]
                · intro j v hj
                  by_cases hj1 : j < vs.length
                  · rw [List.getElem?_append_left hj1] at hj
                    exact g1.f _ _ _ (hf j v hj)
                  · rw [List.getElem?_append_right (by omega)] at hj
                    have hjl : j - vs.length < us.size := by
                      rcases Nat.lt_or_ge (j - vs.length) us.size with h' | h'
                      · exact h'
                      · rw [List.getElem?_eq_none (by simpa using h')] at hj; cases hj
                    refine g3 _ _ (by omega) ?_
                    rw [setRange_get _ _ _ _ (by simp [husz]; omega), if_pos (by simp; omega)]
                    rw [← hj]; congr 1; omega
                · exact Mu.mark_same _ _ _ _ _ _
            · -- a new row
              have hload : ∀ d, (Builtin.firstCells i.size len (.slice (some ad) len cap)).run P { w with drawn := d } = .ok vs.toArray { w with drawn := d } := by
                intro d
                simp only [Builtin.firstCells]
                by_cases h0 : len = 0
                · subst h0
                  have : vs = [] := List.eq_nil_of_length_eq_zero (by omega)
                  subst this
                  simp [loadCells, loadCellsFrom]
                · have had : ad = ⟨c, o, none⟩ := had.resolve_left (by omega)
                  subst had
                  rw [fz_load (hM.drawn0 d) hf (by omega), List.take_of_length_le (by omega)]
              obtain ⟨cap', hcap', hrun⟩ := run_append_grow (P := P) (w := w) hT ty (base := some ad) hx.hn (by omega) hsm hx.hc hload
              have hr2 : VRels ρ μ (L ++ new) (vs.toArray ++ us).toList := by simpa using hvals
              have hsz2 : (vs.toArray ++ us).size = (len + m) * i.size := by
                rw [Array.size_append, husz, Nat.add_mul]; simp; omega
              obtain ⟨μ', g1, g2, g3, g4⟩ := made_tok hM1 hT hr2 hsz2 hcap'
              refine ⟨_, _, _, _, hrun, g3, g1, g2, (hH.set b none).set nx _, hkeep _ _ _ (fun b' hlt => (g4 none none H G).m b' hlt)⟩
          · cases h
  · rename_i b off len sz'
    cases hc0 : (Nat.beq i.size sz' && Nat.ble (len + m) 1048576 && new.all AV.isCell) with
    | false => rw [hc0] at h; cases h
    | true =>
      rw [hc0] at h
      simp only [cond_true] at h
      simp only [Bool.and_eq_true, Nat.ble_eq] at hc0
      obtain ⟨⟨hsz', hsm⟩, hcells⟩ := hc0
      have hsz' := Nat.eq_of_beq_eq_true hsz'
      subst hsz'
      have hs0 := hs
      cases hs with | slice _ _ _ _ cap l ad hmu hcap hlen had =>
      have hus1 := oneCell_of hx.hr hcells
      -- a new row
      have anew : ∀ (L : List AV) (ck : CK), T.get b H = some (.cells L ck) → cap < len + m → len * i.size ≤ (L.drop off).length →
          ∃ v w' μ' G', (Builtin.append_ #[t, u] ty #[.slice (some ad) len cap, xv]).run P w = .ok v w' ∧ VRel ρ μ' (.slice nx 0 (len + m) i.size) v ∧ μ.le μ' ∧
            MRel P ρ w0 μ' G' nx.succ.toNat w' ∧ HSub (T.set nx (some (.cells ((frzLA (frzA 8) ((L.drop off).take (len * i.size)) H).1 ++ new) .part)) (frzLA (frzA 8) ((L.drop off).take (len * i.size)) H).2) G' ∧ Kept H (T.set nx (some (.cells ((frzLA (frzA 8) ((L.drop off).take (len * i.size)) H).1 ++ new) .part)) (frzLA (frzA 8) ((L.drop off).take (len * i.size)) H).2) nx nx.succ μ μ' G G' := by
        intro L ck hL hgt hle
        have hg := hH _ _ hL
        obtain ⟨l', arr, elem, fz, k1, k2, k3, k4, k5, k7⟩ := hM.cells hg
        rw [hmu] at k1; cases k1
        have hload : ∀ d, (Builtin.firstCells i.size len (.slice (some ad) len cap)).run P { w with drawn := d } = .ok ((arr.toList.drop (l.base + off)).take (len * i.size)).toArray { w with drawn := d } := by
          intro d
          simp only [Builtin.firstCells]
          by_cases h0 : len = 0
          · subst h0; simp [loadCells, loadCellsFrom]
          · have had : ad = ⟨l.c, l.base + off, none⟩ := had.resolve_left (by omega)
            subst had
            refine loadCells_run P { w with drawn := d } l.c (l.base + off) arr elem fz k2 (len * i.size) ?_
            simp at hle
            have : 0 < len * i.size := Nat.mul_pos (by omega) hpos
            omega
        have hrel : VRels ρ μ ((L.drop off).take (len * i.size)) ((arr.toList.drop (l.base + off)).take (len * i.size)) := by
          by_cases h0 : len = 0
          · subst h0; simp; exact .nil
          · have : 0 < len * i.size := Nat.mul_pos (by omega) hpos
            simp at hle
            exact cells_rel k3 (by omega) (by omega)
        obtain ⟨μ1, G1, f1, r1⟩ := frzLA_sound (frzA_sound 8) _ _ μ G H hM hH hrel
        obtain ⟨cap', hcap', hrun⟩ := run_append_grow (P := P) (w := w) hT ty (base := some ad) hx.hn hgt hsm hx.hc hload
        have hr2 : VRels ρ μ1 ((frzLA (frzA 8) ((L.drop off).take (len * i.size)) H).1 ++ new) (((arr.toList.drop (l.base + off)).take (len * i.size)).toArray ++ us).toList := by
          simpa using r1.append (hx.hr.mono f1.le)
        have hsz2 : (((arr.toList.drop (l.base + off)).take (len * i.size)).toArray ++ us).size = (len + m) * i.size := by
          have := hr2.length
          rw [List.length_append, frzLA_length, List.length_take, hx.hl] at this
          have e : min (len * i.size) (L.drop off).length = len * i.size := by omega
          rw [e, ← Nat.add_mul] at this
          simpa using this.symm
        obtain ⟨μ', g1, g2, g3, g4⟩ := made_part f1.M hT hr2 hsz2 hcap'
        exact ⟨_, _, μ', _, hrun, g3, Mu.le_trans f1.le g1, g2, f1.hs.set nx _, f1.kept.trans (g4 _ _ _ _)⟩
      have grows : ∀ (L : List AV) (ck : CK), ck ≠ .part → T.get b H = some (.cells L ck) → ¬ (off + (len + m) * i.size ≤ L.length) → cap < len + m := by
        intro L ck hck hL hle
        obtain ⟨l', arr, elem, fz, k1, k2, k3, k4, k5, k7, k8⟩ := hM.cells (hH _ _ hL)
        rw [hmu] at k1; cases k1
        have k8 := k8 hck
        rcases Nat.lt_or_ge cap (len + m) with h' | h'
        · exact h'
        · have : (len + m) * i.size ≤ cap * i.size := Nat.mul_le_mul_right _ h'
          omega
      have anewB : ∀ (L : List AV) (ck : CK), ck ≠ .part → T.get b H = some (.cells L ck) → ¬ (off + (len + m) * i.size ≤ L.length) →
          (takeC (len * i.size) (dropL off L) (OR.bad 14) (fun old => frzL (frz 8) old H fun old h => appC old new (fun r => T.setC nx (some (.cells r .part)) h fun h => .val (.slice nx 0 (len + m) i.size) h nx.succ))) = .val a H' nx' →
          ∃ v w' μ' G', (Builtin.append_ #[t, u] ty #[.slice (some ad) len cap, xv]).run P w = .ok v w' ∧ VRel ρ μ' a v ∧ μ.le μ' ∧ MRel P ρ w0 μ' G' nx'.toNat w' ∧ HSub H' G' ∧ Kept H H' nx nx' μ μ' G G' := by
        intro L ck hck hL hle h
        simp only [takeC_eq, dropL_eq, frzL_eq (frz_eq 8), appC_eq, T.setC_eq] at h
        split at h
        · rename_i htake
          simp only [OR.val.injEq] at h
          obtain ⟨rfl, rfl, rfl⟩ := h
          exact anew L ck hL (grows L ck hck hL hle) htake
        · cases h
      split at h
      · rename_i L hL
        cases hle : Nat.ble (off + (len + m) * i.size) (lenL L) with
        | true =>
          rw [hle] at h
          rw [lenL_eq, Nat.ble_eq] at hle
          simp only [cond_true] at h
          rw [putC_eq] at h
          split at h
          · rename_i hle2
            rw [T.setC_eq] at h
            simp only [OR.val.injEq] at h
            obtain ⟨rfl, rfl, rfl⟩ := h
            have hg := hH _ _ hL
            obtain ⟨l', arr, elem, fz, k1, k2, k3, k4, k5, k7, k8⟩ := hM.cells hg
            rw [hmu] at k1; cases k1
            have k8 := k8 (by simp)
            have hlm : len + m ≤ cap := by
              have : (len + m) * i.size ≤ cap * i.size := by omega
              exact Nat.le_of_mul_le_mul_right this hpos
            obtain ⟨w', e1, e2, e3⟩ := put_row hM hg (by simp) hmu hx.hr hus1 (off := off + len * i.size) hle2
            have hst : (storeCells (ad.add (len * i.size)) us.toList).run P w = .ok () w' := by
              rcases had with h0 | h0
              · have hm0 : m = 0 := by omega
                subst hm0
                have : us = #[] := by apply Array.eq_empty_of_size_eq_zero; simpa using husz
                subst this
                exact e1
              · subst h0; rw [add_mk, Nat.add_assoc]; exact e1
            refine ⟨.slice (some ad) (len + m) cap, w', _, _, ?_, .slice b off _ _ cap l ad (Mu.put_same _ _ _) hcap hlm had, e2, e3, hH.set b _, keeps_upd hL hmu _ _⟩
            rw [run_append_in hT ty (base := some ad) hx.hn hlm hx.now]
            simp only [hst, Result.andThen_ok]
          · cases h
        | false =>
          rw [hle] at h
          have hle : ¬ (off + (len + m) * i.size ≤ L.length) := by rw [← Nat.ble_eq, ← lenL_eq, hle]; simp
          exact anewB L .fix (by simp) hL hle h
      · rename_i L hL
        cases hle : Nat.ble (off + (len + m) * i.size) (lenL L) with
        | true => rw [hle] at h; cases h
        | false =>
          rw [hle] at h
          have hle : ¬ (off + (len + m) * i.size ≤ L.length) := by rw [← Nat.ble_eq, ← lenL_eq, hle]; simp
          exact anewB L .ro (by simp) hL hle h
      · -- a row of more cells than are known
        rename_i L hL
        have hg := hH _ _ hL
        obtain ⟨l', arr, elem, fz, k1, k2, k3, k4, k5, k7, k8⟩ := hM.cells hg
        rw [hmu] at k1; cases k1
        have k7 := k7 (by simp)
        subst k7
        cases hm0 : Nat.beq m 0 with
        | true =>
          rw [hm0] at h
          simp only [cond_true, OR.val.injEq] at h
          obtain ⟨rfl, rfl, rfl⟩ := h
          have hm := Nat.eq_of_beq_eq_true hm0
          subst hm
          have hus : us = #[] := by apply Array.eq_empty_of_size_eq_zero; simpa using husz
          subst hus
          refine ⟨.slice (some ad) len cap, w, μ, G, ?_, hs0, μ.le_refl, hM, hH, Kept.refl _ _ _ _⟩
          rw [run_append_in hT ty (base := some ad) (sLen := len) (sCap := cap) hx.hn (by omega) hx.now]
          simp [storeCells]
        | false =>
          rw [hm0] at h
          simp only [cond_false] at h
          have hmne : m ≠ 0 := by intro e; subst e; cases hm0
          cases hc1 : (Nat.beq off 0 && Nat.beq (len * i.size) (lenL L)) with
          | false => rw [hc1] at h; cases h
          | true =>
            rw [hc1] at h
            simp only [cond_true, appC_eq, T.setC_eq, OR.val.injEq] at h
            obtain ⟨rfl, rfl, rfl⟩ := h
            simp only [Bool.and_eq_true] at hc1
            have hoff := Nat.eq_of_beq_eq_true hc1.1
            have hLl := Nat.eq_of_beq_eq_true hc1.2
            rw [lenL_eq] at hLl
            subst hoff
            have hM1 : MRel P ρ w0 μ (upd G b none) nx.toNat w := hM.sub (fun b' B' e' => by
              by_cases hb : b' = b
              · subst hb; rw [upd_same] at e'; cases e'
              · rw [upd_ne _ _ hb] at e'; exact e')
            have ne : ∀ b', T.get b' H = none → b' ≠ b := fun b' h0 e0 => by rw [e0, hL] at h0; cases h0
            have hkeep : ∀ (μ' : Mu) x y, (∀ b' : Key, b'.toNat < nx.toNat → μ' b' = μ b') → Kept H (T.set nx y (T.set b none H)) nx nx.succ μ μ' G (upd (upd G b none) nx x) := by
              intro μ' x y hmu
              exact ⟨fun b' hb' hlt => by rw [upd_ne _ _ (ne_of_lt hlt), upd_ne _ _ (ne b' hb')], hmu,
                fun b' hb' hlt => by rw [T.get_set_ne _ _ _ _ (ne_of_lt hlt), T.get_set_ne _ _ _ _ (ne b' hb')]; exact hb', by omega⟩
            have hvrow : VRels ρ μ L ((arr.toList.drop l.base).take (len * i.size)) := by
              have := cells_rel k3 (off := 0) (n := len * i.size) (by omega) (by omega)
              rw [List.drop_zero, List.take_of_length_le (by omega), Nat.add_zero] at this
              exact this
            have hvals : VRels ρ μ (L ++ new) ((arr.toList.drop l.base).take (len * i.size) ++ us.toList) := hvrow.append hx.hr
            have hvl := hvrow.length
            by_cases hlm : len + m ≤ cap
            · -- in place, behind its end
              have had : ad = ⟨l.c, l.base + 0, none⟩ := had.resolve_left (by omega)
              rw [Nat.add_zero] at had
              subst had
              have hmul : (len + m) * i.size ≤ cap * i.size := Nat.mul_le_mul_right _ hlm
              have hadd : (len + m) * i.size = len * i.size + m * i.size := Nat.add_mul _ _ _
              obtain ⟨w', e1, e2, e3, e4⟩ := storeCells_run P l.c (l.base + len * i.size) elem us.toList 0 w arr k2 (by simp [husz]; omega) hus1
              have hown : w0.heap.size ≤ l.c := (hM.own b _ _ hg hmu).resolve_left (by simp [Blk.ro])
              have hnone : ∀ j, μ.fz l.c j = none := hM.lo0 hg hmu rfl
              have hext2 : (cap - (len + m)) * i.size = cap * i.size - (len + m) * i.size := Nat.mul_sub_right_distrib _ _ _
              obtain ⟨g1, g2, g3⟩ := hM1.mark (w' := w') nx l.c (l.base + (len + m) * i.size) ((cap - (len + m)) * i.size) hM.nx_none e2 e4 (by rw [setRange_size]; omega)
                (fun b' B' l' gg mm => by
                  by_cases hbb : b' = b
                  · subst hbb; rw [upd_same] at gg; cases gg
                  · rw [upd_ne _ _ hbb] at gg
                    exact hM.sep b' b B' _ l' _ gg hg mm hmu hbb)
                (fun j v hj => by rw [hnone j] at hj; cases hj) hown (n' := nx.succ.toNat) (by omega) (by omega)
              refine ⟨.slice (some ⟨l.c, l.base, none⟩) (len + m) cap, w', _, _, ?_, ?_, g1, g2, (hH.set b none).set nx _, hkeep _ _ _ (fun b' hlt => Mu.mark_ne _ _ _ _ _ (ne_of_lt hlt))⟩
              · rw [run_append_in hT ty (base := some ⟨l.c, l.base, none⟩) hx.hn hlm hx.now]
                simp only [add_mk, e1, Result.andThen_ok]
              · refine .sl _ _ _ _ cap l.c l.base _ ((arr.toList.drop l.base).take (len * i.size) ++ us.toList) (hvals.mono g1) ?_ hlm (.inr rfl) ?_ ?_
                · rw [List.length_append, ← hLl, hx.hl, hadd]
                · intro j v hj
                  have hjl : j < len * i.size + us.size := by
                    rcases Nat.lt_or_ge j (len * i.size + us.size) with h' | h'
                    · exact h'
                    · rw [List.getElem?_eq_none (by simp; omega)] at hj; cases hj
                  refine g3 _ _ (by omega) ?_
                  rw [setRange_get _ _ _ _ (by simp [husz]; omega)]
                  by_cases hj1 : j < len * i.size
                  · rw [if_neg (by omega)]
                    rw [List.getElem?_append_left (by omega), List.getElem?_take_of_lt hj1, List.getElem?_drop] at hj
                    simpa using hj
                  · rw [if_pos (by simp; omega)]
                    rw [List.getElem?_append_right (by omega)] at hj
                    rw [← hj]; congr 1; omega
                · exact Mu.mark_same _ _ _ _ _ _
            · -- a new row
              have hload : ∀ d, (Builtin.firstCells i.size len (.slice (some ad) len cap)).run P { w with drawn := d } = .ok ((arr.toList.drop l.base).take (len * i.size)).toArray { w with drawn := d } := by
                intro d
                simp only [Builtin.firstCells]
                by_cases h0 : len = 0
                · subst h0; simp [loadCells, loadCellsFrom]
                · have had : ad = ⟨l.c, l.base + 0, none⟩ := had.resolve_left (by omega)
                  rw [Nat.add_zero] at had
                  subst had
                  refine loadCells_run P { w with drawn := d } l.c l.base arr elem (0, 0) k2 (len * i.size) ?_
                  omega
              obtain ⟨cap', hcap', hrun⟩ := run_append_grow (P := P) (w := w) hT ty (base := some ad) hx.hn (by omega) hsm hx.hc hload
              have hr2 : VRels ρ μ (L ++ new) (((arr.toList.drop l.base).take (len * i.size)).toArray ++ us).toList := by simpa using hvals
              have hsz2 : (((arr.toList.drop l.base).take (len * i.size)).toArray ++ us).size = (len + m) * i.size := by
                rw [Array.size_append, husz, Nat.add_mul]; simp at hvl ⊢; omega
              obtain ⟨μ', g1, g2, g3, g4⟩ := made_tok hM1 hT hr2 hsz2 hcap'
              refine ⟨_, _, _, _, hrun, g3, g1, g2, (hH.set b none).set nx _, hkeep _ _ _ (fun b' hlt => (g4 none none H G).m b' hlt)⟩
      · cases h
  · cases h
end
end Go.Sx
/-
  SX: maps whose keys have several cells, entries that are deleted, ranges over maps, a string's bytes. No condition.
-/
namespace Go.Sx
open Go.RowKit

section
variable {P : Program} {ρ : Nat → Int} {w0 : W0} {w : World} {μ : Mu} {G : Key → Option Blk} {nx : Key} {orc : Orc} {nt : Nat} {tm : T AV} {H : T Blk} {ev : Operand → Value}

/- ---------- a key may be one ---------- -/
def checkFs (em : Bool) (d : Nat) (xs : Array Value) : List Field → Sem Unit
  | [] => pure ()
  | f :: fs => if f.name ≠ "_" then do
      let a ← part f.type xs f.offset
      Instr.checkKey em d f.type a
      checkFs em d xs fs
    else checkFs em d xs fs
theorem run_checkKey_struct (em : Bool) (d : Nat) {t : TypeId} {fs : Array Field} (hu : P.underlying t = some (.struct fs)) (xs : Array Value) :
    (Instr.checkKey em (d + 1) t (.agg xs)).run P w = (checkFs em d xs fs.toList).run P w := by
  simp only [Instr.checkKey, Sem.run_bind, run_underlyingS hu, Result.andThen_ok]
  rw [← Array.forIn_toList]
  generalize fs.toList = l
  clear hu
  induction l generalizing w with
  | nil => simp [checkFs]
  | cons f l ih =>
    simp only [List.forIn_cons, checkFs, Sem.run_bind, Sem.run_ite]
    split
    · generalize (part f.type xs f.offset).run P w = r1
      cases r1 with
      | ok a w1 =>
        simp only [Result.andThen_ok]
        generalize (Instr.checkKey em d f.type a).run P w1 = r2
        cases r2 with
        | ok b w2 => simp only [Result.andThen_ok, Sem.run_pure]; exact ih
        | halt x w2 => simp [Result.andThen]
      | halt x w1 => simp [Result.andThen]
    · simp only [Sem.run_pure, Result.andThen_ok]
      exact ih
def checkIs (em : Bool) (d : Nat) (e : TypeId) (c : Nat) (xs : Array Value) : List Nat → Sem Unit
  | [] => pure ()
  | i :: is => do
    let a ← part e xs (i * c)
    Instr.checkKey em d e a
    checkIs em d e c xs is
theorem run_checkKey_array (em : Bool) (d : Nat) {t e : TypeId} {n : Nat} {i : TypeInfo} (hu : P.underlying t = some (.array n e)) (hi : P.info? e = some i) (xs : Array Value) :
    (Instr.checkKey em (d + 1) t (.agg xs)).run P w = (checkIs em d e i.size xs (List.range n)).run P w := by
  simp only [Instr.checkKey, Sem.run_bind, run_underlyingS hu, Result.andThen_ok]
  simp only [Std.Legacy.Range.forIn_eq_forIn_range', Std.Legacy.Range.size, Nat.sub_zero, Nat.add_one_sub_one, Nat.div_one, List.range_eq_range']
  generalize List.range' 0 n = is
  induction is generalizing w with
  | nil => simp [checkIs]
  | cons j is ih =>
    simp only [List.forIn_cons, checkIs, Sem.run_bind, run_sizeOfS hi, Result.andThen_ok]
    generalize (part e xs (j * i.size)).run P w = r1
    cases r1 with
    | ok a w1 =>
      simp only [Result.andThen_ok]
      generalize (Instr.checkKey em d e a).run P w1 = r2
      cases r2 with
      | ok b w2 => simp only [Result.andThen_ok, Sem.run_pure]; exact ih
      | halt x w2 => simp [Result.andThen]
    | halt x w1 => simp [Result.andThen]

theorem inAll_spec {a : List AV} : ∀ {l : List (Nat × EqP)}, inAll a l = true → ∀ x ∈ l, ∃ u, a[x.1]? = some u
  | [], _, x, hx => by cases hx
  | (o, p) :: l, h, x, hx => by
    simp only [inAll, nth_eq] at h
    split at h
    · rename_i u hu
      rcases List.mem_cons.1 hx with rfl | hx
      · exact ⟨u, hu⟩
      · exact inAll_spec h x hx
    · cases h

theorem checkFs_ok (em : Bool) {xs : Array Value} (d : Nat) : ∀ (n : Nat) (fs : List Field) (l : List (Nat × EqP)), eqFields P n fs = some l → (∀ x ∈ l, ∃ v, xs[x.1]? = some v) → (checkFs em (d + 1) xs fs).run P w = .ok () w
  | n, [], l, _, _ => rfl
  | 0, f :: fs, l, hf, _ => by simp [eqFields] at hf
  | n + 1, f :: fs, l, hf, hp => by
    simp only [eqFields] at hf
    cases hn : (f.name == "_") with
    | true => rw [hn] at hf; cases hf
    | false =>
      rw [hn] at hf
      simp only [cond_false] at hf
      have hne : f.name ≠ "_" := by simpa using hn
      have key : ∀ (q : EqP) (l' : List (Nat × EqP)) (d' : TypeDesc), P.underlying f.type = some d' → (d' = .bool ∨ (∃ k, d' = .int k) ∨ d' = .string) → eqFields P n fs = some l' → l = (f.offset, q) :: l' → (checkFs em (d + 1) xs (f :: fs)).run P w = .ok () w := by
        intro q l' d' hd' hk hl' hl
        subst hl
        obtain ⟨v, hv⟩ := hp (f.offset, q) (by simp)
        have hnag : aggD d' = false := by rcases hk with rfl | ⟨k, rfl⟩ | rfl <;> rfl
        have hpart : (part f.type xs f.offset).run P w = .ok v w := by
          have hv : xs[f.offset]? = some v := hv
          simp [part, run_isAggS hd', hnag, hv]
        have hck : (Instr.checkKey em (d + 1) f.type v).run P w = .ok () w := by
          rcases hk with rfl | ⟨k, rfl⟩ | rfl <;> simp [Instr.checkKey, run_underlyingS hd']
        simp only [checkFs, ne_eq, hne, not_false_eq_true, if_true, Sem.run_bind, hpart, Result.andThen_ok, hck]
        exact checkFs_ok em d n fs l' hl' fun x hx => hp x (by simp [hx])
      split at hf
      · rename_i h1 h2
        simp only [Option.some.injEq] at hf
        have hok : P.underlying f.type = some .bool := eqP_ok h1
        exact key _ _ _ hok (.inl rfl) h2 hf.symm
      · rename_i h1 h2
        simp only [Option.some.injEq] at hf
        obtain ⟨k, hok⟩ := eqP_ok h1
        exact key _ _ _ hok (.inr (.inl ⟨k, rfl⟩)) h2 hf.symm
      · rename_i h1 h2
        simp only [Option.some.injEq] at hf
        have hok : P.underlying f.type = some .string := eqP_ok h1
        exact key _ _ _ hok (.inr (.inr rfl)) h2 hf.symm
      · cases hf

theorem partsA_mem {l : List (Nat × EqP)} {sz : Nat} : ∀ (n off : Nat) (x : Nat × EqP), x ∈ l → ∀ i, i < n → (off + i * sz + x.1, x.2) ∈ partsA l sz n off
  | 0, _, _, _, i, hi => absurd hi (Nat.not_lt_zero _)
  | n + 1, off, x, hx, i, hi => by
    simp only [partsA, List.mem_append]
    cases i with
    | zero => exact .inl (List.mem_map.2 ⟨x, hx, by simp⟩)
    | succ i =>
      right
      have := partsA_mem (sz := sz) n (off + sz) x hx i (by omega)
      have e : off + sz + i * sz = off + (i + 1) * sz := by rw [Nat.add_mul, Nat.one_mul]; omega
      rwa [e] at this

theorem checkIs_ok (em : Bool) {e : TypeId} {i : TypeInfo} {fs : Array Field} {n : Nat} {l : List (Nat × EqP)} (hi : P.info? e = some i) (hu : P.underlying e = some (.struct fs)) (hf : eqFields P n fs.toList = some l) (hlt : ∀ x ∈ l, x.1 < i.size) {xs : Array Value} (d : Nat) :
    ∀ (is : List Nat), (∀ j ∈ is, ∀ x ∈ l, ∃ v, xs[j * i.size + x.1]? = some v) → (checkIs em (d + 2) e i.size xs is).run P w = .ok () w
  | [], _ => rfl
  | j :: is, h => by
    simp only [checkIs, Sem.run_bind, part_struct hi hu, Result.andThen_ok]
    rw [show d + 2 = d + 1 + 1 from rfl, run_checkKey_struct em (d + 1) hu, checkFs_ok em d n fs.toList l hf]
    · simp only [Result.andThen_ok]
      exact checkIs_ok em hi hu hf hlt d is fun k hk => h k (by simp [hk])
    · intro x hx
      obtain ⟨v, hv⟩ := h j (by simp) x hx
      refine ⟨v, ?_⟩
      have := hlt x hx
      have h2 : j * i.size + x.1 < xs.size := by
        rcases Nat.lt_or_ge (j * i.size + x.1) xs.size with h' | h'
        · exact h'
        · rw [Array.getElem?_eq_none h'] at hv; cases hv
      rw [Array.getElem?_extract_of_lt (by omega), ← hv, Array.getElem?_eq_getElem h2]

theorem run_checkKeyA (em : Bool) {t : TypeId} {l : List (Nat × EqP)} (hp : PlanOk P t (.parts l)) {A : List AV} {xs : Array Value} (hx : VRels ρ μ A xs.toList) (hin : inAll A l = true) (d : Nat) :
    (Instr.checkKey em (d + 3) t (.agg xs)).run P w = .ok () w := by
  have hget : ∀ x ∈ l, ∃ v, xs[x.1]? = some v := by
    intro x hx'
    obtain ⟨u, hu⟩ := inAll_spec hin x hx'
    obtain ⟨v, hv, _⟩ := hx.get _ _ hu
    exact ⟨v, by simpa using hv⟩
  rcases hp with ⟨fs, n, hu, hst, hf⟩ | ⟨len, e, i, fs, n, l', hu, hi, hue, hst, hf, hlt, rfl⟩
  · rw [show d + 3 = d + 2 + 1 from rfl, run_checkKey_struct em (d + 2) hu]
    exact checkFs_ok em (d + 1) n fs.toList l hf hget
  · rw [show d + 3 = d + 2 + 1 from rfl, run_checkKey_array em (d + 2) hu hi]
    refine checkIs_ok em hi hue hf hlt d _ fun j hj x hx' => ?_
    have := partsA_mem (sz := i.size) len 0 x hx' j (by simpa using hj)
    simpa using hget _ this

/- ---------- flat values ---------- -/
theorem VRel.flat {a : AV} {x y : Value} (h : flatC a = true) (hx : VRel ρ μ a x) (hy : VRel ρ μ a y) : x = y := by
  cases hx <;> first | (cases h; done) | skip
  · cases hy; rfl
  · rename_i k s n e
    cases hy with | int _ _ n' e' => rw [← e, ← e']
  · rename_i n c s e e'
    cases hy with | str _ _ s' f f' =>
    subst e e'
    have : (Nat.beq s.data.toList.length s'.data.toList.length && Nat.beq (enc s.data.toList) (enc s'.data.toList)) = true := by
      rw [f, f']; simp
    rw [enc_beq] at this
    have := eq_of_beq this
    congr 1
    apply ByteArray.ext
    exact Array.ext' this
theorem VRels.flat : ∀ {l : List AV} {xs ys : List Value}, flatL l = true → VRels ρ μ l xs → VRels ρ μ l ys → xs = ys
  | [], _, _, _, hx, hy => by cases hx; cases hy; rfl
  | a :: l, _, _, h, hx, hy => by
    simp only [flatL, Bool.and_eq_true] at h
    cases hx with | cons _ _ v vs h1 h2 => cases hy with | cons _ _ u us k1 k2 =>
    rw [VRel.flat h.1 h1 k1, VRels.flat h.2 h2 k2]
theorem bits_flat {a : AV} {x : Value} (h : flatC a = true) (hx : VRel ρ μ a x) (n : Nat) : Instr.sameBits n x x = true := by
  cases hx <;> first | (cases h; done) | skip
  · cases n <;> simp [Instr.sameBits]
  · cases n <;> simp [Instr.sameBits]
  · cases n <;> simp [Instr.sameBits, beq_toListBytes]
theorem bits_flats : ∀ {l : List AV} {xs : List Value}, flatL l = true → VRels ρ μ l xs → ∀ (n : Nat), ((xs.zip xs).all fun (x, y) => Instr.sameBits n x y) = true
  | [], _, _, hx, n => by cases hx; rfl
  | a :: l, _, h, hx, n => by
    simp only [flatL, Bool.and_eq_true] at h
    cases hx with | cons _ _ v vs h1 h2 =>
    simp only [List.zip_cons_cons, List.all_cons, Bool.and_eq_true]
    exact ⟨bits_flat h.1 h1 n, bits_flats h.2 h2 n⟩
theorem bits_agg {l : List AV} {xs : Array Value} (h : flatL l = true) (hx : VRels ρ μ l xs.toList) : Instr.sameBits 10000 (.agg xs) (.agg xs) = true := by
  simp only [Instr.sameBits, beq_self_eq_true, Bool.true_and]
  exact bits_flats h hx 9999

/- a key that may be one -/
theorem keyIn_spec {p : EqP} {k : AV} (h : keyIn p k = true) : ∃ l A, p = .parts l ∧ k = .agg A ∧ flatL A = true ∧ inAll A l = true := by
  cases p <;> first | (simp [keyIn] at h; done) | skip
  cases k <;> first | (simp [keyIn] at h; done) | skip
  simp only [keyIn, Bool.and_eq_true] at h
  exact ⟨_, _, rfl, rfl, h.1, h.2⟩
theorem eqKP_sound (ho : OrcOk ρ orc) {kt : TypeId} {l : List (Nat × EqP)} (hp : PlanOk P kt (.parts l)) {A : List AV} (hfl : flatL A = true) {a : AV} {x y : Value} (hx : VRel ρ μ (.agg A) x) (hy : VRel ρ μ a y) {b : Bool}
    (hb : eqKP orc (.parts l) (.agg A) a = some b) : (Op.equal kt x y).run P w = .ok b w ∧ (b = true → x = y) := by
  have hq : eqV orc (.parts l) (.agg A) a = some b ∧ (b = true → AV.beq (.agg A) a = true) := by
    unfold eqKP at hb
    split at hb
    · rename_i h1
      cases hc : AV.beq (.agg A) a with
      | false => rw [hc] at hb; cases hb
      | true => rw [hc] at hb; simp only [cond_true, Option.some.injEq] at hb; subst hb; exact ⟨h1, fun _ => rfl⟩
    · rename_i h1
      refine ⟨hb, fun e => ?_⟩
      subst e
      exact absurd hb h1
  obtain ⟨h1, h2⟩ := hq
  cases a <;> first | (simp [eqV] at h1; done) | skip
  rename_i B
  cases hx with | agg _ xs hx => cases hy with | agg _ ys hy =>
  simp only [eqV] at h1
  refine ⟨eqAgg_sound ho hp hx hy h1 9997, fun e => ?_⟩
  have := AV.eq_of_beq _ _ (h2 e)
  cases this
  have := VRels.flat hfl hx hy
  rw [Array.ext' this]

theorem cond_some' {b : Bool} {x : OR} {m : Nat} {a : AV} {H' : T Blk} {nx' : Key} (h : (bif b then x else .bad m) = .val a H' nx') : b = true ∧ x = .val a H' nx' := by
  cases b with
  | true => exact ⟨rfl, h⟩
  | false => cases h
/- the entry that is found, or a new one -/
theorem setKP_sound (ho : OrcOk ρ orc) {kt : TypeId} {pl : List (Nat × EqP)} (hp : PlanOk P kt (.parts pl)) {A : List AV} (hfl : flatL A = true) {u : AV} {x v : Value} (hx : VRel ρ μ (.agg A) x) (hv : VRel ρ μ u v) :
    ∀ {l r : List (AV × AV)} {es : List MapEntry} (i : Nat), Pairs ρ μ l es → setKP orc (.parts pl) (.agg A) u l = some r →
      ((Instr.findAsking kt x es i).run P w = .ok none w ∧ ∀ b, Pairs ρ μ r (es ++ [⟨x, v, b⟩])) ∨
      (∃ j e, (Instr.findAsking kt x es i).run P w = .ok (some (i + j, e.val)) w ∧ es[j]? = some e ∧ e.key = x ∧ Pairs ρ μ r (es.set j { e with key := x, val := v }))
  | [], r, [], i, hp', h => by
    simp only [setKP, Option.some.injEq] at h; subst h
    exact .inl ⟨rfl, fun b => ⟨hx, hv, trivial⟩⟩
  | [], _, _ :: _, i, hp', h => hp'.elim
  | (_, _) :: _, _, [], i, hp', h => hp'.elim
  | (a, c) :: l, r, e :: es, i, hp', h => by
    obtain ⟨h1, h2, h3⟩ := hp'
    simp only [setKP] at h
    split at h
    · rename_i hk
      simp only [Option.some.injEq] at h; subst h
      obtain ⟨q1, q2⟩ := eqKP_sound (w := w) ho hp hfl hx h1 hk
      exact .inr ⟨0, e, by simp [Instr.findAsking, q1], by simp, (q2 rfl).symm, ⟨hx, hv, h3⟩⟩
    · rename_i hk
      obtain ⟨q1, q2⟩ := eqKP_sound (w := w) ho hp hfl hx h1 hk
      split at h
      · rename_i r' hr'
        simp only [Option.some.injEq] at h; subst h
        rcases setKP_sound ho hp hfl hx hv (i + 1) h3 hr' with ⟨f, g⟩ | ⟨j, e', f, g1, g2, g3⟩
        · exact .inl ⟨by simp [Instr.findAsking, q1, f], fun b => ⟨h1, h2, g b⟩⟩
        · refine .inr ⟨j + 1, e', ?_, by simpa using g1, g2, ?_⟩
          · simp [Instr.findAsking, q1, f]; omega
          · simp only [List.set_cons_succ]; exact ⟨h1, h2, g3⟩
      · cases h
    · cases h
/- the entry that is deleted -/
theorem delKP_sound (ho : OrcOk ρ orc) {kt : TypeId} {pl : List (Nat × EqP)} (hp : PlanOk P kt (.parts pl)) {A : List AV} (hfl : flatL A = true) {x : Value} (hx : VRel ρ μ (.agg A) x) :
    ∀ {l r : List (Nat × AV × AV)} {es : List MapEntry} (i : Nat), PairsS ρ μ l es → delKP orc (.parts pl) (.agg A) l = some r →
      ((Instr.findAsking kt x es i).run P w = .ok none w ∧ PairsS ρ μ r es) ∨
      (∃ j e, (Instr.findAsking kt x es i).run P w = .ok (some (i + j, e)) w ∧ j < es.length ∧ PairsS ρ μ r (es.eraseIdx j))
  | [], r, [], i, hp', h => by
    simp only [delKP, Option.some.injEq] at h; subst h
    exact .inl ⟨rfl, trivial⟩
  | [], _, _ :: _, i, hp', h => hp'.elim
  | (_, _, _) :: _, _, [], i, hp', h => hp'.elim
  | (s, a, c) :: l, r, e :: es, i, hp', h => by
    obtain ⟨h0, h1, h2, h3⟩ := hp'
    simp only [delKP] at h
    split at h
    · rename_i hk
      simp only [Option.some.injEq] at h; subst h
      obtain ⟨q1, q2⟩ := eqKP_sound (w := w) ho hp hfl hx h1 hk
      exact .inr ⟨0, e.val, by simp [Instr.findAsking, q1], by simp, by simpa using h3⟩
    · rename_i hk
      obtain ⟨q1, q2⟩ := eqKP_sound (w := w) ho hp hfl hx h1 hk
      split at h
      · rename_i r' hr'
        simp only [Option.some.injEq] at h; subst h
        rcases delKP_sound ho hp hfl hx (i + 1) h3 hr' with ⟨f, g⟩ | ⟨j, e', f, g1, g2⟩
        · exact .inl ⟨by simp [Instr.findAsking, q1, f], ⟨h0, h1, h2, g⟩⟩
        · refine .inr ⟨j + 1, e', ?_, by simpa using g1, ?_⟩
          · simp [Instr.findAsking, q1, f]; omega
          · simp only [List.eraseIdx_cons_succ]; exact ⟨h0, h1, h2, g2⟩
      · cases h
    · cases h

theorem run_findKeyA {kt : TypeId} (hk : AggKind P kt) (x : Value) (es : List MapEntry) : (Instr.findKey kt x es).run P w = (Instr.findAsking kt x es).run P w := by
  have key : ∀ (kd : TypeDesc), P.underlying kt = some kd → (∀ a b, Instr.sameNow kd a b = none) → (Instr.findKey kt x es).run P w = (Instr.findAsking kt x es).run P w := by
    intro kd hu hs
    simp only [Instr.findKey, Sem.run_bind, run_underlyingS hu, Result.andThen_ok]
    cases es with
    | nil => rfl
    | cons e es => simp [Instr.findNow, hs]
  rcases hk with ⟨fs, hu⟩ | ⟨n, e, hu⟩
  · exact key _ hu (by intro a b; cases a <;> cases b <;> rfl)
  · exact key _ hu (by intro a b; cases a <;> cases b <;> rfl)

theorem parts_of {kt : TypeId} {p : EqP} (hk : AggKind P kt) (hp : eqP P 100 kt = some p) : PlanOk P kt p := eqP_ok hp

theorem stamped_spec (hM : MRel P ρ w0 μ G nx.toNat w) (hH : HSub H G) {b : Key} {L : List (Nat × AV × AV)} {c : Nat} (h : stamped b H = some (L, c)) :
    ∃ B l es, T.get b H = some B ∧ μ b = some l ∧ w.heap[l.c]? = some (.map es c) ∧ PairsS ρ μ L es.toList ∧ w0.heap.size ≤ l.c ∧ B.lo l = some 0 := by
  unfold stamped at h
  split at h
  · rename_i L' hL
    simp only [Option.some.injEq, Prod.mk.injEq] at h
    obtain ⟨rfl, rfl⟩ := h
    have hg := hH _ _ hL
    obtain ⟨l, o, h1, h2, h3⟩ := hM.blk b _ hg
    cases h3 with | map _ _ es clock hpairs hborn hclk =>
    subst hclk
    rw [lenL_eq]
    exact ⟨_, l, es, hL, h1, h2, hpairs.stamps 0 (by simpa using hborn), (hM.own b _ l hg h1).resolve_left (by simp [Blk.ro]), rfl⟩
  · rename_i L' c' hL
    simp only [Option.some.injEq, Prod.mk.injEq] at h
    obtain ⟨rfl, rfl⟩ := h
    have hg := hH _ _ hL
    obtain ⟨l, o, h1, h2, h3⟩ := hM.blk b _ hg
    cases h3 with | mapD _ _ es clock hpairs =>
    exact ⟨_, l, es, hL, h1, h2, hpairs, (hM.own b _ l hg h1).resolve_left (by simp [Blk.ro]), rfl⟩
  · cases h

theorem mapupdP_sound (hM : MRel P ρ w0 μ G nx.toNat w) (hH : HSub H G) (ho : OrcOk ρ orc) {o : Oper} {p : EqP} {pm pk pv : PX} (hp : pOp P nt o = some (.mapupdP p pm pk pv)) (hE : ERel P ρ μ nt o.op.operands.toList tm ev)
    {a : AV} {H' : T Blk} {nx' : Key} (h : aOp orc (.mapupdP p pm pk pv) tm H nx = .val a H' nx') : Vals P ρ w0 μ G H nx w (Go.execOp ev o) a H' nx' := by
  obtain ⟨dst, cop, ty, pos, after, guard⟩ := o
  obtain ⟨t, m, k, v, kt, e, e0, hu, hagg, hpl, hm, hk, hv⟩ := pOp_shape hp
  simp only at e0
  have hex : Go.execOp ev ⟨dst, cop, ty, pos, after, guard⟩ = (do Instr.mapUpdate t (ev m) (ev k) (ev v); pure .skip) := by
    rcases e0 with e0 | e0 <;> subst e0 <;> rfl
  have hmem : m ∈ cop.operands.toList ∧ k ∈ cop.operands.toList ∧ v ∈ cop.operands.toList := by
    rcases e0 with e0 | e0 <;> subst e0 <;> simp [Op.operands]
  simp only [aOp] at h
  split at h
  · rename_i b ka va hb hka hva
    split at h
    · rename_i L hL
      replace h := cond_some' h
      obtain ⟨hin, h⟩ := h
      obtain ⟨pl, A, rfl, rfl, hfl, hina⟩ := keyIn_spec hin
      split at h
      · rename_i L' hL'
        rw [T.setC_eq] at h
        simp only [OR.val.injEq] at h
        obtain ⟨rfl, rfl, rfl⟩ := h
        have hplan := parts_of hagg hpl
        have hrm := hE m hmem.1 pm _ hm hb
        have hrk := hE k hmem.2.1 pk _ hk hka
        have hrv := hE v hmem.2.2 pv _ hv hva
        generalize hmm : ev m = mm at hrm
        cases hrm with | map _ l r hmu hr =>
        subst hr
        generalize hkk : ev k = kk at hrk
        have hrk0 := hrk
        cases hrk with | agg _ xs hxs =>
        have hg := hH _ _ hL
        obtain ⟨l', o', h1, h2, h3⟩ := hM.blk b _ hg
        rw [hmu] at h1; cases h1
        cases h3 with | map _ _ es clock hpairs hborn hclk =>
        have hget : (getObj l.c).run P w = .ok (.map es clock) w := by simp [getObj, Sem.run, h2]
        have hsetr : ∀ o2, (setObj l.c o2).run P w = .ok () { w with heap := w.heap.setIfInBounds l.c o2 } := by
          intro o2; simp [setObj, Sem.run, h2]
        have hcs : l.c < w.heap.size := hM.bnd b l hmu
        have hown : w0.heap.size ≤ l.c := (hM.own b _ l hg hmu).resolve_left (by simp [Blk.ro])
        have hle' : μ.le (μ.put b l) := Mu.le_put (.inr hmu)
        have hck : (Instr.checkKey false 10000 kt (.agg xs)).run P w = .ok () w := run_checkKeyA false hplan hxs hina 9997
        have fin : ∀ (es' : Array MapEntry) (clock' : Nat), Pairs ρ μ L' es'.toList → (∀ (i : Nat) (e : MapEntry), es'.toList[i]? = some e → e.born = i) → clock' = L'.length → (Instr.mapUpdate t (ev m) (ev k) (ev v)).run P w = .ok () { w with heap := w.heap.setIfInBounds l.c (.map es' clock') } →
            Vals P ρ w0 μ G H nx w (Go.execOp ev ⟨dst, cop, ty, pos, after, guard⟩) (.tuple []) (T.set b (some (.map L')) H) nx := by
          intro es' clock' hp' hb' hc' hrun
          obtain ⟨g1, g2⟩ := hM.put (w' := { w with heap := w.heap.setIfInBounds l.c (.map es' clock') }) b (.map L') l (.map es' clock') (.inr hmu)
            ⟨rfl, rfl, rfl, by simp, fun j hj _ => by show (w.heap.setIfInBounds l.c _)[j]? = _; rw [Array.getElem?_setIfInBounds_ne (Ne.symm hj)], Nat.le_refl _⟩
            (by show (w.heap.setIfInBounds l.c _)[l.c]? = _; simp [hcs]) (.map _ _ _ _ (hp'.mono hle') hb' hc') (fun b' B' l' g m' ne => hM.sep b' b B' _ l' l g hg m' hmu ne) hown (Nat.le_refl _) (hM.new b l hmu) (hM.lo0 hg hmu rfl)
          refine ⟨.skip, _, _, _, ?_, rfl, g1, g2, hH.set b _, keeps_upd hL hmu _ _⟩
          rw [hex]
          simp [hrun]
        rcases setKP_sound (w := w) ho hplan hfl hrk0 hrv 0 hpairs hL' with ⟨f, g⟩ | ⟨j, e1, f, g1, g2, g3⟩
        · have hlen := hpairs.length
          have hl2 := (g clock).length
          refine fin (es.push { key := ev k, val := ev v, born := clock }) (clock + 1) (by rw [hkk]; simpa using g clock) (push_born hborn (by rw [hclk, hlen])) (by simp at hl2 hlen ⊢; omega) ?_
          simp [hmm, hkk, Instr.mapUpdate, run_underlyingS hu, hget, hck, run_findKeyA hagg, f, hsetr]
        · have hje : es[j]? = some e1 := by simpa using g1
          have hjl : j < es.size := by
            rcases Nat.lt_or_ge j es.size with h' | h'
            · exact h'
            · rw [Array.getElem?_eq_none h'] at hje; cases hje
          have hlen := hpairs.length
          have hl2 := g3.length
          have hml : (es.modify j fun e => { e with key := ev k, val := ev v }).toList = es.toList.set j { e1 with key := ev k, val := ev v } := by
            apply List.ext_getElem?
            intro q
            rw [Array.getElem?_toList, Array.getElem?_modify]
            by_cases hq : j = q
            · subst hq; rw [if_pos rfl, hje, List.getElem?_set_self (by simpa using hjl)]; rfl
            · rw [if_neg hq, List.getElem?_set_ne hq]; simp
          refine fin (es.modify j fun e => { e with key := ev k, val := ev v }) clock ?_ (by rw [hml]; exact set_born hborn g1 rfl) (by simp at hl2 hlen ⊢; omega) ?_
          · rw [hml, hkk]; exact g3
          · have hs := bits_agg hfl hxs
            simp [hmm, hkk, Instr.mapUpdate, run_underlyingS hu, hget, hck, run_findKeyA hagg, f, hsetr, Instr.keyThatStays, hje, g2, hs]
      · cases h
    · cases h
  · cases h

theorem delP_sound (hM : MRel P ρ w0 μ G nx.toNat w) (hH : HSub H G) (ho : OrcOk ρ orc) {o : Oper} {p : EqP} {pm pk : PX} (hp : pOp P nt o = some (.delP p pm pk)) (hE : ERel P ρ μ nt o.op.operands.toList tm ev)
    {a : AV} {H' : T Blk} {nx' : Key} (h : aOp orc (.delP p pm pk) tm H nx = .val a H' nx') : Vals P ρ w0 μ G H nx w (Go.execOp ev o) a H' nx' := by
  obtain ⟨dst, cop, ty, pos, after, guard⟩ := o
  obtain ⟨c, t, tl, m, k, kt, e, e0, hcal, hargs, hty, hu, hagg, hpl, hm, hk⟩ := pOp_shape hp
  obtain ⟨callee, args, argTypes⟩ := c
  simp only at e0 hcal hargs hty
  subst e0 hcal hargs
  have hty0 : argTypes[0]? = some t := by rw [← Array.getElem?_toList, hty]; rfl
  have hex : Go.execOp ev ⟨dst, .call ⟨.builtin .delete, #[m, k], argTypes⟩, ty, pos, after, guard⟩ = (do pure (.value (← Builtin.delete_ argTypes ty (#[m, k].map ev)))) := rfl
  have hmm0 : m ∈ (Op.call ⟨.builtin .delete, #[m, k], argTypes⟩).operands.toList := by simp [Op.operands, Call.operands]
  have hkm0 : k ∈ (Op.call ⟨.builtin .delete, #[m, k], argTypes⟩).operands.toList := by simp [Op.operands, Call.operands]
  simp only [aOp] at h
  split at h
  · rename_i b ka hb hka
    split at h
    · rename_i L c0 hL
      replace h := cond_some' h
      obtain ⟨hin, h⟩ := h
      obtain ⟨pl, A, rfl, rfl, hfl, hina⟩ := keyIn_spec hin
      split at h
      · rename_i L' hL'
        rw [T.setC_eq] at h
        simp only [OR.val.injEq] at h
        obtain ⟨rfl, rfl, rfl⟩ := h
        have hplan := parts_of hagg hpl
        have hrm := hE m hmm0 pm _ hm hb
        have hrk := hE k hkm0 pk _ hk hka
        generalize hmm : ev m = mm at hrm
        cases hrm with | map _ l r hmu hr =>
        subst hr
        generalize hkk : ev k = kk at hrk
        have hrk0 := hrk
        cases hrk with | agg _ xs hxs =>
        obtain ⟨B, l', es, hB, h1, h2, hpairs, hown, hlo⟩ := stamped_spec hM hH hL
        rw [hmu] at h1; cases h1
        have hg := hH _ _ hB
        have hget : (getObj l.c).run P w = .ok (.map es c0) w := by simp [getObj, Sem.run, h2]
        have hsetr : ∀ o2, (setObj l.c o2).run P w = .ok () { w with heap := w.heap.setIfInBounds l.c o2 } := by
          intro o2; simp [setObj, Sem.run, h2]
        have hcs : l.c < w.heap.size := hM.bnd b l hmu
        have hle' : μ.le (μ.put b l) := Mu.le_put (.inr hmu)
        have hck : (Instr.checkKey es.isEmpty 10000 kt (.agg xs)).run P w = .ok () w := run_checkKeyA _ hplan hxs hina 9997
        have fin : ∀ (es' : Array MapEntry), PairsS ρ μ L' es'.toList → (Builtin.delete_ argTypes ty #[ev m, ev k]).run P w = .ok (.tuple #[]) { w with heap := w.heap.setIfInBounds l.c (.map es' c0) } →
            Vals P ρ w0 μ G H nx w (Go.execOp ev ⟨dst, .call ⟨.builtin .delete, #[m, k], argTypes⟩, ty, pos, after, guard⟩) (.tuple []) (T.set b (some (.mapD L' c0)) H) nx := by
          intro es' hp' hrun
          obtain ⟨g1, g2⟩ := hM.put (w' := { w with heap := w.heap.setIfInBounds l.c (.map es' c0) }) b (.mapD L' c0) l (.map es' c0) (.inr hmu)
            ⟨rfl, rfl, rfl, by simp, fun j hj _ => by show (w.heap.setIfInBounds l.c _)[j]? = _; rw [Array.getElem?_setIfInBounds_ne (Ne.symm hj)], Nat.le_refl _⟩
            (by show (w.heap.setIfInBounds l.c _)[l.c]? = _; simp [hcs]) (.mapD _ _ _ _ (hp'.mono hle')) (fun b' B' l' g m' ne => hM.sep b' b B' _ l' l g hg m' hmu ne) hown (Nat.le_refl _) (hM.new b l hmu) (hM.lo0 hg hmu hlo)
          refine ⟨.value (.tuple #[]), _, _, _, ?_, .tuple _ _ .nil, g1, g2, hH.set b _, keeps_upd hB hmu _ _⟩
          rw [hex]
          have e2 : #[m, k].map ev = #[ev m, ev k] := by simp
          rw [e2]
          exact run_v hrun
        rcases delKP_sound (w := w) ho hplan hfl hrk0 0 hpairs hL' with ⟨f, g⟩ | ⟨j, e1, f, g1, g2⟩
        · refine fin es g ?_
          simp [hmm, hkk, Builtin.delete_, hty0, run_underlyingS hu, hget, hck, run_findKeyA hagg, f, hsetr]
        · refine fin (es.eraseIdxIfInBounds j) (by simpa using g2) ?_
          simp [hmm, hkk, Builtin.delete_, hty0, run_underlyingS hu, hget, hck, run_findKeyA hagg, f, hsetr]
      · cases h
    · cases h
  · cases h

/- a range over a map begins -/
theorem rangeM_sound (hM : MRel P ρ w0 μ G nx.toNat w) (hH : HSub H G) {o : Oper} {px : PX} (hp : pOp P nt o = some (.rangeM px)) (hE : ERel P ρ μ nt o.op.operands.toList tm ev)
    {a : AV} {H' : T Blk} {nx' : Key} (h : aOp orc (.rangeM px) tm H nx = .val a H' nx') : Vals P ρ w0 μ G H nx w (Go.execOp ev o) a H' nx' := by
  obtain ⟨dst, cop, ty, pos, after, guard⟩ := o
  obtain ⟨t, x, kt, e, e0, hu, hx⟩ := pOp_shape hp
  simp only at e0
  subst e0
  simp only [aOp] at h
  split at h
  · rename_i m hm
    split at h
    · rename_i L n hL
      obtain ⟨rfl, rfl, rfl⟩ := newB_eq h
      have hs := Key.toNat_succ nx
      have hrm := hE x (by simp [Op.operands]) px _ hx hm
      generalize hmm : ev x = mm at hrm
      cases hrm with | map _ l r hmu hr =>
      subst hr
      obtain ⟨B, l', es, hB, h1, h2, hpairs, hown, hlo⟩ := stamped_spec hM hH hL
      rw [hmu] at h1; cases h1
      have hk := hM.nx_none
      have hne : m ≠ nx := by intro e; subst e; rw [hk] at hmu; cases hmu
      obtain ⟨g1, g2⟩ := hM.alloc (nx' := nx.succ.toNat) nx (.iter m n []) (.mapIter (some l.c) n #[] n) 0 hk
        (.iter m n [] _ l #[] (by rw [Mu.put_ne _ _ hne]; exact hmu) rfl rfl) (by omega) (by omega)
      refine ⟨.value (.pointer (some ⟨w.heap.size, 0, none⟩)), w.alloc (.mapIter (some l.c) n #[] n), _, _, ?_, ?_, g1, g2, hH.set nx _, keeps_set _ _ _⟩
      · have hget : (getObj l.c).run P w = .ok (.map es n) w := by simp [getObj, Sem.run, h2]
        have hnew : ∀ ob, (newObj ob).run P w = .ok w.heap.size (w.alloc ob) := fun _ => rfl
        show (do pure (Next.value (← Instr.range t (ev x))) : Sem Next).run P w = _
        refine run_v ?_
        simp [hmm, Instr.range, run_underlyingS hu, hget, hnew]
      · exact .ptr nx 0 ⟨w.heap.size, 0, 0⟩ _ (Mu.put_same _ _ _) rfl
    · cases h
  · cases h

/- a string's bytes -/
theorem MRel.allocFz (hM : MRel P ρ w0 μ G nx.toNat w) {w' : World} (hT : Touch w w' w.heap.size) {arr : Array Value} {elem : TypeId} {f : Nat × Nat} (hnew : w'.heap[w.heap.size]? = some (.cells arr elem f)) :
    μ.le ⟨μ.loc, fun c i => if c = w.heap.size then arr[i]? else μ.fz c i⟩ ∧ MRel P ρ w0 ⟨μ.loc, fun c i => if c = w.heap.size then arr[i]? else μ.fz c i⟩ G nx.toNat w' := by
  have hold : ∀ c i v, μ.fz c i = some v → c ≠ w.heap.size := by
    intro c i v h e
    subst e
    rw [hM.fz_new] at h; cases h
  have hle : μ.le ⟨μ.loc, fun c i => if c = w.heap.size then arr[i]? else μ.fz c i⟩ :=
    ⟨fun _ _ h => h, fun c i v h => by show (if c = w.heap.size then arr[i]? else μ.fz c i) = some v; rw [if_neg (hold c i v h)]; exact h⟩
  have hsz : w0.heap.size ≤ w.heap.size := hM.below.size
  refine ⟨hle, ?_, hM.sep, ?_, hM.own, hM.glob, hM.new, hT.below hM.below hsz hsz, ?_, ?_, ?_, ?_, ?_, Nat.le_trans hM.dr hT.dr⟩
  · intro b B hg
    obtain ⟨l, o, h1, h2, h3⟩ := hM.blk b B hg
    have := hM.bnd b l h1
    exact ⟨l, o, h1, by rw [hT.other l.c (by omega) this]; exact h2, h3.mono hle⟩
  · intro b l h
    exact Nat.lt_of_lt_of_le (hM.bnd b l h) hT.size
  · intro c i v h
    have h : (if c = w.heap.size then arr[i]? else μ.fz c i) = some v := h
    by_cases hc : c = w.heap.size
    · subst hc
      rw [if_pos rfl] at h
      exact ⟨arr, elem, f, hnew, h⟩
    · rw [if_neg hc] at h
      obtain ⟨arr', elem', f', h1, h2⟩ := hM.fzw c i v h
      have hlt : c < w.heap.size := by
        rcases Nat.lt_or_ge c w.heap.size with h' | h'
        · exact h'
        · rw [Array.getElem?_eq_none h'] at h1; cases h1
      exact ⟨arr', elem', f', by rw [hT.other c hc hlt]; exact h1, h2⟩
  · intro b B l n hg hm hlo i hi
    have := hM.bnd b l hm
    show (if l.c = w.heap.size then arr[i]? else μ.fz l.c i) = none
    rw [if_neg (by omega)]
    exact hM.fzf b B l n hg hm hlo i hi
  · intro c i v h
    exact hle.f c i v (hM.zle c i v h)
  · intro c i v h
    have h : (if c = w.heap.size then arr[i]? else μ.fz c i) = some v := h
    by_cases hc : c = w.heap.size
    · exact .inl (by omega)
    · rw [if_neg hc] at h
      exact hM.fzo c i v h
  · intro b L l hg hm
    rcases hM.rof b L l hg hm with h | h
    · exact .inl h
    · refine .inr fun arr' e ff i v ha hv => hle.f _ _ _ (h arr' e ff i v ?_ hv)
      have := hM.bnd b l hm
      rwa [hT.other l.c (by omega) this] at ha

theorem bytes_touch (w : World) (e : TypeId) (s : ByteArray) : Touch w (Lib.bytesWorld w e s) w.heap.size := by
  refine ⟨?_, ?_, ?_, ?_, fun k hk hs => Lib.bytesWorld_at_old w e s k hs, ?_⟩
  · simp [Lib.bytesWorld, World.freeze, World.alloc, World.drew, -World.alloc_eq, -World.drew_eq]
  · simp [Lib.bytesWorld, World.freeze, World.alloc, World.drew, -World.alloc_eq, -World.drew_eq]
  · simp [Lib.bytesWorld, World.freeze, World.alloc, World.drew, -World.alloc_eq, -World.drew_eq]
  · rw [Lib.bytesWorld_size]; omega
  · simp [Lib.bytesWorld, World.freeze, World.alloc, World.drew, -World.alloc_eq, -World.drew_eq]
theorem bytesOf_len' : ∀ (n c : Nat), (bytesOf n c).length = n
  | 0, _ => rfl
  | n + 1, c => by simp [bytesOf, bytesOf_len' n]
theorem bytesOf_rel' : ∀ (l : List UInt8), VRels ρ μ (bytesOf l.length (enc l)) (l.map fun b => Value.int .u8 ((b.toNat : Nat) : Int))
  | [] => .nil
  | b :: l => by
    have hb : b.toNat < 256 := b.toNat_lt
    have h1 : (b.toNat + 256 * enc l) % 256 = b.toNat := by omega
    have h2 : (b.toNat + 256 * enc l) / 256 = enc l := by omega
    simp only [List.length_cons, bytesOf, enc, h1, h2, List.map_cons]
    exact .cons _ _ _ _ (.int _ _ _ rfl) (bytesOf_rel' l)
theorem strb_sound (hM : MRel P ρ w0 μ G nx.toNat w) (hH : HSub H G) {o : Oper} {px : PX} (hp : pOp P nt o = some (.strb px)) (hE : ERel P ρ μ nt o.op.operands.toList tm ev)
    {a : AV} {H' : T Blk} {nx' : Key} (h : aOp orc (.strb px) tm H nx = .val a H' nx') : Vals P ρ w0 μ G H nx w (Go.execOp ev o) a H' nx' := by
  obtain ⟨dst, cop, ty, pos, after, guard⟩ := o
  obtain ⟨src, dt, x, e, e0, hs, hd, he, hx⟩ := pOp_shape hp
  simp only at e0
  subst e0
  simp only [aOp] at h
  split at h
  · rename_i n c hc
    simp only [OR.val.injEq] at h
    obtain ⟨rfl, rfl, rfl⟩ := h
    have hr := hE x (by simp [Op.operands]) px _ hx hc
    generalize hxx : ev x = xx at hr
    cases hr with | str _ _ s e1 e2 =>
    subst e1 e2
    have hrun := Lib.run_convert_string_bytes (P := P) w src dt e s hs hd he
    have hnew := Lib.bytesWorld_at_new w e s
    obtain ⟨g1, g2⟩ := hM.allocFz (bytes_touch w e s) hnew
    have hsz : s.size = s.data.toList.length := Array.length_toList.symm
    refine ⟨.value (.slice (some ⟨w.heap.size, 0, none⟩) s.size (grownCap w s.size 0 e)), Lib.bytesWorld w e s, _, G, ?_, ?_, g1, g2, hH, ⟨fun _ _ _ => rfl, fun _ _ => rfl, fun _ h _ => h, Nat.le_refl _⟩⟩
    · show (do pure (Next.value (← convert src dt (ev x))) : Sem Next).run P w = _
      rw [hxx]
      exact run_v hrun
    · rw [hsz]
      refine .sl _ _ _ _ _ w.heap.size 0 _ (s.data.toList.map fun b => Value.int .u8 ((b.toNat : Nat) : Int)) (bytesOf_rel' _) (by rw [bytesOf_len', Nat.mul_one]) ?_ (.inr rfl) ?_ trivial
      · simp only [grownCap, Question.cut]; omega
      · intro i v hv
        show (if w.heap.size = w.heap.size then (Lib.bytesCells w e s)[0 + i]? else _) = some v
        rw [if_pos rfl, Nat.zero_add]
        have hi : i < s.data.toList.length := by
          rcases Nat.lt_or_ge i s.data.toList.length with h' | h'
          · exact h'
          · rw [List.getElem?_eq_none (by simpa using h')] at hv; cases hv
        rw [← hv]
        unfold Lib.bytesCells
        rw [Array.getElem?_append_left (by simpa using hi)]
        simp
  · cases h
end
end Go.Sx
/-
  SX: every operation that has a value. No condition.
-/
namespace Go.Sx
open Go.RowKit

section
variable {P : Program} {ρ : Nat → Int} {w0 : W0} {w : World} {μ : Mu} {G : Key → Option Blk} {nx : Key} {orc : Orc} {nt : Nat} {tm : T AV} {H : T Blk} {ev : Operand → Value}

theorem bytesOf_rel : ∀ (l : List UInt8), VRels ρ μ (bytesOf l.length (enc l)) (l.map fun b => Value.int .u8 ((b.toNat : Nat) : Int))
  | [] => .nil
  | b :: l => by
    have hb : b.toNat < 256 := b.toNat_lt
    have h1 : (b.toNat + 256 * enc l) % 256 = b.toNat := by omega
    have h2 : (b.toNat + 256 * enc l) / 256 = enc l := by omega
    simp only [List.length_cons, bytesOf, enc, h1, h2, List.map_cons]
    exact .cons _ _ _ _ (.int _ _ _ rfl) (bytesOf_rel l)
theorem bytesOf_len : ∀ (n c : Nat), (bytesOf n c).length = n
  | 0, _ => rfl
  | n + 1, c => by simp [bytesOf, bytesOf_len n]

theorem append_sound (hM : MRel P ρ w0 μ G nx.toNat w) (hH : HSub H G) {o : Oper} {sz : Nat} {ps px : PX} (hp : pOp P nt o = some (.append sz ps px)) (hE : ERel P ρ μ nt o.op.operands.toList tm ev)
    {a : AV} {H' : T Blk} {nx' : Key} (h : aOp orc (.append sz ps px) tm H nx = .val a H' nx') : Vals P ρ w0 μ G H nx w (Go.execOp ev o) a H' nx' := by
  obtain ⟨dst, cop, ty, pos, after, guard⟩ := o
  obtain ⟨c, s, x, t, u, e, i, ie, e0, hcal, hargs, hty, hu, hu', hie, hi, hsz, hpos, hzl, hby, hs, hx⟩ := pOp_shape hp
  obtain ⟨callee, args, argTypes⟩ := c
  simp only at e0 hcal hargs hty
  subst e0 hcal hargs hty
  obtain ⟨i', d, z, hi', hd, hz, hzv, hszi, hag⟩ := tyI_spec hie
  rw [hi] at hi'; cases hi'
  have hzr : VRels ρ μ ie.zero.cells z.cells.toList := (ofVal_rel depthV z ie.zero hzv).cells
  have hzs : z.cells.size = i.size := by rw [← hszi, ← hzl, hzr.length]; simp
  have hT : AppT P t u e i z := ⟨hu, hu', hi, hz, by omega, hzs, hby⟩
  have hsz' : sz = i.size := by omega
  subst hsz'
  have hms : s ∈ (Op.call ⟨.builtin .append, #[s, x], #[t, u]⟩).operands.toList := by simp [Op.operands, Call.operands]
  have hmx : x ∈ (Op.call ⟨.builtin .append, #[s, x], #[t, u]⟩).operands.toList := by simp [Op.operands, Call.operands]
  have finF : ∀ (sa : AV) (new : List AV) (m : Nat) (us : Array Value) (μ1 : Mu) (G1 : Key → Option Blk) (H1 : T Blk), FrzTo P ρ w0 w nx μ G H μ1 G1 H1 → ps.at tm = some sa → AppSrc P ρ μ1 w i.size (ev x) new m us → appendTo i.size sa new m H1 nx = .val a H' nx' →
      Vals P ρ w0 μ G H nx w (Go.execOp ev ⟨dst, .call ⟨.builtin .append, #[s, x], #[t, u]⟩, ty, pos, after, guard⟩) a H' nx' := by
    intro sa new m us μ1 G1 H1 f1 hsa hsrc hap
    obtain ⟨v, w', μ', G', r1, r2, r3, r4, r5, r6⟩ := appendTo_sound f1.M f1.hs hT ty ((hE s hms ps sa hs hsa).mono f1.le) hsrc hap
    refine ⟨.value v, w', μ', G', ?_, r2, Mu.le_trans f1.le r3, r4, r5, f1.kept.trans r6⟩
    have : Go.execOp ev ⟨dst, .call ⟨.builtin .append, #[s, x], #[t, u]⟩, ty, pos, after, guard⟩ = (do pure (.value (← Builtin.append_ #[t, u] ty (#[s, x].map ev)))) := rfl
    have e2 : #[s, x].map ev = #[ev s, ev x] := by simp
    rw [this, e2]
    exact run_v r1
  have fin : ∀ (sa : AV) (new : List AV) (m : Nat) (us : Array Value), ps.at tm = some sa → AppSrc P ρ μ w i.size (ev x) new m us → appendTo i.size sa new m H nx = .val a H' nx' →
      Vals P ρ w0 μ G H nx w (Go.execOp ev ⟨dst, .call ⟨.builtin .append, #[s, x], #[t, u]⟩, ty, pos, after, guard⟩) a H' nx' :=
    fun sa new m us hsa hsrc hap => finF sa new m us μ G H (FrzTo.refl hM hH) hsa hsrc hap
  simp only [aOp] at h
  split at h
  · rename_i sa hsa hxa
    have hv := hE x hmx px _ hx hxa
    generalize hxx : ev x = xx at hv fin
    cases hv
    exact fin sa [] 0 #[] hsa ⟨rfl, fun _ => rfl, .nil, by simp⟩ h
  · rename_i sa b off len sz' hsa hxa
    replace h := (show Nat.beq i.size sz' = true ∧ _ from by
      cases hb : Nat.beq i.size sz' with
      | false => rw [hb] at h; cases h
      | true => rw [hb] at h; exact ⟨rfl, h⟩)
    obtain ⟨hszz, h⟩ := h
    have hszz := Nat.eq_of_beq_eq_true hszz
    subst hszz
    simp only [cond_true] at h
    split at h
    · rename_i L ck hL
      rw [takeC_eq, dropL_eq] at h
      split at h
      · rename_i hle
        have hv := hE x hmx px _ hx hxa
        generalize hxx : ev x = xx at hv finF
        cases hv with | slice _ _ _ _ cap l ad hmu hcap hlen had =>
        obtain ⟨l', arr, elem, fz, k1, k2, k3, k4, k5, k7⟩ := hM.cells (hH _ _ hL)
        rw [hmu] at k1; cases k1
        rw [frzL_eq (frz_eq 8)] at h
        have hrel : VRels ρ μ ((L.drop off).take (len * i.size)) ((arr.toList.drop (l.base + off)).take (len * i.size)) := by
          by_cases h0 : len = 0
          · subst h0; simp; exact .nil
          · have : 0 < len * i.size := Nat.mul_pos (by omega) (by omega)
            simp at hle
            simpa using cells_rel k3 (by omega) (by omega)
        obtain ⟨μ1, G1, f1, r1⟩ := frzLA_sound (frzA_sound 8) _ _ μ G H hM hH hrel
        refine finF sa _ len ((arr.toList.drop (l.base + off)).take (len * i.size)).toArray μ1 G1 _ f1 hsa ⟨rfl, ?_, r1, ?_⟩ h
        · intro d
          simp only [Builtin.firstCells]
          by_cases h0 : len = 0
          · subst h0; simp [loadCells, loadCellsFrom]
          · have had : ad = ⟨l.c, l.base + off, none⟩ := had.resolve_left (by omega)
            subst had
            refine loadCells_run P { w with drawn := d } l.c (l.base + off) arr elem fz k2 (len * i.size) ?_
            simp at hle
            have : 0 < len * i.size := Nat.mul_pos (by omega) (by omega)
            omega
        · rw [frzLA_length, List.length_take]; omega
      · cases h
    · cases h
  · rename_i sa L len sz' fl hsa hxa
    cases hb : Nat.beq i.size sz' with
    | false => rw [hb] at h; cases h
    | true =>
      rw [hb] at h
      simp only [cond_true] at h
      have hszz := Nat.eq_of_beq_eq_true hb
      subst hszz
      have hv := hE x hmx px _ hx hxa
      generalize hxx : ev x = xx at hv fin
      cases hv with | sl _ _ _ _ cap c o ad vs hrel hn hle had hf hg =>
      have hvl := hrel.length
      refine fin sa L len vs.toArray hsa ⟨rfl, ?_, by simpa using hrel, hn⟩ h
      intro d
      simp only [Builtin.firstCells]
      by_cases h0 : len = 0
      · subst h0
        have : vs = [] := List.eq_nil_of_length_eq_zero (by omega)
        subst this
        simp [loadCells, loadCellsFrom]
      · have had : ad = ⟨c, o, none⟩ := had.resolve_left (by omega)
        subst had
        rw [fz_load (hM.drawn0 d) hf (by omega), List.take_of_length_le (by omega)]
  · rename_i sa n c hsa hxa
    cases hb : Nat.beq i.size 1 with
    | false => rw [hb] at h; cases h
    | true =>
      rw [hb] at h
      simp only [cond_true] at h
      have h1 := Nat.eq_of_beq_eq_true hb
      have hv := hE x hmx px _ hx hxa
      generalize hxx : ev x = xx at hv fin
      cases hv with | str _ _ st hst hst' =>
      subst hst hst'
      refine fin sa _ _ (st.data.map fun b => Value.int .u8 ((b.toNat : Nat) : Int)) hsa ⟨?_, ?_, ?_, ?_⟩ h
      · simp only [Builtin.lenOf, Sem.run_pure, Lib.size_eq]
      · intro d
        simp only [Builtin.firstCells, Sem.run_pure]
        have : (st.extract 0 st.data.toList.length) = st := by
          apply ByteArray.ext
          apply Array.ext'
          rw [Lib.extract_data]
          simp only [List.drop_zero, Nat.sub_zero, List.take_length]
        rw [this]
      · simpa using bytesOf_rel (ρ := ρ) (μ := μ) st.data.toList
      · rw [bytesOf_len, h1, Nat.mul_one]
  · cases h

theorem okV_eq {x : Option AV} {a : AV} {H' : T Blk} {nx' : Key} (h : okV H nx x = .val a H' nx') : x = some a ∧ H' = H ∧ nx' = nx := by
  cases x with
  | none => cases h
  | some v => simp only [okV, OR.val.injEq] at h; exact ⟨by rw [h.1], h.2.1.symm, h.2.2.symm⟩

/- EVERY OPERATION THAT HAS A VALUE -/
theorem val_sound (hM : MRel P ρ w0 μ G nx.toNat w) (hH : HSub H G) (ho : OrcOk ρ orc) {o : Oper} {op : POp} (hp : pOp P nt o = some op) (hE : ERel P ρ μ nt o.op.operands.toList tm ev)
    {a : AV} {H' : T Blk} {nx' : Key} (h : aOp orc op tm H nx = .val a H' nx') : Vals P ρ w0 μ G H nx w (Go.execOp ev o) a H' nx' := by
  have lite : okV H nx (lightOp orc op tm H) = .val a H' nx' → Vals P ρ w0 μ G H nx w (Go.execOp ev o) a H' nx' := by
    intro h
    obtain ⟨h1, rfl, rfl⟩ := okV_eq h
    obtain ⟨v, h2, h3⟩ := light_sound hM hH ho hp hE h1
    exact vals_light hM hH h2 h3
  have allo : (match allocOp op tm with | some (v, b) => newB v b H nx | none => .bad 2) = .val a H' nx' → Vals P ρ w0 μ G H nx w (Go.execOp ev o) a H' nx' := by
    intro h
    split at h
    · rename_i f B hl
      obtain ⟨rfl, rfl, rfl⟩ := newB_eq h
      exact vals_alloc hM hH hp hE hl
    · cases h
  cases op with
  | store n pa pv => exact store_sound hM hH hp hE h
  | mapupd sk pm pk pv => exact mapupd_sound hM hH ho hp hE h
  | mapupdP p pm pk pv => exact mapupdP_sound hM hH ho hp hE h
  | delP p pm pk => exact delP_sound hM hH ho hp hE h
  | rangeM px => exact rangeM_sound hM hH hp hE h
  | strb px => exact strb_sound hM hH hp hE h
  | nextM px =>
    exfalso
    simp only [aOp] at h
    repeat' (first | (cases h; done) | split at h)
    all_goals (rw [show ∀ (b : Bool) (x y : OR), (bif b then x else y) = if b = true then x else y from fun b x y => by cases b <;> rfl] at h; repeat' (first | (cases h; done) | split at h))
  | append sz ps px => exact append_sound hM hH hp hE h
  | new zs => exact allo h
  | box x => exact allo h
  | bslice sz len zs ps => exact allo h
  | mkmap => exact allo h
  | mkslice sz zs l c => exact allo h
  | callF f l => simp only [aOp] at h; split at h <;> cases h
  | callV v l => simp only [aOp] at h; split at h <;> cases h
  | dfr v l => simp only [aOp] at h; split at h <;> cases h
  | panic x => simp only [aOp] at h; split at h <;> cases h
  | recover => cases h
  | _ => exact lite h
end
end Go.Sx
