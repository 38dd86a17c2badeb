/-
  SX: every operation that leaves memory alone: what the abstract machine computes stands for what the model computes. No condition.
-/
import Derived.Test.YtdghbgpolijpcaaGreatDoorMOps
import Derived.ChangeKeysEq
import Derived.Laws.BytesString
set_option linter.unusedSimpArgs false
set_option linter.unusedVariables false
set_option linter.unusedSectionVars false
namespace Go.Sx
open Go.RowKit

def ERel (P : Program) (ρ : Nat → Int) (μ : Mu) (nt : Nat) (xs : List Operand) (tm : T AV) (ev : Operand → Value) : Prop :=
  ∀ x ∈ xs, ∀ px a, pX P nt x = some px → px.at tm = some a → VRel ρ μ a (ev x)

theorem ERel.sub {P : Program} {ρ : Nat → Int} {μ : Mu} {nt : Nat} {xs ys : List Operand} {tm : T AV} {ev : Operand → Value} (h : ERel P ρ μ nt xs tm ev) (hs : ∀ y ∈ ys, y ∈ xs) : ERel P ρ μ nt ys tm ev :=
  fun x hx => h x (hs x hx)

theorem map_some {α β : Type} {f : α → β} {x : Option α} {y : β} (h : x.map f = some y) : ∃ a, x = some a ∧ f a = y := by
  cases x with
  | none => cases h
  | some a => exact ⟨a, rfl, by simpa using h⟩

theorem setRange_toList (vs : List Value) (arr : Array Value) (o : Nat) (h : o + vs.length ≤ arr.size) :
    (setRange arr o vs).toList = arr.toList.take o ++ vs ++ arr.toList.drop (o + vs.length) := by
  apply List.ext_getElem?
  intro j
  rw [Array.getElem?_toList, setRange_get vs arr o j h]
  by_cases h1 : j < o
  · rw [if_neg (by omega), List.append_assoc, List.getElem?_append_left (by simp; omega), List.getElem?_take_of_lt h1]
    simp
  · by_cases h2 : j < o + vs.length
    · rw [if_pos (by omega), List.append_assoc, List.getElem?_append_right (by simp; omega), List.getElem?_append_left (by simp; omega)]
      congr 1
      simp; omega
    · rw [if_neg (by omega), List.getElem?_append_right (by simp; omega), List.getElem?_drop]
      have : o + vs.length + (j - (arr.toList.take o ++ vs).length) = j := by simp; omega
      rw [this]
      simp
theorem foldl_setRange (off : Nat) : ∀ (l : List Value) (k : Nat) (vs : Array Value),
    (l.zipIdx k).foldl (fun (cs : Array Value) (p : Value × Nat) => cs.setIfInBounds (off + p.2) p.1) vs = setRange vs (off + k) l
  | [], _, _ => rfl
  | v :: l, k, vs => by
    simp only [List.zipIdx_cons, List.foldl_cons, setRange]
    rw [foldl_setRange off l (k + 1)]
    rfl

section
variable {P : Program} {ρ : Nat → Int} {w0 : W0} {w : World} {μ : Mu} {G : Key → Option Blk} {nx : Nat} {nt : Nat} {tm : T AV} {ev : Operand → Value}

theorem atAll_sound : ∀ {xs : List Operand} {ps : List PX} {l : List AV}, pXs P nt xs = some ps → atAll tm ps = some l → ERel P ρ μ nt xs tm ev → VRels ρ μ l (xs.map ev)
  | [], ps, l, hp, ha, hE => by
    simp only [pXs, Option.some.injEq] at hp; subst hp
    simp only [atAll, Option.some.injEq] at ha; subst ha
    exact .nil
  | x :: xs, ps, l, hp, ha, hE => by
    simp only [pXs] at hp
    split at hp
    · rename_i a r h1 h2
      simp only [Option.some.injEq] at hp; subst hp
      simp only [atAll] at ha
      split at ha
      · cases ha
      · rename_i v hv
        split at ha
        · cases ha
        · rename_i m hm
          simp only [Option.some.injEq] at ha; subst ha
          exact .cons _ _ _ _ (hE x (by simp) a v h1 hv) (atAll_sound h2 hm (hE.sub fun y hy => by simp [hy]))
    · cases hp

/- filling -/
theorem fillP_sound {place : Nat → Option (Nat × Nat)} : ∀ {parts : List (Nat × Operand)} {ps : List (Nat × Nat × PX)} {cs cs' : List AV} {vs : Array Value},
    pParts P nt place parts = some ps → fillP tm ps cs = some cs' → ERel P ρ μ nt (parts.map (·.2)) tm ev → VRels ρ μ cs vs.toList →
    ∃ vs', Instr.fill place vs (parts.map fun (i, x) => (i, ev x)) = some vs' ∧ VRels ρ μ cs' vs'.toList
  | [], ps, cs, cs', vs, hp, hf, hE, hv => by
    simp only [pParts, Option.some.injEq] at hp; subst hp
    simp only [fillP, Option.some.injEq] at hf; subst hf
    exact ⟨vs, rfl, hv⟩
  | (i, x) :: parts, ps, cs, cs', vs, hp, hf, hE, hv => by
    simp only [pParts] at hp
    split at hp
    · rename_i off size a r h1 h2 h3
      simp only [Option.some.injEq] at hp; subst hp
      simp only [fillP] at hf
      split at hf
      · cases hf
      · rename_i u hu
        cases hb : Nat.beq (lenL u.cells) size with
        | false => rw [hb] at hf; cases hf
        | true =>
          rw [hb] at hf
          simp only [cond_true, putC_eq] at hf
          split at hf
          · rename_i hle
            have hs : u.cells.length = size := by rw [lenL_eq] at hb; exact Nat.eq_of_beq_eq_true hb
            have hr : VRel ρ μ u (ev x) := hE x (by simp) a u h2 hu
            have hrc := hr.cells
            have hlen : (ev x).cells.size = size := by rw [← hs, hrc.length]; simp
            have hcl : cs.length = vs.size := by rw [hv.length]; simp
            have hfold : ((ev x).cells.zipIdx.foldl (fun cs (c, j) => cs.setIfInBounds (off + j) c) vs).toList = vs.toList.take off ++ (ev x).cells.toList ++ vs.toList.drop (off + (ev x).cells.toList.length) := by
              rw [← setRange_toList _ _ _ (by simp; omega), ← Nat.add_zero off, ← foldl_setRange]
              rw [← Array.foldl_toList]
              simp
            obtain ⟨vs', hvs', hrel⟩ := fillP_sound (vs := (ev x).cells.zipIdx.foldl (fun cs (c, j) => cs.setIfInBounds (off + j) c) vs) h3 hf (hE.sub fun y hy => by simp at hy ⊢; exact .inr hy) (by
              rw [hfold]
              refine ((hv.take off).append hrc).append ?_
              rw [← hrc.length]; exact hv.drop _)
            refine ⟨vs', ?_, hrel⟩
            simp only [List.map_cons, Instr.fill, h1]
            rw [if_neg (by simp [hlen]; omega)]
            exact hvs'
          · cases hf
    · cases hp
end
end Go.Sx
/-
  SX: comparisons, slices, indexes, maps. No condition.
-/
namespace Go.Sx
open Go.RowKit

section
variable {P : Program} {ρ : Nat → Int} {w0 : W0} {w : World} {μ : Mu} {G : Key → Option Blk} {nx : Nat} {orc : Orc}

theorem natOf_sound {a : AV} {v : Value} {j : Nat} (h : natOf a = some j) (hr : VRel ρ μ a v) : ∃ k, v = .int k (j : Int) := by
  unfold natOf at h
  split at h
  · simp only [Option.some.injEq] at h
    subst h
    cases hr with
    | int k s n hn => exact ⟨_, by rw [← hn]; rfl⟩
  · cases h

/- equality of values without parts -/
theorem eqV_bool {a b : AV} {r : Bool} (h : eqV orc .bool a b = some r) : ∃ x y, a = .bool x ∧ b = .bool y ∧ (x == y) = r := by
  cases a <;> first | (simp [eqV] at h; done) | skip
  cases b <;> first | (simp [eqV] at h; done) | skip
  exact ⟨_, _, rfl, rfl, by simpa [eqV] using h⟩
theorem eqV_int {a b : AV} {r : Bool} (h : eqV orc .int a b = some r) : ∃ k x y, a = .int k x ∧ b = .int k y ∧ cmpI orc .eql x y = some r := by
  cases a <;> first | (simp [eqV] at h; done) | skip
  cases b <;> first | (simp [eqV] at h; done) | skip
  rename_i k1 s1 k2 s2
  simp only [eqV] at h
  cases hk : beqKind k1 k2 with
  | false => rw [hk] at h; cases h
  | true =>
    rw [hk] at h
    have := beqKind_eq hk
    subst this
    exact ⟨_, _, _, rfl, rfl, h⟩
theorem eqV_str {a b : AV} {r : Bool} (h : eqV orc .str a b = some r) : ∃ n c m d, a = .str n c ∧ b = .str m d ∧ (Nat.beq n m && Nat.beq c d) = r := by
  cases a <;> first | (simp [eqV] at h; done) | skip
  cases b <;> first | (simp [eqV] at h; done) | skip
  simp only [eqV, Option.some.injEq] at h
  exact ⟨_, _, _, _, rfl, rfl, h⟩
theorem eqV_ptr {a b : AV} {r : Bool} (h : eqV orc .ptr a b = some r) :
    (a = .nilp ∧ b = .nilp ∧ r = true) ∨ (a = .nilp ∧ ((∃ k o, b = .ptr k o) ∨ ∃ l, b = .cref l) ∧ r = false) ∨ (((∃ k o, a = .ptr k o) ∨ ∃ l, a = .cref l) ∧ b = .nilp ∧ r = false) ∨
      (∃ k o o', a = .ptr k o ∧ b = .ptr k o' ∧ decide (o = o') = r) := by
  cases a <;> first | (simp [eqV] at h; done) | skip
  · cases b <;> first | (simp [eqV] at h; done) | skip
    · rename_i b1 o1 b2 o2
      simp only [eqV] at h
      cases hb : Key.beq b1 b2 with
      | false => rw [hb] at h; cases h
      | true =>
        rw [hb] at h
        have := Key.eq_of_beq hb
        subst this
        simp only [cond_true, Option.some.injEq, beqN_eq] at h
        exact .inr (.inr (.inr ⟨_, _, _, rfl, rfl, h⟩))
    · simp only [eqV, Option.some.injEq] at h
      exact .inr (.inr (.inl ⟨.inl ⟨_, _, rfl⟩, rfl, h.symm⟩))
  · cases b <;> first | (simp [eqV] at h; done) | skip
    · simp only [eqV, Option.some.injEq] at h
      exact .inr (.inl ⟨rfl, .inl ⟨_, _, rfl⟩, h.symm⟩)
    · simp only [eqV, Option.some.injEq] at h
      exact .inl ⟨rfl, rfl, h.symm⟩
    · simp only [eqV, Option.some.injEq] at h
      exact .inr (.inl ⟨rfl, .inr ⟨_, rfl⟩, h.symm⟩)
  · cases b <;> first | (simp [eqV] at h; done) | skip
    simp only [eqV, Option.some.injEq] at h
    exact .inr (.inr (.inl ⟨.inr ⟨_, rfl⟩, rfl, h.symm⟩))
theorem eqV_iface {a b : AV} {r : Bool} (h : eqV orc .iface a b = some r) :
    (a = .nili ∧ b = .nili ∧ r = true) ∨ (a = .nili ∧ (∃ t v, b = .iface t v) ∧ r = false) ∨ ((∃ t v, a = .iface t v) ∧ b = .nili ∧ r = false) := by
  cases a <;> first | (simp [eqV] at h; done) | skip
  · cases b <;> first | (simp [eqV] at h; done) | skip
    simp only [eqV, Option.some.injEq] at h
    exact .inr (.inr ⟨⟨_, _, rfl⟩, rfl, h.symm⟩)
  · cases b <;> first | (simp [eqV] at h; done) | skip
    · simp only [eqV, Option.some.injEq] at h
      exact .inr (.inl ⟨rfl, ⟨_, _, rfl⟩, h.symm⟩)
    · simp only [eqV, Option.some.injEq] at h
      exact .inl ⟨rfl, rfl, h.symm⟩
theorem eqV_slice {a b : AV} {r : Bool} (h : eqV orc .slice a b = some r) :
    (a = .nils ∧ b = .nils ∧ r = true) ∨ (a = .nils ∧ ((∃ k o l s, b = .slice k o l s) ∨ ∃ k o l s, b = .sl k o l s) ∧ r = false) ∨ (((∃ k o l s, a = .slice k o l s) ∨ ∃ k o l s, a = .sl k o l s) ∧ b = .nils ∧ r = false) := by
  cases a <;> first | (simp [eqV] at h; done) | skip
  · cases b <;> first | (simp [eqV] at h; done) | skip
    simp only [eqV, Option.some.injEq] at h
    exact .inr (.inr ⟨.inl ⟨_, _, _, _, rfl⟩, rfl, h.symm⟩)
  · cases b <;> first | (simp [eqV] at h; done) | skip
    · simp only [eqV, Option.some.injEq] at h
      exact .inr (.inl ⟨rfl, .inl ⟨_, _, _, _, rfl⟩, h.symm⟩)
    · simp only [eqV, Option.some.injEq] at h
      exact .inl ⟨rfl, rfl, h.symm⟩
    · simp only [eqV, Option.some.injEq] at h
      exact .inr (.inl ⟨rfl, .inr ⟨_, _, _, _, rfl⟩, h.symm⟩)
  · cases b <;> first | (simp [eqV] at h; done) | skip
    simp only [eqV, Option.some.injEq] at h
    exact .inr (.inr ⟨.inr ⟨_, _, _, _, rfl⟩, rfl, h.symm⟩)
theorem eqV_func {a b : AV} {r : Bool} (h : eqV orc .func a b = some r) :
    (a = .nilf ∧ b = .nilf ∧ r = true) ∨ (a = .nilf ∧ (∃ f x y, b = .fn f x y) ∧ r = false) ∨ ((∃ f x y, a = .fn f x y) ∧ b = .nilf ∧ r = false) := by
  cases a <;> first | (simp [eqV] at h; done) | skip
  · cases b <;> first | (simp [eqV] at h; done) | skip
    simp only [eqV, Option.some.injEq] at h
    exact .inr (.inr ⟨⟨_, _, _, rfl⟩, rfl, h.symm⟩)
  · cases b <;> first | (simp [eqV] at h; done) | skip
    · simp only [eqV, Option.some.injEq] at h
      exact .inr (.inl ⟨rfl, ⟨_, _, _, rfl⟩, h.symm⟩)
    · simp only [eqV, Option.some.injEq] at h
      exact .inl ⟨rfl, rfl, h.symm⟩
theorem eqV_map {a b : AV} {r : Bool} (h : eqV orc .map a b = some r) :
    (a = .nilm ∧ b = .nilm ∧ r = true) ∨ (a = .nilm ∧ (∃ k, b = .map k) ∧ r = false) ∨ ((∃ k, a = .map k) ∧ b = .nilm ∧ r = false) := by
  cases a <;> first | (simp [eqV] at h; done) | skip
  · cases b <;> first | (simp [eqV] at h; done) | skip
    simp only [eqV, Option.some.injEq] at h
    exact .inr (.inr ⟨⟨_, rfl⟩, rfl, h.symm⟩)
  · cases b <;> first | (simp [eqV] at h; done) | skip
    · simp only [eqV, Option.some.injEq] at h
      exact .inr (.inl ⟨rfl, ⟨_, rfl⟩, h.symm⟩)
    · simp only [eqV, Option.some.injEq] at h
      exact .inl ⟨rfl, rfl, h.symm⟩

/- what a type's plan tells of the type -/
def PlanOk (P : Program) (t : TypeId) : EqP → Prop
  | .bool => P.underlying t = some .bool
  | .int => ∃ k, P.underlying t = some (.int k)
  | .str => P.underlying t = some .string
  | .ptr => ∃ e i, P.underlying t = some (.pointer e) ∧ P.info? e = some i ∧ i.size ≠ 0
  | .iface => ∃ ms, P.underlying t = some (.interface ms)
  | .slice => ∃ e, P.underlying t = some (.slice e)
  | .func => ∃ a b c, P.underlying t = some (.func a b c)
  | .map => ∃ a b, P.underlying t = some (.map a b)
  | .parts l => (∃ fs n, P.underlying t = some (.struct fs) ∧ P.stoodInHeld t = false ∧ eqFields P n fs.toList = some l) ∨
      ∃ len e i fs n l', P.underlying t = some (.array len e) ∧ P.info? e = some i ∧ P.underlying e = some (.struct fs) ∧ P.stoodInHeld e = false ∧ eqFields P n fs.toList = some l' ∧ (∀ x ∈ l', x.1 < i.size) ∧ l = partsA l' i.size len 0

theorem eqP_ok {n : Nat} {t : TypeId} {p : EqP} (hp : eqP P n t = some p) : PlanOk P t p := by
  cases n with
  | zero => simp [eqP] at hp
  | succ n =>
  unfold eqP at hp
  split at hp
  · simp only [Option.some.injEq] at hp; subst hp; assumption
  · simp only [Option.some.injEq] at hp; subst hp; exact ⟨_, ‹_›⟩
  · simp only [Option.some.injEq] at hp; subst hp; assumption
  · rename_i e hu
    split at hp
    · rename_i i hi
      cases hz : Nat.beq i.size 0 with
      | true => rw [hz] at hp; cases hp
      | false =>
        rw [hz] at hp
        simp only [cond_false, Option.some.injEq] at hp; subst hp
        exact ⟨e, i, hu, hi, by intro e; rw [e] at hz; cases hz⟩
    · cases hp
  · simp only [Option.some.injEq] at hp; subst hp; exact ⟨_, ‹_›⟩
  · simp only [Option.some.injEq] at hp; subst hp; exact ⟨_, ‹_›⟩
  · simp only [Option.some.injEq] at hp; subst hp; exact ⟨_, _, _, ‹_›⟩
  · simp only [Option.some.injEq] at hp; subst hp; exact ⟨_, _, ‹_›⟩
  · cases hs : P.stoodInHeld t with
    | true => rw [hs] at hp; cases hp
    | false =>
      rw [hs] at hp
      simp only [cond_false] at hp
      split at hp
      · simp only [Option.some.injEq] at hp; subst hp; exact .inl ⟨_, n, ‹_›, hs, ‹_›⟩
      · cases hp
  · rename_i len e hu
    split at hp
    · rename_i fs l i hue hpe hi
      cases hb : l.all (fun x => Nat.blt x.1 i.size) with
      | false => rw [hb] at hp; cases hp
      | true =>
        rw [hb] at hp
        simp only [cond_true, Option.some.injEq] at hp; subst hp
        have hlt : ∀ x ∈ l, x.1 < i.size := by
          intro x hx
          have := List.all_eq_true.1 hb x hx
          rwa [bltN_eq, decide_eq_true_eq] at this
        cases n with
        | zero => simp [eqP] at hpe
        | succ n =>
        unfold eqP at hpe
        rw [hue] at hpe
        simp only at hpe
        cases hs : P.stoodInHeld e with
        | true => rw [hs] at hpe; cases hpe
        | false =>
          rw [hs] at hpe
          simp only [cond_false] at hpe
          split at hpe
          · simp only [Option.some.injEq, EqP.parts.injEq] at hpe; subst hpe
            exact .inr ⟨len, e, i, fs, n, _, hu, hi, hue, hs, ‹_›, hlt, rfl⟩
          · cases hpe
    · cases hp
  · cases hp

set_option maxHeartbeats 1000000 in
theorem eqV_basic (ho : OrcOk ρ orc) {p : EqP} {t : TypeId} (hp : PlanOk P t p) (hne : ∀ l, p ≠ .parts l) {a b : AV} {r : Bool} (h : eqV orc p a b = some r)
    {x y : Value} (hx : VRel ρ μ a x) (hy : VRel ρ μ b y) (d : Nat) : (Op.equalIn (d + 1) t x y).run P w = .ok r w := by
  cases p with
  | bool =>
    obtain ⟨x', y', rfl, rfl, hr⟩ := eqV_bool h
    cases hx; cases hy
    have hu : P.underlying t = some .bool := hp
    simp only [Op.equalIn, Sem.run_bind, run_underlyingS hu, Result.andThen_ok, Sem.run_pure, hr]
  | int =>
    obtain ⟨k, x', y', rfl, rfl, hr⟩ := eqV_int h
    obtain ⟨k', hu⟩ := hp
    have hc := cmpI_sound ho hr
    cases hx with | int _ _ n1 h1 => cases hy with | int _ _ n2 h2 =>
    rw [h1, h2] at hc
    simp only [cmpDen, Option.some.injEq] at hc
    simp only [Op.equalIn, Sem.run_bind, run_underlyingS hu, Result.andThen_ok, if_true, Sem.run_pure, hc]
  | str =>
    obtain ⟨n1, c1, n2, c2, rfl, rfl, hr⟩ := eqV_str h
    have hu : P.underlying t = some .string := hp
    cases hx with | str _ _ s1 h1 h1' => cases hy with | str _ _ s2 h2 h2' =>
    subst h1 h1' h2 h2'
    rw [enc_beq] at hr
    simp only [Op.equalIn, Sem.run_bind, run_underlyingS hu, Result.andThen_ok, Sem.run_pure, Result.ok.injEq, and_true]
    rw [beq_toListBytes, ByteArray.toList_eq, ByteArray.toList_eq]; exact hr
  | ptr =>
    obtain ⟨e, i, hu, hi, hsz⟩ := hp
    rcases eqV_ptr h with ⟨rfl, rfl, rfl⟩ | ⟨rfl, ⟨_, _, rfl⟩ | ⟨_, rfl⟩, rfl⟩ | ⟨⟨_, _, rfl⟩ | ⟨_, rfl⟩, rfl, rfl⟩ | ⟨k, o1, o2, rfl, rfl, hr⟩
    · cases hx; cases hy; simp [Op.equalIn, run_underlyingS hu]
    · cases hx; cases hy; simp [Op.equalIn, run_underlyingS hu]
    · cases hx; cases hy; simp [Op.equalIn, run_underlyingS hu]
    · cases hx; cases hy; simp [Op.equalIn, run_underlyingS hu]
    · cases hx; cases hy; simp [Op.equalIn, run_underlyingS hu]
    · cases hx with | ptr _ _ l1 a1 m1 e1 => cases hy with | ptr _ _ l2 a2 m2 e2 =>
      rw [m1] at m2; cases m2
      subst e1 e2
      simp only [Op.equalIn, Sem.run_bind, run_underlyingS hu, Result.andThen_ok, run_sizeOfS hi, Sem.run_ite, ne_eq, hsz, not_false_eq_true, if_true, sameAddr, beq_self_eq_true, Sem.run_pure]
      simp only [Result.ok.injEq, and_true]
      rw [← hr, Bool.eq_iff_iff]
      simp
  | iface =>
    obtain ⟨ms, hu⟩ := hp
    rcases eqV_iface h with ⟨rfl, rfl, rfl⟩ | ⟨rfl, ⟨_, _, rfl⟩, rfl⟩ | ⟨⟨_, _, rfl⟩, rfl, rfl⟩ <;> (cases hx; cases hy; simp [Op.equalIn, run_underlyingS hu])
  | slice =>
    obtain ⟨e, hu⟩ := hp
    rcases eqV_slice h with ⟨rfl, rfl, rfl⟩ | ⟨rfl, ⟨_, _, _, _, rfl⟩ | ⟨_, _, _, _, rfl⟩, rfl⟩ | ⟨⟨_, _, _, _, rfl⟩ | ⟨_, _, _, _, rfl⟩, rfl, rfl⟩ <;> (cases hx; cases hy; simp [Op.equalIn, run_underlyingS hu])
  | func =>
    obtain ⟨_, _, _, hu⟩ := hp
    rcases eqV_func h with ⟨rfl, rfl, rfl⟩ | ⟨rfl, ⟨_, _, _, rfl⟩, rfl⟩ | ⟨⟨_, _, _, rfl⟩, rfl, rfl⟩ <;> (cases hx; cases hy; simp [Op.equalIn, run_underlyingS hu])
  | map =>
    obtain ⟨_, _, hu⟩ := hp
    rcases eqV_map h with ⟨rfl, rfl, rfl⟩ | ⟨rfl, ⟨_, rfl⟩, rfl⟩ | ⟨⟨_, rfl⟩, rfl, rfl⟩ <;> (cases hx; cases hy; simp [Op.equalIn, run_underlyingS hu])
  | parts l => exact absurd rfl (hne l)

/- the fields of a flat struct, one by one -/
theorem eqFields_sound (ho : OrcOk ρ orc) {A B : List AV} {xs ys : Array Value} (hx : VRels ρ μ A xs.toList) (hy : VRels ρ μ B ys.toList) (d : Nat) :
    ∀ (n : Nat) (fs : List Field) (l : List (Nat × EqP)) (r : Bool), eqFields P n fs = some l → eqParts orc l A B = some r → (Op.eqFields (d + 1) xs ys fs).run P w = .ok r w
  | n, [], l, r, hf, hp => by
    have : l = [] := by cases n <;> simpa [eqFields] using hf.symm
    subst this
    simp only [eqParts, Option.some.injEq] at hp
    subst hp
    rfl
  | 0, f :: fs, l, r, hf, hp => by simp [eqFields] at hf
  | n + 1, f :: fs, l, r, hf, hp => by
    simp only [eqFields] at hf
    cases hn : (f.name == "_") with
    | true => rw [hn] at hf; cases hf
    | false =>
      rw [hn] at hf
      simp only [cond_false] at hf
      have key : ∀ (q : EqP) (l' : List (Nat × EqP)), eqP P n f.type = some q → (∀ l, q ≠ .parts l) → eqFields P n fs = some l' → l = (f.offset, q) :: l' → (Op.eqFields (d + 1) xs ys (f :: fs)).run P w = .ok r w := by
        intro q l' hq hqn hl' hl
        subst hl
        simp only [eqParts, nth_eq] at hp
        split at hp
        · rename_i x y h1 h2
          have hok := eqP_ok hq
          obtain ⟨d', hd'⟩ : ∃ d', P.underlying f.type = some d' := by
            cases q with
            | bool => exact ⟨_, hok⟩
            | int => obtain ⟨k, hk⟩ := hok; exact ⟨_, hk⟩
            | str => exact ⟨_, hok⟩
            | ptr => obtain ⟨_, _, hk, _⟩ := hok; exact ⟨_, hk⟩
            | iface => obtain ⟨_, hk⟩ := hok; exact ⟨_, hk⟩
            | slice => obtain ⟨_, hk⟩ := hok; exact ⟨_, hk⟩
            | func => obtain ⟨_, _, _, hk⟩ := hok; exact ⟨_, hk⟩
            | map => obtain ⟨_, _, hk⟩ := hok; exact ⟨_, hk⟩
            | parts _ => exact absurd rfl (hqn _)
          have hnag : aggD d' = false := by
            cases q with
            | bool => have hk : P.underlying f.type = some .bool := hok; rw [hk] at hd'; cases hd'; rfl
            | int => obtain ⟨k, hk⟩ := hok; rw [hk] at hd'; cases hd'; rfl
            | str => have hk : P.underlying f.type = some .string := hok; rw [hk] at hd'; cases hd'; rfl
            | ptr => obtain ⟨_, _, hk, _⟩ := hok; rw [hk] at hd'; cases hd'; rfl
            | iface => obtain ⟨_, hk⟩ := hok; rw [hk] at hd'; cases hd'; rfl
            | slice => obtain ⟨_, hk⟩ := hok; rw [hk] at hd'; cases hd'; rfl
            | func => obtain ⟨_, _, _, hk⟩ := hok; rw [hk] at hd'; cases hd'; rfl
            | map => obtain ⟨_, _, hk⟩ := hok; rw [hk] at hd'; cases hd'; rfl
            | parts _ => exact absurd rfl (hqn _)
          have hpart : ∀ (L : List AV) (vs : Array Value) (u : AV), VRels ρ μ L vs.toList → L[f.offset]? = some u → ∃ v, (part f.type vs f.offset).run P w = .ok v w ∧ VRel ρ μ u v := by
            intro L vs u hL hu
            obtain ⟨v, hv, hr⟩ := hL.get f.offset u hu
            refine ⟨v, ?_, hr⟩
            have : vs[f.offset]? = some v := by simpa using hv
            simp [part, run_isAggS hd', hnag, this]
          obtain ⟨vx, hvx, hrx⟩ := hpart A xs x hx h1
          obtain ⟨vy, hvy, hry⟩ := hpart B ys y hy h2
          have hne : f.name ≠ "_" := by simpa using hn
          simp only [Op.eqFields, ne_eq, hne, not_false_eq_true, if_true, Sem.run_bind, hvx, hvy, Result.andThen_ok]
          split at hp
          · rename_i he
            rw [eqV_basic ho hok hqn he hrx hry d]
            simp only [Result.andThen_ok, Bool.not_true, Bool.false_eq_true, if_false]
            exact eqFields_sound ho hx hy d n fs l' r hl' hp
          · rename_i he
            simp only [Option.some.injEq] at hp; subst hp
            rw [eqV_basic ho hok hqn he hrx hry d]
            simp
          · cases hp
        · cases hp
      split at hf
      · simp only [Option.some.injEq] at hf; exact key _ _ ‹_› (by intro l; simp) ‹_› hf.symm
      · simp only [Option.some.injEq] at hf; exact key _ _ ‹_› (by intro l; simp) ‹_› hf.symm
      · simp only [Option.some.injEq] at hf; exact key _ _ ‹_› (by intro l; simp) ‹_› hf.symm
      · cases hf

/- arrays of flat structs -/
theorem eqParts_app (A B : List AV) : ∀ (l m : List (Nat × EqP)), eqParts orc (l ++ m) A B = (match eqParts orc l A B with | some true => eqParts orc m A B | some false => some false | none => none)
  | [], m => by simp [eqParts]
  | (off, p) :: l, m => by
    simp only [List.cons_append, eqParts, eqParts_app A B l m]
    split
    · split
      · rfl
      · rfl
      · rfl
    · rfl
theorem eqParts_shift (A B : List AV) (off sz : Nat) : ∀ (l : List (Nat × EqP)), (∀ x ∈ l, x.1 < sz) → eqParts orc (l.map fun x => (off + x.1, x.2)) A B = eqParts orc l ((A.drop off).take sz) ((B.drop off).take sz)
  | [], _ => by simp [eqParts]
  | (o, p) :: l, h => by
    have h0 : o < sz := h (o, p) (by simp)
    have e : ∀ (L : List AV), ((L.drop off).take sz)[o]? = L[off + o]? := by
      intro L
      rw [List.getElem?_take_of_lt h0, List.getElem?_drop]
    simp only [List.map_cons, eqParts, nth_eq, e, eqParts_shift A B off sz l fun x hx => h x (by simp [hx])]
theorem part_struct {e : TypeId} {i : TypeInfo} {fs : Array Field} (hi : P.info? e = some i) (hu : P.underlying e = some (.struct fs)) (xs : Array Value) (off : Nat) :
    (part e xs off).run P w = .ok (.agg (xs.extract off (off + i.size))) w := by
  simp [part, run_isAggS hu, aggD, run_sizeOfS hi]
theorem extract_rel {A : List AV} {xs : Array Value} (hx : VRels ρ μ A xs.toList) (off n : Nat) : VRels ρ μ ((A.drop off).take n) (xs.extract off (off + n)).toList := by
  have : (xs.extract off (off + n)).toList = (xs.toList.drop off).take n := by
    simp [List.extract]
  rw [this]
  exact (hx.drop off).take n
theorem eqItems_sound (ho : OrcOk ρ orc) {e : TypeId} {i : TypeInfo} {fs : Array Field} {n : Nat} {l : List (Nat × EqP)} (hi : P.info? e = some i) (hu : P.underlying e = some (.struct fs)) (hst : P.stoodInHeld e = false) (hf : eqFields P n fs.toList = some l) (hlt : ∀ x ∈ l, x.1 < i.size)
    {A B : List AV} {xs ys : Array Value} (hx : VRels ρ μ A xs.toList) (hy : VRels ρ μ B ys.toList) (d : Nat) :
    ∀ (m j : Nat) (r : Bool), eqParts orc (partsA l i.size m (j * i.size)) A B = some r → (Op.eqItems (d + 2) e i.size xs ys (List.range' j m)).run P w = .ok r w
  | 0, j, r, h => by
    simp only [partsA, eqParts, Option.some.injEq] at h
    subst h
    simp [Op.eqItems]
  | m + 1, j, r, h => by
    simp only [partsA, eqParts_app, eqParts_shift A B _ i.size l hlt] at h
    have hfo : P.fieldsOf e = fs := by simp [Program.fieldsOf, hu]
    have he : ∀ q, eqParts orc l ((A.drop (j * i.size)).take i.size) ((B.drop (j * i.size)).take i.size) = some q →
        (Op.equalIn (d + 2) e (.agg (xs.extract (j * i.size) (j * i.size + i.size))) (.agg (ys.extract (j * i.size) (j * i.size + i.size)))).run P w = .ok q w := by
      intro q hq
      rw [show d + 2 = d + 1 + 1 from rfl, run_equalIn_agg w (d + 1) e _ _ (by rw [hfo]; exact hu) hst, hfo]
      exact eqFields_sound ho (extract_rel hx _ _) (extract_rel hy _ _) d n fs.toList l q hf hq
    simp only [List.range'_succ, Op.eqItems, Sem.run_bind, part_struct hi hu, Result.andThen_ok]
    split at h
    · rename_i hq
      rw [he _ hq]
      simp only [Result.andThen_ok, Bool.not_true, Bool.false_eq_true, if_false]
      have hj : (j + 1) * i.size = j * i.size + i.size := by rw [Nat.add_mul, Nat.one_mul]
      exact eqItems_sound ho hi hu hst hf hlt hx hy d m (j + 1) r (by rw [hj]; exact h)
    · rename_i hq
      simp only [Option.some.injEq] at h; subst h
      rw [he _ hq]
      simp
    · cases h
theorem eqAgg_sound (ho : OrcOk ρ orc) {t : TypeId} {l : List (Nat × EqP)} (hp : PlanOk P t (.parts l)) {A B : List AV} {xs ys : Array Value} (hx : VRels ρ μ A xs.toList) (hy : VRels ρ μ B ys.toList) {r : Bool} (h : eqParts orc l A B = some r) (d : Nat) :
    (Op.equalIn (d + 3) t (.agg xs) (.agg ys)).run P w = .ok r w := by
  rcases hp with ⟨fs, n, hu, hst, hf⟩ | ⟨len, e, i, fs, n, l', hu, hi, hue, hst, hf, hlt, rfl⟩
  · have hfo : P.fieldsOf t = fs := by simp [Program.fieldsOf, hu]
    rw [show d + 3 = d + 2 + 1 from rfl, run_equalIn_agg w (d + 2) t xs ys (by rw [hfo]; exact hu) hst, hfo]
    exact eqFields_sound ho hx hy (d + 1) n fs.toList l r hf h
  · have hc : P.cellsOf e = i.size := by simp [Program.cellsOf, hi]
    rw [show d + 3 = d + 2 + 1 from rfl, run_equalIn_array w (d + 2) xs ys hu hi, hc, List.range_eq_range']
    exact eqItems_sound ho hi hue hst hf hlt hx hy d len 0 r (by simpa using h)
end
end Go.Sx
/-
  SX: every operation that leaves memory alone. No condition.
-/
namespace Go.Sx
open Go.RowKit

section
variable {P : Program} {ρ : Nat → Int} {w0 : W0} {w : World} {μ : Mu} {G : Key → Option Blk} {nx : Nat} {orc : Orc} {nt : Nat} {tm : T AV} {ev : Operand → Value}

theorem pX_of {x : Operand} {px : PX} {a : AV} {xs : List Operand} (hE : ERel P ρ μ nt xs tm ev) (hx : x ∈ xs) (hp : pX P nt x = some px) (ha : px.at tm = some a) : VRel ρ μ a (ev x) := hE x hx px a hp ha

theorem bound_sound {lo : Option Operand} {plo : Option PX} (hp : pOpt P nt lo = some plo) {dflt l : Nat} (hb : boundOf tm dflt plo = some l) {xs : List Operand} (hE : ERel P ρ μ nt xs tm ev)
    (hx : ∀ x, lo = some x → x ∈ xs) : (lo = none ∧ l = dflt) ∨ (∃ x k, lo = some x ∧ ev x = .int k (l : Int)) := by
  cases lo with
  | none =>
    simp only [pOpt, Option.some.injEq] at hp; subst hp
    simp only [boundOf, Option.some.injEq] at hb
    exact .inl ⟨rfl, hb.symm⟩
  | some x =>
    right
    simp only [pOpt] at hp
    split at hp
    · rename_i a ha
      simp only [Option.some.injEq] at hp; subst hp
      simp only [boundOf] at hb
      split at hb
      · cases hb
      · rename_i v hv
        obtain ⟨k, hk⟩ := natOf_sound hb (hE x (hx x rfl) a v ha hv)
        exact ⟨x, k, rfl, hk⟩
    · cases hp

theorem sliceBound_run {k : IntKind} {i y : Nat} (code : BoundsCode) (h : i ≤ y) : (Instr.sliceBound (.int k (i : Int)) y code).run P w = .ok i w := by
  simp only [Instr.sliceBound, asIntOf, Sem.run_bind, Sem.run_pure, Result.andThen_ok]
  rw [if_pos (by omega)]
  simp

theorem sliceBounds_run {isSlice : Bool} {len cap l r : Nat} {lo hi : Option Value} (hlo : (lo = none ∧ l = 0) ∨ ∃ k, lo = some (.int k (l : Int))) (hhi : (hi = none ∧ r = len) ∨ ∃ k, hi = some (.int k (r : Int)))
    (h1 : l ≤ r) (h2 : r ≤ len) (h3 : len ≤ cap) : (Instr.sliceBounds isSlice len cap lo hi none).run P w = .ok (l, r, cap) w := by
  rcases hlo with ⟨rfl, rfl⟩ | ⟨k, rfl⟩ <;> rcases hhi with ⟨rfl, rfl⟩ | ⟨k', rfl⟩ <;> simp only [Instr.sliceBounds, Sem.run_bind, Sem.run_pure, Result.andThen_ok]
  · rw [sliceBound_run _ (by omega)]; rfl
  · rw [sliceBound_run _ (by omega)]; rfl
  · rw [sliceBound_run _ (by omega), Result.andThen_ok, sliceBound_run _ (by omega)]; rfl

/- the kind of a map's keys -/
def KeyKind (P : Program) (kt : TypeId) (sk : Bool) (kd : TypeDesc) : Prop := P.underlying kt = some kd ∧ (if sk then kd = .string else ∃ k, kd = .int k)

theorem keyEq_sound (ho : OrcOk ρ orc) {kt : TypeId} {kd : TypeDesc} {sk : Bool} (hu : KeyKind P kt sk kd) {k a : AV} {x y : Value} (hx : VRel ρ μ k x) (hy : VRel ρ μ a y) {b : Bool}
    (hb : keyEq orc sk k a = some b) : Instr.sameNow kd x y = some b := by
  obtain ⟨_, hk'⟩ := hu
  cases k <;> first | (simp [keyEq] at hb; done) | skip
  · cases a <;> first | (simp [keyEq] at hb; done) | skip
    rename_i k1 s1 k2 s2
    simp only [keyEq] at hb
    cases hk : beqKind k1 k2 with
    | false => rw [hk] at hb; cases hb
    | true =>
      rw [hk] at hb
      cases sk with
      | true => cases hb
      | false =>
        have := beqKind_eq hk
        subst this
        simp only [Bool.not_false, Bool.and_true, cond_true] at hb
        have hc := cmpI_sound ho hb
        cases hx with | int _ _ n1 e1 => cases hy with | int _ _ n2 e2 =>
        rw [e1, e2] at hc
        simp only [cmpDen, Option.some.injEq] at hc
        obtain ⟨k', rfl⟩ : ∃ k, kd = .int k := by simpa using hk'
        simp [Instr.sameNow, hc]
  · cases a <;> first | (simp [keyEq] at hb; done) | skip
    cases sk with
    | false => simp [keyEq] at hb
    | true =>
      simp only [keyEq, cond_true, Option.some.injEq] at hb
      cases hx with | str _ _ s1 e1 e1' => cases hy with | str _ _ s2 e2 e2' =>
      subst e1 e1' e2 e2'
      rw [enc_beq] at hb
      have : kd = .string := by simpa using hk'
      subst this
      simp only [Instr.sameNow, Option.some.injEq]
      rw [beq_toListBytes, ByteArray.toList_eq, ByteArray.toList_eq]; exact hb

def FoundRel (ρ : Nat → Int) (μ : Mu) : Option AV → Option (Nat × Value) → Prop
  | none, none => True
  | some a, some (_, v) => VRel ρ μ a v
  | _, _ => False

theorem findK_sound (ho : OrcOk ρ orc) {kt : TypeId} {kd : TypeDesc} {sk : Bool} (hu : KeyKind P kt sk kd) {k : AV} {x : Value} (hx : VRel ρ μ k x) :
    ∀ {l : List (AV × AV)} {es : List MapEntry} (i : Nat) {r : Option AV}, Pairs ρ μ l es → findK orc sk k l = some r →
      ∃ f, Instr.findNow kd x es i = some f ∧ FoundRel ρ μ r f
  | [], [], i, r, hp, h => by
    simp only [findK, Option.some.injEq] at h; subst h
    exact ⟨none, rfl, trivial⟩
  | [], _ :: _, i, r, hp, h => hp.elim
  | (_, _) :: _, [], i, r, hp, h => hp.elim
  | (a, v) :: l, e :: es, i, r, hp, h => by
    obtain ⟨h1, h2, h3⟩ := hp
    simp only [findK] at h
    split at h
    · rename_i hk
      simp only [Option.some.injEq] at h; subst h
      refine ⟨some (i, e.val), ?_, h2⟩
      simp [Instr.findNow, keyEq_sound ho hu hx h1 hk]
    · rename_i hk
      obtain ⟨f, hf, hr⟩ := findK_sound ho hu hx (i + 1) h3 h
      refine ⟨f, ?_, hr⟩
      simp [Instr.findNow, keyEq_sound ho hu hx h1 hk, hf]
    · cases h

theorem run_findKey {kt : TypeId} {kd : TypeDesc} (hu : P.underlying kt = some kd) {x : Value} {es : List MapEntry} {f : Option (Nat × Value)} (h : Instr.findNow kd x es 0 = some f) :
    (Instr.findKey kt x es).run P w = .ok f w := by
  simp [Instr.findKey, run_underlyingS hu, h]
theorem run_checkKey {kt : TypeId} {kd : TypeDesc} {sk : Bool} (hu : KeyKind P kt sk kd) (e : Bool) (n : Nat) (x : Value) : (Instr.checkKey e (n + 1) kt x).run P w = .ok () w := by
  obtain ⟨hu, hk⟩ := hu
  cases sk with
  | true =>
    have : kd = .string := by simpa using hk
    subst this
    simp [Instr.checkKey, run_underlyingS hu]
  | false =>
    obtain ⟨k, rfl⟩ : ∃ k, kd = .int k := by simpa using hk
    simp [Instr.checkKey, run_underlyingS hu]
end
end Go.Sx
/-
  SX: every operation that leaves memory alone: the theorem. No condition.
-/
namespace Go.Sx
open Go.RowKit

section
variable {P : Program} {ρ : Nat → Int} {w0 : W0} {w : World} {μ : Mu} {G : Key → Option Blk} {nx : Nat} {orc : Orc} {nt : Nat} {tm : T AV} {H : T Blk} {ev : Operand → Value}

/- an operation's value -/
theorem run_v {s : Sem Value} {v : Value} {w' : World} (h : s.run P w = .ok v w') : (do pure (Next.value (← s)) : Sem Next).run P w = .ok (.value v) w' := by
  simp [h]

theorem cond_some {α : Type} {b : Bool} {x : Option α} {y : α} (h : (bif b then x else none) = some y) : b = true ∧ x = some y := by
  cases b with
  | true => exact ⟨rfl, h⟩
  | false => cases h

theorem shl_run (k yk : IntKind) (a : Int) (n : Nat) (hle : n ≤ k.bits) : (Op.shift .shl k a yk (n : Int)).run P w = .ok (.int k (k.wrap (a * 2 ^ n))) w := by
  have h0 : ¬ ((n : Int) < 0) := by omega
  have : min n k.bits = n := by omega
  simp [Op.shift, h0, this]
theorem shr_run (k yk : IntKind) (a : Int) (n : Nat) (hle : n ≤ k.bits) : (Op.shift .shr k a yk (n : Int)).run P w = .ok (.int k (a.fdiv (2 ^ n))) w := by
  have h0 : ¬ ((n : Int) < 0) := by omega
  have : min n k.bits = n := by omega
  simp [Op.shift, h0, this]

/- binary operations on integers and strings -/
theorem bin_sound (ho : OrcOk ρ orc) {op : BinOp} {t : TypeId} {X Y : Operand} {a b : AV} {x y : Value} (hx : VRel ρ μ a x) (hy : VRel ρ μ b y) {r : AV}
    (h : lightOp orc (.bin op (.v a) (.v b)) tm H = some r) :
    ∃ v, (do eqGuard op t X Y x y; Go.binOp op t x y : Sem Value).run P w = .ok v w ∧ VRel ρ μ r v := by
  simp only [lightOp, PX.at] at h
  cases hx <;> first | (simp at h; done) | skip
  · cases hy <;> first | (simp at h; done) | skip
    rename_i k1 s1 n1 e1 k2 s2 n2 e2
    have hg : (eqGuard op t X Y (.int k1 n1) (.int k2 n2)).run P w = .ok () w := by
      cases op <;> simp [eqGuard]
    simp only [Sem.run_bind, hg, Result.andThen_ok]
    have rest : (bif beqKind k1 k2 then (bif isCmp op then (match cmpI orc op s1 s2 with | some r => some (AV.bool r) | none => none) else (match arith op k1 s1 s2 with | some r => some (AV.int k1 r) | none => none)) else none) = some r →
        ∃ v, (Go.binOp op t (.int k1 n1) (.int k2 n2)).run P w = .ok v w ∧ VRel ρ μ r v := by
      intro hq
      obtain ⟨hk, hq2⟩ := cond_some hq
      have := beqKind_eq hk
      subst this
      clear hq h
      cases hc : isCmp op with
      | true =>
        rw [hc] at hq2
        simp only [cond_true] at hq2
        split at hq2
        · rename_i r' hr'
          simp only [Option.some.injEq] at hq2; subst hq2
          have hd := cmpI_sound ho hr'
          rw [e1, e2] at hd
          refine ⟨.bool r', ?_, .bool _⟩
          rw [← cmpDen_run (P := P) (w := w) hd]
          cases op <;> simp [isCmp] at hc <;> simp [Go.binOp]
        · cases hq2
      | false =>
        rw [hc] at hq2
        simp only [cond_false] at hq2
        split at hq2
        · rename_i r' hr'
          simp only [Option.some.injEq] at hq2; subst hq2
          have := arith_sound (ρ := ρ) (P := P) (w := w) t hr'
          rw [e1, e2] at this
          exact ⟨_, this, .int _ _ _ rfl⟩
        · cases hq2
    cases op <;> first | exact rest h | skip
    · simp only at h
      split at h
      · rename_i a n
        obtain ⟨hsh, h2⟩ := cond_some h
        simp only [Option.some.injEq] at h2; subst h2
        have e2' : n2 = (n : Int) := e2.symm
        have e1' : n1 = a := e1.symm
        subst e2' e1'
        refine ⟨_, shl_run k1 k2 n1 n (shOk_le hsh), .int _ _ _ ?_⟩
        simp only [SI.den, wrapF_eq]
        apply congrArg
        show n1 * ((2 ^ n : Nat) : Int) = n1 * 2 ^ n
        simp
      · cases h
    · simp only at h
      split at h
      · rename_i a n
        obtain ⟨hsh, h2⟩ := cond_some h
        simp only [Option.some.injEq] at h2; subst h2
        have e2' : n2 = (n : Int) := e2.symm
        have e1' : n1 = (a : Int) := e1.symm
        subst e2' e1'
        refine ⟨_, shr_run k1 k2 a n (shOk_le hsh), .int _ _ _ ?_⟩
        simp only [SI.den]
        show ((a / 2 ^ n : Nat) : Int) = _
        have hp : (0 : Int) ≤ 2 ^ n := by
          have : ((2 ^ n : Nat) : Int) = 2 ^ n := by simp
          exact this ▸ Int.natCast_nonneg _
        rw [Int.fdiv_eq_ediv_of_nonneg _ hp]
        simp
      · rename_i a n
        obtain ⟨hsh, h2⟩ := cond_some h
        simp only [Option.some.injEq] at h2; subst h2
        have e2' : n2 = (n : Int) := e2.symm
        have e1' : n1 = Int.negSucc a := e1.symm
        subst e2' e1'
        refine ⟨_, shr_run k1 k2 (Int.negSucc a) n (shOk_le hsh), .int _ _ _ ?_⟩
        simp only [SI.den]
        have hc : ((2 : Int) ^ n) = ((2 ^ n : Nat) : Int) := by simp
        rw [hc]
        have hpos : 0 < 2 ^ n := Nat.two_pow_pos n
        obtain ⟨m, hm⟩ : ∃ m, 2 ^ n = m + 1 := ⟨2 ^ n - 1, by omega⟩
        show Int.negSucc (a / 2 ^ n) = _
        rw [hm]
        rfl
      · cases h
  · cases hy <;> first | (simp at h; done) | skip
    rename_i n1 c1 s1 h1 h1' n2 c2 s2 h2 h2'
    subst h1 h1' h2 h2'
    have hg : (eqGuard op t X Y (.string s1) (.string s2)).run P w = .ok () w := by
      cases op <;> simp [eqGuard]
    simp only [Sem.run_bind, hg, Result.andThen_ok]
    obtain ⟨v, hv, hr⟩ := opS_sound (P := P) (w := w) (ρ := ρ) (μ := μ) (x := s1) (y := s2) h
    refine ⟨v, ?_, hr⟩
    rw [← hv]
    cases op <;> simp [Go.binOp]
end
end Go.Sx
/-
  SX: every operation that leaves memory alone: the theorem. No condition.
-/
namespace Go.Sx
open Go.RowKit

section
variable {P : Program} {ρ : Nat → Int} {w0 : W0} {w : World} {μ : Mu} {G : Key → Option Blk} {nx : Nat} {orc : Orc} {nt : Nat} {tm : T AV} {H : T Blk} {ev : Operand → Value}

theorem run_eqGuard_nil (op : BinOp) (t : TypeId) {X Y : Operand} (h : isConstO X = true ∨ isConstO Y = true) : (eqGuard op t X Y .nilIface .nilIface).run P w = .ok () w := by
  rcases h with h | h
  · cases X <;> simp [isConstO] at h
    cases op <;> simp [eqGuard]
  · cases Y <;> simp [isConstO] at h
    cases op <;> simp [eqGuard]

/- equality by a plan, at the top -/
theorem eq_sound (ho : OrcOk ρ orc) {op : BinOp} {neg : Bool} (hop : op = if neg then .neq else .eql) {t : TypeId} {p : EqP} (hp : PlanOk P t p) (hni : p ≠ .int) (hns : p ≠ .str)
    {X Y : Operand} {a b : AV} {x y : Value} (hx : VRel ρ μ a x) (hy : VRel ρ μ b y) {r : Bool} (h : eqV orc p a b = some r)
    (hg : (∃ l, p = .parts l) → P.eqGuardType P.depth t = false) (hc : p = .iface → isConstO X = true ∨ isConstO Y = true) :
    (do eqGuard op t X Y x y; Go.binOp op t x y : Sem Value).run P w = .ok (.bool (bif neg then !r else r)) w := by
  have fin : ∀ (x y : Value), (eqGuard op t X Y x y).run P w = .ok () w → (Op.equalIn 10000 t x y).run P w = .ok r w → (∀ (k : IntKind) (n : Int), x ≠ .int k n) → (∀ s, x ≠ .string s) → (∀ k n, x ≠ .float k n) → (∀ k n m, x ≠ .complex k n m) →
      (do eqGuard op t X Y x y; Go.binOp op t x y : Sem Value).run P w = .ok (.bool (bif neg then !r else r)) w := by
    intro x y hg he h1 h2 h3 h4
    simp only [Sem.run_bind, hg, Result.andThen_ok]
    subst hop
    cases neg with
    | false =>
      simp only [Bool.false_eq_true, if_false, cond_false]
      cases x <;> first | exact absurd rfl (h1 _ _) | exact absurd rfl (h2 _) | exact absurd rfl (h3 _ _) | exact absurd rfl (h4 _ _ _) | skip
      all_goals simp only [Go.binOp, Op.equal, Op.maxDepth, Sem.run_bind, he, Result.andThen_ok, Sem.run_pure]
    | true =>
      simp only [if_true, cond_true]
      cases x <;> first | exact absurd rfl (h1 _ _) | exact absurd rfl (h2 _) | exact absurd rfl (h3 _ _) | exact absurd rfl (h4 _ _ _) | skip
      all_goals simp only [Go.binOp, Op.equal, Op.maxDepth, Sem.run_bind, he, Result.andThen_ok, Sem.run_pure]
  have gtriv : ∀ (x y : Value), (∀ v, x ≠ .agg v) → x ≠ .nilIface → (eqGuard op t X Y x y).run P w = .ok () w := by
    intro x y h1 h2
    subst hop
    cases neg <;> cases x <;> first | exact absurd rfl (h1 _) | exact absurd rfl h2 | simp [eqGuard]
  cases p with
  | int => exact absurd rfl hni
  | str => exact absurd rfl hns
  | bool =>
    have he := eqV_basic (P := P) (w := w) ho hp (by intro l; simp) h hx hy 9999
    obtain ⟨x', y', rfl, rfl, hr⟩ := eqV_bool h
    cases hx; cases hy
    exact fin _ _ (gtriv _ _ (by simp) (by simp)) he (by simp) (by simp) (by simp) (by simp)
  | ptr =>
    have he := eqV_basic (P := P) (w := w) ho hp (by intro l; simp) h hx hy 9999
    have : ∃ q, x = .pointer q := by
      rcases eqV_ptr h with ⟨rfl, rfl, rfl⟩ | ⟨rfl, ⟨_, _, rfl⟩ | ⟨_, rfl⟩, rfl⟩ | ⟨⟨_, _, rfl⟩ | ⟨_, rfl⟩, rfl, rfl⟩ | ⟨k, o1, o2, rfl, rfl, hr⟩ <;> (cases hx; exact ⟨_, rfl⟩)
    obtain ⟨q, rfl⟩ := this
    exact fin _ _ (gtriv _ _ (by simp) (by simp)) he (by simp) (by simp) (by simp) (by simp)
  | iface =>
    have he := eqV_basic (P := P) (w := w) ho hp (by intro l; simp) h hx hy 9999
    have hcst := hc rfl
    have hgi : (eqGuard op t X Y .nilIface .nilIface).run P w = .ok () w := run_eqGuard_nil op t hcst
    rcases eqV_iface h with ⟨rfl, rfl, rfl⟩ | ⟨rfl, ⟨_, _, rfl⟩, rfl⟩ | ⟨⟨_, _, rfl⟩, rfl, rfl⟩
    · cases hx; cases hy; exact fin _ _ hgi he (by simp) (by simp) (by simp) (by simp)
    · cases hx; cases hy; exact fin _ _ (by subst hop; cases neg <;> simp [eqGuard]) he (by simp) (by simp) (by simp) (by simp)
    · cases hx; cases hy; exact fin _ _ (gtriv _ _ (by simp) (by simp)) he (by simp) (by simp) (by simp) (by simp)
  | slice =>
    have he := eqV_basic (P := P) (w := w) ho hp (by intro l; simp) h hx hy 9999
    have : ∃ q l c, x = .slice q l c := by
      rcases eqV_slice h with ⟨rfl, rfl, rfl⟩ | ⟨rfl, ⟨_, _, _, _, rfl⟩ | ⟨_, _, _, _, rfl⟩, rfl⟩ | ⟨⟨_, _, _, _, rfl⟩ | ⟨_, _, _, _, rfl⟩, rfl, rfl⟩ <;> (cases hx; exact ⟨_, _, _, rfl⟩)
    obtain ⟨_, _, _, rfl⟩ := this
    exact fin _ _ (gtriv _ _ (by simp) (by simp)) he (by simp) (by simp) (by simp) (by simp)
  | func =>
    have he := eqV_basic (P := P) (w := w) ho hp (by intro l; simp) h hx hy 9999
    rcases eqV_func h with ⟨rfl, rfl, rfl⟩ | ⟨rfl, ⟨_, _, _, rfl⟩, rfl⟩ | ⟨⟨_, _, _, rfl⟩, rfl, rfl⟩ <;> (cases hx; exact fin _ _ (gtriv _ _ (by simp) (by simp)) he (by simp) (by simp) (by simp) (by simp))
  | map =>
    have he := eqV_basic (P := P) (w := w) ho hp (by intro l; simp) h hx hy 9999
    rcases eqV_map h with ⟨rfl, rfl, rfl⟩ | ⟨rfl, ⟨_, rfl⟩, rfl⟩ | ⟨⟨_, rfl⟩, rfl, rfl⟩ <;> (cases hx; exact fin _ _ (gtriv _ _ (by simp) (by simp)) he (by simp) (by simp) (by simp) (by simp))
  | parts l =>
    cases a <;> first | (simp [eqV] at h; done) | skip
    cases b <;> first | (simp [eqV] at h; done) | skip
    simp only [eqV] at h
    cases hx with | agg _ xs hx => cases hy with | agg _ ys hy =>
    have he : (Op.equalIn 10000 t (.agg xs) (.agg ys)).run P w = .ok r w := eqAgg_sound ho hp hx hy h 9997
    exact fin _ _ (run_eqGuard_agg w op t X Y xs ys (hg ⟨l, rfl⟩)) he (by simp) (by simp) (by simp) (by simp)
end
end Go.Sx
/-
  SX: every operation that leaves memory alone: the theorem. No condition.
-/
namespace Go.Sx
open Go.RowKit

section
variable {P : Program} {ρ : Nat → Int} {w0 : W0} {w : World} {μ : Mu} {G : Key → Option Blk} {nx : Nat} {orc : Orc} {nt : Nat} {tm : T AV} {H : T Blk} {ev : Operand → Value}

theorem ofBytes_spec : ∀ {l : List AV} {vs : List Value} {n c : Nat}, ofBytes l = some (n, c) → VRels ρ μ l vs → ∃ bs : List UInt8, vs = bs.map (fun b => Value.int .u8 (b.toNat : Int)) ∧ bs.length = n ∧ enc bs = c
  | [], vs, n, c, h, hr => by
    simp only [ofBytes, Option.some.injEq, Prod.mk.injEq] at h
    cases hr
    exact ⟨[], rfl, by simpa using h.1, by simpa [enc] using h.2⟩
  | a :: l, vs, n, c, h, hr => by
    cases hr with | cons _ _ v vs hv hvs =>
    unfold ofBytes at h
    split at h
    · rename_i heq; cases heq
    · rename_i b l' heq
      cases heq
      split at h
      · rename_i m d hm
        replace h := cond_some h; obtain ⟨hlt, h⟩ := h
        rw [bltN_eq, decide_eq_true_eq] at hlt
        simp only [Option.some.injEq, Prod.mk.injEq] at h
        obtain ⟨bs, e1, e2, e3⟩ := ofBytes_spec hm hvs
        cases hv with | int _ _ k hk =>
        refine ⟨UInt8.ofNat b :: bs, ?_, ?_, ?_⟩
        · rw [e1, ← hk]
          simp only [SI.den, List.map_cons, List.cons.injEq, Value.int.injEq, true_and, and_true]
          show (b : Int) = _
          simp [Nat.mod_eq_of_lt hlt]
        · simp [e2, ← h.1]
        · simp [enc, e3, ← h.2, Nat.mod_eq_of_lt hlt]
      · cases h
    · cases h

theorem foldl_push (bs : List UInt8) : ∀ (s : ByteArray), ((bs.map fun b => ((b.toNat : Nat) : Int)).foldl (fun r n => r.push (UInt8.ofNat n.toNat)) s).data.toList = s.data.toList ++ bs := by
  induction bs with
  | nil => intro s; simp
  | cons b bs ih =>
    intro s
    simp only [List.map_cons, List.foldl_cons]
    rw [ih]
    simp [ByteArray.push]

theorem pXs_one {xs : List Operand} {p : PX} (h : pXs P nt xs = some [p]) : ∃ x, xs = [x] ∧ pX P nt x = some p := by
  cases xs with
  | nil => simp [pXs] at h
  | cons x xs =>
    simp only [pXs] at h
    split at h
    · rename_i a r h1 h2
      simp only [Option.some.injEq, List.cons.injEq] at h
      obtain ⟨rfl, rfl⟩ := h
      cases xs with
      | nil => exact ⟨x, rfl, h1⟩
      | cons y ys =>
        simp only [pXs] at h2
        split at h2 <;> cases h2
    · cases h
theorem pXs_two {xs : List Operand} {p q : PX} (h : pXs P nt xs = some [p, q]) : ∃ x y, xs = [x, y] ∧ pX P nt x = some p ∧ pX P nt y = some q := by
  cases xs with
  | nil => simp [pXs] at h
  | cons x xs =>
    simp only [pXs] at h
    split at h
    · rename_i a r h1 h2
      simp only [Option.some.injEq, List.cons.injEq] at h
      obtain ⟨rfl, rfl⟩ := h
      obtain ⟨y, rfl, hy⟩ := pXs_one h2
      exact ⟨x, y, rfl, h1, hy⟩
    · cases h

theorem bin_at {op : BinOp} {x y : PX} {r : AV} (h : lightOp orc (.bin op x y) tm H = some r) : ∃ a b, x.at tm = some a ∧ y.at tm = some b ∧ lightOp orc (.bin op (.v a) (.v b)) tm H = some r := by
  cases hx : x.at tm with
  | none => simp [lightOp, hx] at h
  | some a =>
    cases hy : y.at tm with
    | none => simp [lightOp, hx, hy] at h
    | some b =>
      refine ⟨a, b, rfl, rfl, ?_⟩
      have e1 : (PX.v a).at tm = some a := rfl
      have e2 : (PX.v b).at tm = some b := rfl
      simp only [lightOp, hx, hy, e1, e2] at h ⊢
      exact h

theorem stamped_at (hM : MRel P ρ w0 μ G nx w) (hH : HSub H G) {b : Key} {L : List (Nat × AV × AV)} {c : Nat} (h : stamped b H = some (L, c)) :
    ∃ l es, μ b = some l ∧ w.heap[l.c]? = some (.map es c) ∧ PairsS ρ μ L es.toList := by
  unfold stamped at h
  split at h
  · rename_i L' hL'
    simp only [Option.some.injEq, Prod.mk.injEq] at h
    obtain ⟨rfl, rfl⟩ := h
    obtain ⟨l, o, h1, h2, h3⟩ := hM.blk b _ (hH _ _ hL')
    cases h3 with | map _ _ es clock hpairs hborn hclk =>
    subst hclk
    rw [lenL_eq]
    exact ⟨l, es, h1, h2, hpairs.stamps 0 (by simpa using hborn)⟩
  · rename_i L' c' hL'
    simp only [Option.some.injEq, Prod.mk.injEq] at h
    obtain ⟨rfl, rfl⟩ := h
    obtain ⟨l, o, h1, h2, h3⟩ := hM.blk b _ (hH _ _ hL')
    cases h3 with | mapD _ _ es clock hpairs =>
    exact ⟨l, es, h1, h2, hpairs⟩
  · cases h
theorem findS_rel {s : Nat} {a : AV} : ∀ {L : List (Nat × AV × AV)} {es : List MapEntry}, PairsS ρ μ L es → findS s L = some a → ∃ k v e, a = .tuple [k, v] ∧ es.find? (fun e => e.born == s) = some e ∧ VRel ρ μ k e.key ∧ VRel ρ μ v e.val
  | [], _, _, h => by cases h
  | (t, k, v) :: l, [], hp, h => hp.elim
  | (t, k, v) :: l, e :: es, hp, h => by
    obtain ⟨h0, h1, h2, h3⟩ := hp
    simp only [findS, beqN_eq] at h
    by_cases hts : t = s
    · subst hts
      simp only [decide_true, cond_true, Option.some.injEq] at h
      exact ⟨k, v, e, h.symm, by simp [h0], h1, h2⟩
    · simp only [hts, decide_false, cond_false] at h
      obtain ⟨k', v', e', q1, q2, q3⟩ := findS_rel h3 h
      refine ⟨k', v', e', q1, ?_, q3⟩
      have : (e.born == s) = false := by rw [h0]; simpa using hts
      simp [List.find?_cons, this, q2]
theorem lastS_eq : ∀ {l : List Nat} {s : Nat}, lastS l = some s → l.getLast? = some s
  | [], _, h => by cases h
  | [x], s, h => by simpa [lastS] using h
  | x :: y :: l, s, h => by
    have := lastS_eq (l := y :: l) (s := s) (by simpa [lastS] using h)
    simpa using this
set_option maxHeartbeats 2000000 in
theorem light_sound (hM : MRel P ρ w0 μ G nx w) (hH : HSub H G) (ho : OrcOk ρ orc) {o : Oper} {op : POp} (hp : pOp P nt o = some op)
    (hE : ERel P ρ μ nt o.op.operands.toList tm ev) {a : AV} (hl : lightOp orc op tm H = some a) :
    ∃ v, (Go.execOp ev o).run P w = .ok (.value v) w ∧ VRel ρ μ a v := by
  obtain ⟨dst, cop, ty, pos, after, guard⟩ := o
  cases cop with
  | move x =>
    obtain ⟨px, hx, rfl⟩ := map_some hp
    exact ⟨ev x, rfl, hE x (by simp [Op.operands]) px a hx hl⟩
  | assign x =>
    obtain ⟨px, hx, rfl⟩ := map_some hp
    exact ⟨ev x, rfl, hE x (by simp [Op.operands]) px a hx hl⟩
  | pick c x y =>
    simp only [pOp] at hp
    split at hp
    · rename_i pc pa pb h1 h2 h3
      simp only [Option.some.injEq] at hp; subst hp
      simp only [lightOp] at hl
      split at hl
      · rename_i hc
        have hcv := hE c (by simp [Op.operands]) pc _ h1 hc
        have hv := hE x (by simp [Op.operands]) pa _ h2 hl
        generalize hcc : ev c = cc at hcv
        cases hcv
        exact ⟨ev x, by simp [Go.execOp, hcc, asBool], hv⟩
      · rename_i hc
        have hcv := hE c (by simp [Op.operands]) pc _ h1 hc
        have hv := hE y (by simp [Op.operands]) pb _ h3 hl
        generalize hcc : ev c = cc at hcv
        cases hcv
        exact ⟨ev y, by simp [Go.execOp, hcc, asBool], hv⟩
      · cases hl
    · cases hp
  | alloc t =>
    simp only [pOp] at hp
    split at hp
    · simp only [Option.some.injEq] at hp; subst hp; simp [lightOp] at hl
    · cases hp
  | box t x => obtain ⟨px, hx, rfl⟩ := map_some hp; simp [lightOp] at hl
  | build t parts =>
    have hmem : ∀ y ∈ parts.toList.map (·.2), y ∈ (Op.build t parts).operands.toList := by
      intro y hy; simpa [Op.operands] using hy
    simp only [pOp] at hp
    split at hp
    · rename_i ti fs hti hu
      obtain ⟨i, d, z, hi, hd, hz, hzv, hsz, hag⟩ := tyI_spec hti
      split at hp
      · rename_i pl hpl
        split at hp
        · rename_i ps hps
          simp only [Option.some.injEq] at hp; subst hp
          simp only [lightOp] at hl
          split at hl
          · rename_i cs hcs
            simp only [Option.some.injEq] at hl; subst hl
            have hzr : VRels ρ μ ti.zero.cells z.cells.toList := (ofVal_rel depthV z ti.zero hzv).cells
            obtain ⟨vs', hf, hr⟩ := fillP_sound (vs := z.cells) hps hcs (hE.sub hmem) hzr
            have hpl' : ∀ (l : List Field) (r : List (Nat × Nat)), fieldPlaces P l = some r → (l.mapM fun f => (do pure (f.offset, ← sizeOf f.type) : Sem (Nat × Nat))).run P w = .ok r w := by
              intro l
              induction l with
              | nil => intro r hr; simp only [fieldPlaces, Option.some.injEq] at hr; subst hr; rfl
              | cons f l ih =>
                intro r hr
                simp only [fieldPlaces] at hr
                split at hr
                · rename_i i' r' hi' hr'
                  simp only [Option.some.injEq] at hr; subst hr
                  rw [List.mapM_cons]
                  simp only [Sem.run_bind, run_sizeOfS hi', Result.andThen_ok, Sem.run_pure, ih r' hr']
                · cases hr
            refine ⟨.agg vs', ?_, .agg _ _ hr⟩
            simp only [Go.execOp]
            refine run_v ?_
            have hm : (fs.mapM fun f => (do pure (f.offset, ← sizeOf f.type) : Sem (Nat × Nat))).run P w = .ok pl.toArray w := by
              rw [Array.mapM_eq_mapM_toList, Sem.run_map, hpl' _ _ hpl]
              rfl
            simp only [Instr.build, Sem.run_bind, run_zeroS hi hz, Result.andThen_ok, run_underlyingS hu]
            erw [hm]
            simp only [Result.andThen_ok]
            have hpl2 : (fun x : Nat => pl.toArray[x]?) = (fun x : Nat => pl[x]?) := by funext x; simp
            have hmap : (parts.map fun (i, x) => (i, ev x)).toList = parts.toList.map fun (i, x) => (i, ev x) := by simp
            rw [hpl2, hmap, hf]
            rfl
          · cases hl
        · cases hp
      · cases hp
    · rename_i ti n e hti hu
      obtain ⟨i, d, z, hi, hd, hz, hzv, hsz, hag⟩ := tyI_spec hti
      split at hp
      · rename_i ie hie
        split at hp
        · rename_i ps hps
          simp only [Option.some.injEq] at hp; subst hp
          simp only [lightOp] at hl
          split at hl
          · rename_i cs hcs
            simp only [Option.some.injEq] at hl; subst hl
            have hzr : VRels ρ μ ti.zero.cells z.cells.toList := (ofVal_rel depthV z ti.zero hzv).cells
            obtain ⟨vs', hf, hr⟩ := fillP_sound (vs := z.cells) hps hcs (hE.sub hmem) hzr
            refine ⟨.agg vs', ?_, .agg _ _ hr⟩
            simp only [Go.execOp]
            refine run_v ?_
            simp only [Instr.build, Sem.run_bind, run_zeroS hi hz, Result.andThen_ok, run_underlyingS hu, run_sizeOfS hie]
            have hmap : (parts.map fun (i, x) => (i, ev x)).toList = parts.toList.map fun (i, x) => (i, ev x) := by simp
            rw [hmap, hf]
            rfl
          · cases hl
        · cases hp
      · cases hp
    · cases hp
  | buildSlice t len parts =>
    simp only [pOp] at hp
    split at hp
    · split at hp
      · replace hp := cond_some hp; obtain ⟨_, hp⟩ := hp
        split at hp
        · simp only [Option.some.injEq] at hp; subst hp; simp [lightOp] at hl
        · cases hp
      · cases hp
    · cases hp
  | insert t m k v =>
    simp only [pOp] at hp
    split at hp
    · split at hp
      · simp only [Option.some.injEq] at hp; subst hp; simp [lightOp] at hl
      · simp only [Option.some.injEq] at hp; subst hp; simp [lightOp] at hl
      · split at hp
        · simp only [Option.some.injEq] at hp; subst hp; simp [lightOp] at hl
        · cases hp
      · split at hp
        · simp only [Option.some.injEq] at hp; subst hp; simp [lightOp] at hl
        · cases hp
      · cases hp
    · cases hp
  | load t x =>
    simp only [pOp] at hp
    split at hp
    · rename_i ti px hti hx
      obtain ⟨i, d, z, hi, hd, hz, hzv, hsz, hag⟩ := tyI_spec hti
      simp only [Option.some.injEq] at hp; subst hp
      simp only [lightOp] at hl
      split at hl
      · rename_i b off hb
        have hv := hE x (by simp [Op.operands]) px _ hx hb
        simp only [loadB] at hl
        split at hl
        · rename_i L k hL
          generalize hxx : ev x = xx at hv
          cases hv with | ptr _ _ l ad hm had =>
          rw [hag, hsz] at hl
          obtain ⟨v, hv, hr⟩ := loadVar_sound hM (hH _ _ hL) hi hd hl hm
          refine ⟨v, ?_, hr⟩
          subst had
          simp only [Go.execOp]
          refine run_v ?_
          simp only [hxx, Instr.loadAt, Instr.sureAddr, Sem.run_bind, Sem.run_pure, Result.andThen_ok, hv]
        · cases hl
      · rename_i l hb
        have hv := hE x (by simp [Op.operands]) px _ hx hb
        generalize hxx : ev x = xx at hv
        cases hv with | cref _ c o ad vs hr had hf =>
        subst had
        rw [hag, hsz] at hl
        obtain ⟨v, hv, hr⟩ := loadVar_fz hM hr hf hi hd hl
        refine ⟨v, ?_, hr⟩
        simp only [Go.execOp]
        refine run_v ?_
        simp only [hxx, Instr.loadAt, Instr.sureAddr, Sem.run_bind, Sem.run_pure, Result.andThen_ok, hv]
      · cases hl
    · cases hp
  | store t x v =>
    simp only [pOp] at hp
    split at hp
    · simp only [Option.some.injEq] at hp; subst hp; simp [lightOp] at hl
    · cases hp
  | ready g => simp [pOp] at hp
  | waits g => simp [pOp] at hp
  | nilCheck x =>
    obtain ⟨px, hx, rfl⟩ := map_some hp
    simp only [lightOp] at hl
    split at hl
    all_goals first | (cases hl; done) | skip
    all_goals rename_i hb
    all_goals (simp only [Option.some.injEq] at hl; subst hl; have hv := hE x (by simp [Op.operands]) px _ hx hb; refine ⟨ev x, ?_, hv⟩; generalize hxx : ev x = xx at hv; cases hv; simp [Go.execOp, hxx])
  | binOp bop t x y yt =>
    simp only [pOp] at hp
    split at hp
    · rename_i pa pb h1 h2
      have hbin : some (POp.bin bop pa pb) = some op → ∃ v, (Go.execOp ev ⟨dst, .binOp bop t x y yt, ty, pos, after, guard⟩).run P w = .ok (.value v) w ∧ VRel ρ μ a v := by
        intro hp
        simp only [Option.some.injEq] at hp; subst hp
        obtain ⟨va, vb, ha, hb, hl⟩ := bin_at hl
        have hva := hE x (by simp [Op.operands]) pa _ h1 ha
        have hvb := hE y (by simp [Op.operands]) pb _ h2 hb
        obtain ⟨v, hv, hr⟩ := bin_sound (P := P) (w := w) (t := t) (X := x) (Y := y) ho hva hvb hl
        exact ⟨v, run_v hv, hr⟩
      have heq : ∀ (neg : Bool) (p : EqP), bop = (if neg then .neq else .eql) → PlanOk P t p → p ≠ .int → p ≠ .str → ((∃ l, p = .parts l) → P.eqGuardType P.depth t = false) → (p = .iface → isConstO x = true ∨ isConstO y = true) →
          op = .eq neg p pa pb → ∃ v, (Go.execOp ev ⟨dst, .binOp bop t x y yt, ty, pos, after, guard⟩).run P w = .ok (.value v) w ∧ VRel ρ μ a v := by
        intro neg p hb hok hi hs hg hc e
        subst e
        simp only [lightOp] at hl
        split at hl
        · rename_i va vb ha hbb
          split at hl
          · rename_i r hr
            simp only [Option.some.injEq] at hl; subst hl
            have hva := hE x (by simp [Op.operands]) pa _ h1 ha
            have hvb := hE y (by simp [Op.operands]) pb _ h2 hbb
            exact ⟨_, run_v (eq_sound (P := P) (w := w) (X := x) (Y := y) ho hb hok hi hs hva hvb hr hg hc), .bool _⟩
          · cases hl
        · cases hl
      split at hp
      · exact hbin hp
      · exact hbin hp
      · rename_i ms hu
        replace hp := cond_some hp; obtain ⟨hc, hp⟩ := hp
        have hc' : isConstO x = true ∨ isConstO y = true := by simpa using hc
        split at hp
        · simp only [Option.some.injEq] at hp; exact heq false .iface rfl ⟨_, hu⟩ (by simp) (by simp) (by simp) (fun _ => hc') hp.symm
        · simp only [Option.some.injEq] at hp; exact heq true .iface rfl ⟨_, hu⟩ (by simp) (by simp) (by simp) (fun _ => hc') hp.symm
        · cases hp
      · rename_i fs hu
        cases hgt : P.eqGuardType P.depth t with
        | true => rw [hgt] at hp; cases hp
        | false =>
          rw [hgt] at hp
          simp only [cond_false] at hp
          have hnot : ∀ q, eqP P 100 t = some q → q ≠ .int ∧ q ≠ .str ∧ q ≠ .iface := by
            intro q hq
            have hk := eqP_ok hq
            refine ⟨?_, ?_, ?_⟩
            · rintro rfl; obtain ⟨k, hk⟩ := hk; rw [hu] at hk; cases hk
            · rintro rfl; have hk : P.underlying t = some .string := hk; rw [hu] at hk; cases hk
            · rintro rfl; obtain ⟨k, hk⟩ := hk; rw [hu] at hk; cases hk
          split at hp
          · rename_i q hq
            simp only [Option.some.injEq] at hp
            obtain ⟨n1, n2, n3⟩ := hnot q hq
            exact heq false q rfl (eqP_ok hq) n1 n2 (fun _ => hgt) (fun e => absurd e n3) hp.symm
          · rename_i q hq
            simp only [Option.some.injEq] at hp
            obtain ⟨n1, n2, n3⟩ := hnot q hq
            exact heq true q rfl (eqP_ok hq) n1 n2 (fun _ => hgt) (fun e => absurd e n3) hp.symm
          · cases hp
      · rename_i alen aelt hu
        cases hgt : P.eqGuardType P.depth t with
        | true => rw [hgt] at hp; cases hp
        | false =>
          rw [hgt] at hp
          simp only [cond_false] at hp
          have hnot : ∀ q, eqP P 100 t = some q → q ≠ .int ∧ q ≠ .str ∧ q ≠ .iface := by
            intro q hq
            have hk := eqP_ok hq
            refine ⟨?_, ?_, ?_⟩
            · rintro rfl; obtain ⟨k, hk⟩ := hk; rw [hu] at hk; cases hk
            · rintro rfl; have hk : P.underlying t = some .string := hk; rw [hu] at hk; cases hk
            · rintro rfl; obtain ⟨k, hk⟩ := hk; rw [hu] at hk; cases hk
          split at hp
          · rename_i q hq
            simp only [Option.some.injEq] at hp
            obtain ⟨n1, n2, n3⟩ := hnot q hq
            exact heq false q rfl (eqP_ok hq) n1 n2 (fun _ => hgt) (fun e => absurd e n3) hp.symm
          · rename_i q hq
            simp only [Option.some.injEq] at hp
            obtain ⟨n1, n2, n3⟩ := hnot q hq
            exact heq true q rfl (eqP_ok hq) n1 n2 (fun _ => hgt) (fun e => absurd e n3) hp.symm
          · cases hp
      · rename_i d hn1 hn2 hn3 hn4 hn5 hu
        have hnot : ∀ q, eqP P 100 t = some q → q ≠ .iface := by
          intro q hq
          have hk := eqP_ok hq
          rintro rfl; obtain ⟨k, hk⟩ := hk; rw [hu] at hk; cases hk; exact absurd rfl (hn3 _)
        split at hp
        · rename_i q hq
          cases hfl : flatEq q with
          | true => rw [hfl] at hp; cases hp
          | false =>
            rw [hfl] at hp
            simp only [cond_false, Option.some.injEq] at hp
            exact heq false q rfl (eqP_ok hq) (by rintro rfl; cases hfl) (by rintro rfl; cases hfl) (by rintro ⟨l, rfl⟩; cases hfl) (fun e => absurd e (hnot q hq)) hp.symm
        · rename_i q hq
          cases hfl : flatEq q with
          | true => rw [hfl] at hp; cases hp
          | false =>
            rw [hfl] at hp
            simp only [cond_false, Option.some.injEq] at hp
            exact heq true q rfl (eqP_ok hq) (by rintro rfl; cases hfl) (by rintro rfl; cases hfl) (by rintro ⟨l, rfl⟩; cases hfl) (fun e => absurd e (hnot q hq)) hp.symm
        · cases hp
      · cases hp
    · cases hp
  | unOp uop t x =>
    obtain ⟨px, hx, rfl⟩ := map_some hp
    simp only [lightOp] at hl
    split at hl
    · rename_i b hb
      simp only [Option.some.injEq] at hl; subst hl
      have hv := hE x (by simp [Op.operands]) px _ hx hb
      generalize hxx : ev x = xx at hv
      cases hv
      exact ⟨_, by simp [Go.execOp, hxx, Op.unary], .bool _⟩
    · rename_i k s hb
      split at hl
      · rename_i r hr
        simp only [Option.some.injEq] at hl; subst hl
        have hv := hE x (by simp [Op.operands]) px _ hx hb
        generalize hxx : ev x = xx at hv
        cases hv with | int _ _ n hn =>
        have := arith_sound (ρ := ρ) (P := P) (w := w) 0 hr
        rw [hn] at this
        refine ⟨_, ?_, .int _ _ _ rfl⟩
        simp only [Go.execOp]
        refine run_v ?_
        simp only [hxx, Op.unary]
        simpa [Go.binOp, SI.den] using this
      · cases hl
    · cases hl
  | convert src dst x =>
    simp only [pOp] at hp
    split at hp
    · rename_i px k0 k hx hs hd
      simp only [Option.some.injEq] at hp; subst hp
      simp only [lightOp] at hl
      split at hl
      · rename_i k1 n hb
        simp only [Option.some.injEq] at hl; subst hl
        have hv := hE x (by simp [Op.operands]) px _ hx hb
        generalize hxx : ev x = xx at hv
        cases hv with | int _ _ n' hn =>
        refine ⟨.int k (k.wrap n'), ?_, .int _ _ _ (by rw [← hn]; simp only [SI.den, wrapF_eq])⟩
        simp only [Go.execOp]
        refine run_v ?_
        simp [hxx, Go.convert, run_underlyingS hs, run_underlyingS hd, Conv.intToInt]
      · cases hl
    · rename_i px hx hs hd
      simp only [Option.some.injEq] at hp; subst hp
      simp only [lightOp] at hl
      split at hl
      · rename_i n c hb
        simp only [Option.some.injEq] at hl; subst hl
        have hv := hE x (by simp [Op.operands]) px _ hx hb
        refine ⟨ev x, ?_, hv⟩
        generalize hxx : ev x = xx at hv
        cases hv
        simp only [Go.execOp]
        refine run_v ?_
        simp [hxx, Go.convert, run_underlyingS hs, run_underlyingS hd]
      · cases hl
    · rename_i px e hx hs hd
      split at hp
      · rename_i hu
        simp only [Option.some.injEq] at hp; subst hp
        simp only [lightOp] at hl
        split at hl
        · rename_i hb
          simp only [Option.some.injEq] at hl; subst hl
          have hv := hE x (by simp [Op.operands]) px _ hx hb
          generalize hxx : ev x = xx at hv
          cases hv
          refine ⟨.string .empty, ?_, .str _ _ _ rfl rfl⟩
          simp only [Go.execOp]
          refine run_v ?_
          simp [hxx, Go.convert, run_underlyingS hs, run_underlyingS hd, run_underlyingS hu, Conv.bytesToString]
        · rename_i b off len sz hb
          replace hl := cond_some hl; obtain ⟨hsz1, hl⟩ := hl
          have hsz1 := Nat.eq_of_beq_eq_true hsz1
          subst hsz1
          split at hl
          · rename_i L k hL
            rw [takeC_eq, dropL_eq] at hl
            split at hl
            · rename_i hlen
              split at hl
              · rename_i n c hof
                simp only [Option.some.injEq] at hl; subst hl
                have hv := hE x (by simp [Op.operands]) px _ hx hb
                generalize hxx : ev x = xx at hv
                cases hv with | slice _ _ _ _ cap l ad hm hcap hle had =>
                obtain ⟨l', arr, elem, fz, h1, h2, hc, hs', hle', _⟩ := hM.cells (hH _ _ hL)
                rw [hm] at h1; cases h1
                have hlen' : len = 0 ∨ off + len ≤ L.length := by
                  simp at hlen; omega
                have hload : (loadCells ad len).run P w = .ok ((arr.toList.drop (l.base + off)).take len).toArray w := by
                  by_cases h0 : len = 0
                  · subst h0; simp [loadCells, loadCellsFrom]
                  · have had : ad = ⟨l.c, l.base + off, none⟩ := had.resolve_left (by omega)
                    subst had
                    exact loadCells_run P w l.c (l.base + off) arr elem fz h2 len (by omega)
                have hrel : VRels ρ μ ((L.drop off).take len) ((arr.toList.drop (l.base + off)).take len) := by
                  by_cases h0 : len = 0
                  · subst h0; simp; exact .nil
                  · exact cells_rel hc (by omega) (by omega)
                obtain ⟨bs, e1, e2, e3⟩ := ofBytes_spec hof hrel
                have e1' : ((arr.toList.drop (l.base + off)).take len) = (bs.map fun b => ((b.toNat : Nat) : Int)).map (Value.int .u8) := by rw [e1]; simp
                rw [e1'] at hload
                have hrun := run_bytesToString w ad len cap (bs.map fun b => ((b.toNat : Nat) : Int)) hload
                refine ⟨_, ?_, .str _ _ (((bs.map fun b => ((b.toNat : Nat) : Int)).foldl (fun r n => r.push (UInt8.ofNat n.toNat)) ByteArray.empty)) ?_ ?_⟩
                · simp only [Go.execOp]
                  refine run_v ?_
                  rw [hxx, run_convert_bytes_string w src dst e (some ad) len cap hs hu hd]
                  exact hrun
                · rw [foldl_push]; simpa using e2
                · rw [foldl_push]; simpa using e3
              · cases hl
            · cases hl
          · cases hl
        · rename_i L len sz fl hb
          replace hl := cond_some hl; obtain ⟨hsz1, hl⟩ := hl
          have hsz1 := Nat.eq_of_beq_eq_true hsz1
          subst hsz1
          split at hl
          · rename_i n c hof
            simp only [Option.some.injEq] at hl; subst hl
            have hv := hE x (by simp [Op.operands]) px _ hx hb
            generalize hxx : ev x = xx at hv
            cases hv with | sl _ _ _ _ cap c' o ad vs hrel hn hle had hf hg =>
            have hvl := hrel.length
            have hload : (loadCells ad len).run P w = .ok vs.toArray w := by
              by_cases h0 : len = 0
              · subst h0
                have : vs = [] := List.eq_nil_of_length_eq_zero (by omega)
                subst this
                simp [loadCells, loadCellsFrom]
              · have had : ad = ⟨c', o, none⟩ := had.resolve_left (by omega)
                subst had
                rw [fz_load hM hf (by omega), List.take_of_length_le (by omega)]
            obtain ⟨bs, e1, e2, e3⟩ := ofBytes_spec hof hrel
            have e1' : vs = (bs.map fun b => ((b.toNat : Nat) : Int)).map (Value.int .u8) := by rw [e1]; simp
            rw [e1'] at hload
            have hrun := run_bytesToString w ad len cap (bs.map fun b => ((b.toNat : Nat) : Int)) hload
            refine ⟨_, ?_, .str _ _ (((bs.map fun b => ((b.toNat : Nat) : Int)).foldl (fun r n => r.push (UInt8.ofNat n.toNat)) ByteArray.empty)) ?_ ?_⟩
            · simp only [Go.execOp]
              refine run_v ?_
              rw [hxx, run_convert_bytes_string w src dst e (some ad) len cap hs hu hd]
              exact hrun
            · rw [foldl_push]; simpa using e2
            · rw [foldl_push]; simpa using e3
          · cases hl
        · cases hl
      · cases hp
    · split at hp
      · simp only [Option.some.injEq] at hp; subst hp; simp [lightOp] at hl
      · cases hp
    · cases hp
  | sliceToArrayPointer t x => simp [pOp] at hp
  | makeInterface t x =>
    simp only [pOp] at hp
    split at hp
    · cases hp
    · cases hp
    · rename_i d hn hu
      obtain ⟨px, hx, rfl⟩ := map_some hp
      simp only [lightOp] at hl
      split at hl
      · rename_i v hb
        simp only [Option.some.injEq] at hl; subst hl
        have hv := hE x (by simp [Op.operands]) px _ hx hb
        refine ⟨.iface t (ev x), ?_, .iface _ _ _ hv⟩
        simp only [Go.execOp]
        refine run_v ?_
        simp only [Instr.makeInterface, Sem.run_bind, run_underlyingS hu, Result.andThen_ok]
        cases d <;> first | rfl | exact absurd rfl (hn _)
      · cases hl
  | makeFunc f first cap =>
    cases f with
    | func f =>
      simp only [pOp] at hp
      split at hp
      · rename_i pf pc h1 h2
        simp only [Option.some.injEq] at hp; subst hp
        simp only [lightOp] at hl
        split at hl
        · rename_i la lc ha hc
          simp only [Option.some.injEq] at hl; subst hl
          have e1 := atAll_sound (ev := ev) h1 ha (hE.sub fun y hy => by simp [Op.operands] at hy ⊢; exact .inl hy)
          have e2 := atAll_sound (ev := ev) h2 hc (hE.sub fun y hy => by simp [Op.operands] at hy ⊢; exact .inr hy)
          refine ⟨.func (.func f) (first.map ev) (cap.map ev), ?_, .fn _ _ _ _ _ (by simpa using e1) (by simpa using e2)⟩
          simp [Go.execOp, Instr.makeFunc]
        · cases hl
      · cases hp
    | method n => simp [pOp] at hp
    | methodOf t n => simp [pOp] at hp
    | via t p f b => simp [pOp] at hp
    | yield l => simp [pOp] at hp
  | makeMap t r => cases r <;> simp [pOp] at hp; subst hp; simp [lightOp] at hl
  | makeChan t s => simp [pOp] at hp
  | makeSlice t l c =>
    simp only [pOp] at hp
    split at hp
    · split at hp
      · split at hp
        · replace hp := cond_some hp; obtain ⟨_, hp⟩ := hp
          simp only [Option.some.injEq] at hp; subst hp; simp [lightOp] at hl
        · cases hp
      · cases hp
    · cases hp
  | slice t x lo hi mx =>
    cases mx with
    | some m => simp [pOp] at hp
    | none =>
      have hlo' : ∀ x', lo = some x' → x' ∈ (Op.slice t x lo hi none).operands.toList := by intro x' e; subst e; simp [Op.operands]
      have hhi' : ∀ x', hi = some x' → x' ∈ (Op.slice t x lo hi none).operands.toList := by intro x' e; subst e; simp [Op.operands]
      simp only [pOp] at hp
      split at hp
      · rename_i px plo phi hx hlo hhi
        split at hp
        · rename_i hu
          simp only [Option.some.injEq] at hp; subst hp
          simp only [lightOp] at hl
          split at hl
          · rename_i n c hb
            split at hl
            · rename_i l r hl1 hr1
              replace hl := cond_some hl; obtain ⟨hcmp, hl⟩ := hl
              simp only [Option.some.injEq] at hl; subst hl
              simp only [Bool.and_eq_true, Nat.ble_eq] at hcmp
              have hv := hE x (by simp [Op.operands]) px _ hx hb
              generalize hxx : ev x = xx at hv
              cases hv with | str _ _ s hs hs' =>
              have hsz : s.size = n := by rw [Lib.size_eq]; exact hs
              have b1 := bound_sound hlo hl1 hE hlo'
              have b2 := bound_sound hhi hr1 hE hhi'
              have hb := sliceBounds_run (P := P) (w := w) (isSlice := false) (len := s.size) (cap := s.size) (l := l) (r := r) (lo := lo.map ev) (hi := hi.map ev)
                (by rcases b1 with ⟨e, e'⟩ | ⟨x', k, e, e'⟩ <;> subst e <;> simp [e']) (by rcases b2 with ⟨e, e'⟩ | ⟨x', k, e, e'⟩ <;> subst e <;> simp [e', hsz]) hcmp.1 (by omega) (Nat.le_refl _)
              refine ⟨.string (s.extract l r), ?_, .str _ _ _ ?_ ?_⟩
              · simp only [Go.execOp]
                refine run_v ?_
                simp only [hxx, Instr.sliceAt, Sem.run_bind, run_underlyingS hu, Result.andThen_ok, Instr.slice, Option.map_none, Option.isSome_none, Bool.false_eq_true, if_false, hb, Sem.run_pure]
              · rw [Lib.extract_data]; simp; omega
              · rw [Lib.extract_data, enc_take, enc_drop, hs']
                show _ = Nat.mod (Nat.shiftRight c (8 * l)) (Nat.pow 2 (8 * (r - l)))
                have e1 : Nat.shiftRight c (8 * l) = c / 2 ^ (8 * l) := Nat.shiftRight_eq_div_pow _ _
                have e2 : Nat.pow 2 (8 * (r - l)) = 256 ^ (r - l) := pow256 (r - l)
                rw [e1, e2, pow256]
                rfl
            · cases hl
          · cases hl
        · rename_i e hu
          split at hp
          · rename_i ie hie
            replace hp := cond_some hp; obtain ⟨hpos, hp⟩ := hp
            simp only [Option.some.injEq] at hp; subst hp
            simp only [lightOp] at hl
            split at hl
            · rename_i b off len sz' hb
              split at hl
              · rename_i l r hl1 hr1
                replace hl := cond_some hl; obtain ⟨hcmp, hl⟩ := hl
                simp only [Option.some.injEq] at hl; subst hl
                simp only [Bool.and_eq_true, Nat.ble_eq] at hcmp
                have hszeq := Nat.eq_of_beq_eq_true hcmp.2
                subst hszeq
                have hv := hE x (by simp [Op.operands]) px _ hx hb
                generalize hxx : ev x = xx at hv
                cases hv with | slice _ _ _ _ cap lc ad hm hcap hlen had =>
                have b1 := bound_sound hlo hl1 hE hlo'
                have b2 := bound_sound hhi hr1 hE hhi'
                have hb := sliceBounds_run (P := P) (w := w) (isSlice := true) (len := len) (cap := cap) (l := l) (r := r) (lo := lo.map ev) (hi := hi.map ev)
                  (by rcases b1 with ⟨e, e'⟩ | ⟨x', k, e, e'⟩ <;> subst e <;> simp [e']) (by rcases b2 with ⟨e, e'⟩ | ⟨x', k, e, e'⟩ <;> subst e <;> simp [e']) hcmp.1.1 hcmp.1.2 hlen
                have hcl : l ≤ cap := by omega
                refine ⟨.slice (if cap = l then some ad else some (ad.add (l * ie.size))) (r - l) (cap - l), ?_, ?_⟩
                · simp only [Go.execOp]
                  refine run_v ?_
                  simp only [hxx, Instr.sliceAt, Sem.run_bind, run_underlyingS hu, Result.andThen_ok, Instr.slice, Option.map_none, hb, run_sizeOfS hie, Sem.run_pure, Option.map_some]
                · have hsum : off + l * ie.size + (cap - l) * ie.size = lc.ext := by
                    rw [← hcap, Nat.add_assoc, ← Nat.add_mul]
                    congr 2
                    omega
                  by_cases he : cap = l
                  · rw [if_pos he]
                    exact .slice b _ _ _ _ lc ad hm hsum (by omega) (.inl (by omega))
                  · rw [if_neg he]
                    refine .slice b _ _ _ _ lc _ hm hsum (by omega) (.inr ?_)
                    rcases had with h0 | h0
                    · omega
                    · subst h0; rw [add_mk]; simp [Nat.add_assoc]
              · cases hl
            · rename_i hb
              split at hl
              · rename_i l r hl1 hr1
                replace hl := cond_some hl; obtain ⟨hcmp, hl⟩ := hl
                simp only [Option.some.injEq] at hl; subst hl
                simp only [Bool.and_eq_true] at hcmp
                have h0 := Nat.eq_of_beq_eq_true hcmp.1
                have h1 := Nat.eq_of_beq_eq_true hcmp.2
                subst h0 h1
                have hv := hE x (by simp [Op.operands]) px _ hx hb
                generalize hxx : ev x = xx at hv
                cases hv
                have b1 := bound_sound hlo hl1 hE hlo'
                have b2 := bound_sound hhi hr1 hE hhi'
                have hb := sliceBounds_run (P := P) (w := w) (isSlice := true) (len := 0) (cap := 0) (l := 0) (r := 0) (lo := lo.map ev) (hi := hi.map ev)
                  (by rcases b1 with ⟨e, e'⟩ | ⟨x', k, e, e'⟩ <;> subst e <;> simp [e']) (by rcases b2 with ⟨e, e'⟩ | ⟨x', k, e, e'⟩ <;> subst e <;> simp [e']) (Nat.le_refl _) (Nat.le_refl _) (Nat.le_refl _)
                refine ⟨.slice none 0 0, ?_, .nils⟩
                simp only [Go.execOp]
                refine run_v ?_
                simp only [hxx, Instr.sliceAt, Sem.run_bind, run_underlyingS hu, Result.andThen_ok, Instr.slice, Option.map_none, hb, run_sizeOfS hie, Sem.run_pure, if_true]
              · cases hl
            · rename_i L len sz' fl hb
              split at hl
              · rename_i l r hl1 hr1
                replace hl := cond_some hl; obtain ⟨hcmp, hl⟩ := hl
                simp only [Bool.and_eq_true, Nat.ble_eq] at hcmp
                have hszeq := Nat.eq_of_beq_eq_true hcmp.2
                subst hszeq
                rw [takeC_eq, dropL_eq] at hl
                split at hl
                · rename_i htk
                  simp only [Option.some.injEq] at hl; subst hl
                  have hv := hE x (by simp [Op.operands]) px _ hx hb
                  generalize hxx : ev x = xx at hv
                  cases hv with | sl _ _ _ _ cap c o ad vs hrel hn hle had hf hg =>
                  have b1 := bound_sound hlo hl1 hE hlo'
                  have b2 := bound_sound hhi hr1 hE hhi'
                  have hb := sliceBounds_run (P := P) (w := w) (isSlice := true) (len := len) (cap := cap) (l := l) (r := r) (lo := lo.map ev) (hi := hi.map ev)
                    (by rcases b1 with ⟨e, e'⟩ | ⟨x', k, e, e'⟩ <;> subst e <;> simp [e']) (by rcases b2 with ⟨e, e'⟩ | ⟨x', k, e, e'⟩ <;> subst e <;> simp [e']) hcmp.1.1 hcmp.1.2 hle
                  refine ⟨.slice (if cap = l then some ad else some (ad.add (l * ie.size))) (r - l) (cap - l), ?_, ?_⟩
                  · simp only [Go.execOp]
                    refine run_v ?_
                    simp only [hxx, Instr.sliceAt, Sem.run_bind, run_underlyingS hu, Result.andThen_ok, Instr.slice, Option.map_none, hb, run_sizeOfS hie, Sem.run_pure, Option.map_some]
                  · have hlen2 : ((L.drop (l * ie.size)).take ((r - l) * ie.size)).length = (r - l) * ie.size := by
                      rw [List.length_take]; omega
                    have hfl : FlagOk μ c (o + l * ie.size) (r - l) (cap - l) ie.size (bif Nat.beq r len then fl else .any) := by
                      cases hrl : Nat.beq r len with
                      | false => trivial
                      | true =>
                        have hrl := Nat.eq_of_beq_eq_true hrl
                        subst hrl
                        cases fl with
                        | any => trivial
                        | tok tb =>
                          have hg : μ tb = some ⟨c, o + r * ie.size, (cap - r) * ie.size⟩ := hg
                          show μ tb = some ⟨c, o + l * ie.size + (r - l) * ie.size, (cap - l - (r - l)) * ie.size⟩
                          rw [hg]
                          have e1 : o + r * ie.size = o + l * ie.size + (r - l) * ie.size := by
                            rw [Nat.add_assoc, ← Nat.add_mul]; congr 2; omega
                          have e2 : cap - r = cap - l - (r - l) := by omega
                          rw [e1, e2]
                    by_cases he : cap = l
                    · rw [if_pos he]
                      exact .sl _ _ _ _ _ c (o + l * ie.size) ad _ ((hrel.drop _).take _) hlen2 (by omega) (.inl (by omega)) (fz_take (fz_shift hf _) _) hfl
                    · rw [if_neg he]
                      refine .sl _ _ _ _ _ c (o + l * ie.size) _ _ ((hrel.drop _).take _) hlen2 (by omega) (.inr ?_) (fz_take (fz_shift hf _) _) hfl
                      rcases had with h0 | h0
                      · omega
                      · subst h0; rw [add_mk]
                · cases hl
              · cases hl
            · cases hl
          · cases hp
        · cases hp
      · cases hp
  | fieldAddr s x f =>
    simp only [pOp] at hp
    split at hp
    · rename_i fs hu
      split at hp
      · rename_i fd hfd
        split at hp
        · rename_i i px hi hx
          cases hz : Nat.beq i.size 0 with
          | true => rw [hz] at hp; cases hp
          | false =>
            rw [hz] at hp
            simp only [cond_false, Option.some.injEq] at hp; subst hp
            have hsz : i.size ≠ 0 := by intro e; rw [e] at hz; cases hz
            simp only [lightOp] at hl
            split at hl
            · rename_i b o hb
              simp only [Option.some.injEq] at hl; subst hl
              have hv := hE x (by simp [Op.operands]) px _ hx hb
              generalize hxx : ev x = xx at hv
              cases hv with | ptr _ _ l ad hm had =>
              subst had
              refine ⟨.pointer (some ⟨l.c, l.base + (o + fd.offset), none⟩), ?_, .ptr _ _ l _ hm rfl⟩
              simp only [Go.execOp]
              refine run_v ?_
              simp only [hxx, Instr.fieldAt, Sem.run_bind, run_underlyingS hu, Result.andThen_ok, hfd, Instr.sureAddr, Sem.run_pure, fieldPlace, run_sizeOfS hi, Sem.run_ite, hsz, if_false, add_mk, Nat.add_assoc]
            · rename_i l hb
              simp only [Option.some.injEq] at hl; subst hl
              have hv := hE x (by simp [Op.operands]) px _ hx hb
              generalize hxx : ev x = xx at hv
              cases hv with | cref _ c o ad vs hr had hf =>
              subst had
              rw [dropL_eq]
              refine ⟨.pointer (some ⟨c, o + fd.offset, none⟩), ?_, .cref _ c (o + fd.offset) _ _ (hr.drop _) rfl (fz_shift hf _)⟩
              simp only [Go.execOp]
              refine run_v ?_
              simp only [hxx, Instr.fieldAt, Sem.run_bind, run_underlyingS hu, Result.andThen_ok, hfd, Instr.sureAddr, Sem.run_pure, fieldPlace, run_sizeOfS hi, Sem.run_ite, hsz, if_false, add_mk]
            · cases hl
        · cases hp
      · cases hp
    · cases hp
  | field t x f =>
    simp only [pOp] at hp
    split at hp
    · rename_i fs hu
      split at hp
      · rename_i fd hfd
        split at hp
        · rename_i ti px hti hx
          obtain ⟨i, d, z, hi, hd, hz, hzv, hsz, hag⟩ := tyI_spec hti
          simp only [Option.some.injEq] at hp; subst hp
          simp only [lightOp] at hl
          split at hl
          · rename_i L hb
            have hv := hE x (by simp [Op.operands]) px _ hx hb
            generalize hxx : ev x = xx at hv
            cases hv with | agg _ vs hL =>
            rw [hag, hsz] at hl
            obtain ⟨v, hv, hr⟩ := part_sound (P := P) (w := w) hi hd hL hl
            refine ⟨v, ?_, hr⟩
            simp only [Go.execOp]
            refine run_v ?_
            simp only [hxx, Instr.field, Sem.run_bind, run_underlyingS hu, Result.andThen_ok, hfd, asAgg, Sem.run_pure, hv]
          · cases hl
        · cases hp
      · cases hp
    · cases hp
  | indexAddr t x ix =>
    simp only [pOp] at hp
    split at hp
    · rename_i len e px pi hu hx hi'
      split at hp
      · rename_i ie hie
        replace hp := cond_some hp; obtain ⟨hpos, hp⟩ := hp
        simp only [Option.some.injEq] at hp; subst hp
        simp only [lightOp] at hl
        split at hl
        · rename_i b o vi hb hbi
          split at hl
          · rename_i j hj
            replace hl := cond_some hl; obtain ⟨hlt, hl⟩ := hl
            simp only [Option.some.injEq] at hl; subst hl
            rw [bltN_eq, decide_eq_true_eq] at hlt
            have hv := hE x (by simp [Op.operands]) px _ hx hb
            obtain ⟨k, hk⟩ := natOf_sound hj (hE ix (by simp [Op.operands]) pi _ hi' hbi)
            generalize hxx : ev x = xx at hv
            cases hv with | ptr _ _ l ad hm had =>
            subst had
            refine ⟨.pointer (some ⟨l.c, l.base + (o + j * ie.size), none⟩), ?_, .ptr _ _ l _ hm rfl⟩
            simp only [Go.execOp]
            refine run_v ?_
            have hr : (0 : Int) ≤ (j : Int) ∧ (j : Int) < (len : Int) := by omega
            simp only [hxx, hk, Instr.indexAt, asIntOf, Sem.run_bind, run_underlyingS hu, Result.andThen_ok, Instr.sureAddr, Sem.run_pure, hr, and_self, if_true, run_sizeOfS hie, add_mk, Int.toNat_natCast, Nat.add_assoc]
          · cases hl
        · rename_i L vi hb hbi
          split at hl
          · rename_i j hj
            replace hl := cond_some hl; obtain ⟨hlt, hl⟩ := hl
            simp only [Option.some.injEq] at hl; subst hl
            rw [bltN_eq, decide_eq_true_eq] at hlt
            have hv := hE x (by simp [Op.operands]) px _ hx hb
            obtain ⟨k, hk⟩ := natOf_sound hj (hE ix (by simp [Op.operands]) pi _ hi' hbi)
            generalize hxx : ev x = xx at hv
            cases hv with | cref _ c o ad vs hrel had hf =>
            subst had
            rw [dropL_eq]
            refine ⟨.pointer (some ⟨c, o + j * ie.size, none⟩), ?_, .cref _ c (o + j * ie.size) _ _ (hrel.drop _) rfl (fz_shift hf _)⟩
            simp only [Go.execOp]
            refine run_v ?_
            have hr : (0 : Int) ≤ (j : Int) ∧ (j : Int) < (len : Int) := by omega
            simp only [hxx, hk, Instr.indexAt, asIntOf, Sem.run_bind, run_underlyingS hu, Result.andThen_ok, Instr.sureAddr, Sem.run_pure, hr, and_self, if_true, run_sizeOfS hie, add_mk, Int.toNat_natCast]
          · cases hl
        · cases hl
      · cases hp
    · rename_i e px pi hu hx hi'
      split at hp
      · rename_i ie hie
        replace hp := cond_some hp; obtain ⟨hpos, hp⟩ := hp
        simp only [Option.some.injEq] at hp; subst hp
        simp only [lightOp] at hl
        split at hl
        · rename_i b off len sz' vi hb hbi
          split at hl
          · rename_i j hj
            replace hl := cond_some hl; obtain ⟨hlt, hl⟩ := hl
            simp only [Option.some.injEq] at hl; subst hl
            simp only [Bool.and_eq_true] at hlt
            have hszeq := Nat.eq_of_beq_eq_true hlt.2
            subst hszeq
            have hlt := hlt.1
            rw [bltN_eq, decide_eq_true_eq] at hlt
            have hv := hE x (by simp [Op.operands]) px _ hx hb
            obtain ⟨k, hk⟩ := natOf_sound hj (hE ix (by simp [Op.operands]) pi _ hi' hbi)
            generalize hxx : ev x = xx at hv
            cases hv with | slice _ _ _ _ cap l ad hm hcap hlen had =>
            have had : ad = ⟨l.c, l.base + off, none⟩ := had.resolve_left (by omega)
            subst had
            refine ⟨.pointer (some ⟨l.c, l.base + (off + j * ie.size), none⟩), ?_, .ptr _ _ l _ hm rfl⟩
            simp only [Go.execOp]
            refine run_v ?_
            have hr : (0 : Int) ≤ (j : Int) ∧ (j : Int) < (len : Int) := by omega
            simp only [hxx, hk, Instr.indexAt, asIntOf, Sem.run_bind, run_underlyingS hu, Result.andThen_ok, Sem.run_pure, hr, and_self, if_true, run_sizeOfS hie, add_mk, Int.toNat_natCast, Nat.add_assoc]
          · cases hl
        · rename_i L len sz' fl vi hb hbi
          split at hl
          · rename_i j hj
            replace hl := cond_some hl; obtain ⟨hlt, hl⟩ := hl
            simp only [Bool.and_eq_true] at hlt
            have hszeq := Nat.eq_of_beq_eq_true hlt.2
            subst hszeq
            have hlt := hlt.1
            rw [bltN_eq, decide_eq_true_eq] at hlt
            rw [takeC_eq, dropL_eq] at hl
            split at hl
            · rename_i htk
              simp only [Option.some.injEq] at hl; subst hl
              have hv := hE x (by simp [Op.operands]) px _ hx hb
              obtain ⟨k, hk⟩ := natOf_sound hj (hE ix (by simp [Op.operands]) pi _ hi' hbi)
              generalize hxx : ev x = xx at hv
              cases hv with | sl _ _ _ _ cap c o ad vs hrel hn hle had hf hg =>
              have had : ad = ⟨c, o, none⟩ := had.resolve_left (by omega)
              subst had
              refine ⟨.pointer (some ⟨c, o + j * ie.size, none⟩), ?_, .cref _ c (o + j * ie.size) _ _ ((hrel.drop _).take _) rfl (fz_take (fz_shift hf _) _)⟩
              simp only [Go.execOp]
              refine run_v ?_
              have hr : (0 : Int) ≤ (j : Int) ∧ (j : Int) < (len : Int) := by omega
              simp only [hxx, hk, Instr.indexAt, asIntOf, Sem.run_bind, run_underlyingS hu, Result.andThen_ok, Sem.run_pure, hr, and_self, if_true, run_sizeOfS hie, add_mk, Int.toNat_natCast]
            · cases hl
          · cases hl
        · cases hl
      · cases hp
    · cases hp
  | index t x ix =>
    simp only [pOp] at hp
    split at hp
    · rename_i px pi hu hx hi'
      simp only [Option.some.injEq] at hp; subst hp
      simp only [lightOp] at hl
      split at hl
      · rename_i n c vi hb hbi
        split at hl
        · rename_i j hj
          replace hl := cond_some hl; obtain ⟨hlt, hl⟩ := hl
          simp only [Option.some.injEq] at hl; subst hl
          rw [bltN_eq, decide_eq_true_eq] at hlt
          have hv := hE x (by simp [Op.operands]) px _ hx hb
          obtain ⟨k, hk⟩ := natOf_sound hj (hE ix (by simp [Op.operands]) pi _ hi' hbi)
          generalize hxx : ev x = xx at hv
          cases hv with | str _ _ s hs hs' =>
          have hjl : j < s.data.toList.length := by omega
          have hjs : s[j]? = some s.data.toList[j] := by
            have : j < s.size := by rw [Lib.size_eq]; exact hjl
            rw [getElem?_pos s j this]
            rfl
          refine ⟨.int .u8 (s.data.toList[j]).toNat, ?_, .int _ _ _ ?_⟩
          · simp only [Go.execOp]
            refine run_v ?_
            have h0 : (0 : Int) ≤ (j : Int) := by omega
            simp only [hxx, hk, Instr.index, asIntOf, Sem.run_bind, Sem.run_pure, run_underlyingS hu, Result.andThen_ok, h0, if_true, Int.toNat_natCast, hjs]
          · simp only [SI.den]
            show ((Nat.mod (Nat.shiftRight c (8 * j)) 256 : Nat) : Int) = _
            have e1 : Nat.shiftRight c (8 * j) = c / 2 ^ (8 * j) := Nat.shiftRight_eq_div_pow _ _
            rw [e1, pow256, ← hs']
            have := enc_get s.data.toList j hjl
            show ((enc s.data.toList / 256 ^ j % 256 : Nat) : Int) = _
            rw [this]
        · cases hl
      · cases hl
    · rename_i len e px pi hu hx hi'
      split at hp
      · rename_i ti hti
        obtain ⟨i, d, z, hi, hd, hz, hzv, hsz, hag⟩ := tyI_spec hti
        simp only [Option.some.injEq] at hp; subst hp
        simp only [lightOp] at hl
        split at hl
        · rename_i L vi hb hbi
          split at hl
          · rename_i j hj
            replace hl := cond_some hl; obtain ⟨hlt, hl⟩ := hl
            rw [bltN_eq, decide_eq_true_eq] at hlt
            have hv := hE x (by simp [Op.operands]) px _ hx hb
            obtain ⟨k, hk⟩ := natOf_sound hj (hE ix (by simp [Op.operands]) pi _ hi' hbi)
            generalize hxx : ev x = xx at hv
            cases hv with | agg _ vs hL =>
            rw [hag, hsz] at hl
            obtain ⟨v, hv, hr⟩ := part_sound (P := P) (w := w) hi hd hL hl
            refine ⟨v, ?_, hr⟩
            simp only [Go.execOp]
            refine run_v ?_
            have hr : (0 : Int) ≤ (j : Int) ∧ (j : Int) < (len : Int) := by omega
            simp only [hxx, hk, Instr.index, asIntOf, Sem.run_bind, Sem.run_pure, run_underlyingS hu, Result.andThen_ok, hr, and_self, if_true, run_sizeOfS hi, Int.toNat_natCast, hv]
          · cases hl
        · cases hl
      · cases hp
    · cases hp
  | lookup t m k ok =>
    simp only [pOp] at hp
    split at hp
    · rename_i kt e hu
      have main : ∀ (sk : Bool) (kd : TypeDesc) (ti : TI) (pm pk : PX), KeyKind P kt sk kd → tyI P e = some ti → pX P nt m = some pm → pX P nt k = some pk → op = .lookup sk ti.zero ok pm pk →
          ∃ v, (Go.execOp ev ⟨dst, .lookup t m k ok, ty, pos, after, guard⟩).run P w = .ok (.value v) w ∧ VRel ρ μ a v := by
        intro sk kd ti pm pk hkk hti hm hk e'
        subst e'
        obtain ⟨i, d, z, hi, hd, hz, hzv, hsz, hag⟩ := tyI_spec hti
        simp only [lightOp] at hl
        split at hl
        · rename_i b ka hb hka
          split at hl
          · rename_i L hL
            have hvm := hE m (by simp [Op.operands]) pm _ hm hb
            have hvk := hE k (by simp [Op.operands]) pk _ hk hka
            generalize hmm : ev m = mm at hvm
            cases hvm with | map _ l r hmu hr =>
            subst hr
            obtain ⟨l', o', h1, h2, h3⟩ := hM.blk b _ (hH _ _ hL)
            rw [hmu] at h1; cases h1
            cases h3 with | map _ _ es clock hpairs hborn hclk =>
            have hget : (getObj l.c).run P w = .ok (.map es clock) w := by simp [getObj, Sem.run, h2]
            have run0 : ∀ f, Instr.findNow kd (ev k) es.toList 0 = some f → ∀ v okv, (match f with | some (_, v') => v' = v ∧ okv = true | none => z = v ∧ okv = false) →
                (Go.execOp ev ⟨dst, .lookup t m k ok, ty, pos, after, guard⟩).run P w = .ok (.value (if ok then .tuple #[v, .bool okv] else v)) w := by
              intro f hf v okv hfv
              simp only [Go.execOp]
              refine run_v ?_
              simp only [hmm, Instr.lookup, Sem.run_bind, run_underlyingS hu, Result.andThen_ok, hget, Sem.run_pure, run_checkKey hkk _ 9999, run_findKey hkk.1 hf]
              cases f with
              | none => obtain ⟨rfl, rfl⟩ := hfv; simp [run_zeroS hi hz]
              | some p => obtain ⟨j, v'⟩ := p; obtain ⟨rfl, rfl⟩ := hfv; simp
            split at hl
            · rename_i v hf
              obtain ⟨f, hf1, hf2⟩ := findK_sound ho hkk hvk 0 hpairs hf
              cases f with
              | none => exact hf2.elim
              | some p =>
                obtain ⟨j, v'⟩ := p
                have := run0 _ hf1 v' true ⟨rfl, rfl⟩
                simp only [Option.some.injEq] at hl; subst hl
                refine ⟨_, this, ?_⟩
                cases ok with
                | true => exact .tuple _ _ (.cons _ _ _ _ hf2 (.one (.bool _)))
                | false => exact hf2
            · rename_i hf
              obtain ⟨f, hf1, hf2⟩ := findK_sound ho hkk hvk 0 hpairs hf
              cases f with
              | some p => exact hf2.elim
              | none =>
                have := run0 _ hf1 z false ⟨rfl, rfl⟩
                simp only [Option.some.injEq] at hl; subst hl
                refine ⟨_, this, ?_⟩
                cases ok with
                | true => exact .tuple _ _ (.cons _ _ _ _ (ofVal_rel depthV z ti.zero hzv) (.one (.bool _)))
                | false => exact ofVal_rel depthV z ti.zero hzv
            · cases hl
          · cases hl
        · cases hl
      split at hp
      · simp only [Option.some.injEq] at hp; exact main false _ _ _ _ ⟨‹_›, by simp⟩ ‹_› ‹_› ‹_› hp.symm
      · simp only [Option.some.injEq] at hp; exact main true _ _ _ _ ⟨‹_›, by simp⟩ ‹_› ‹_› ‹_› hp.symm
      · cases hp
    · cases hp
  | mapUpdate t m k v =>
    simp only [pOp] at hp
    split at hp
    · split at hp
      · simp only [Option.some.injEq] at hp; subst hp; simp [lightOp] at hl
      · simp only [Option.some.injEq] at hp; subst hp; simp [lightOp] at hl
      · split at hp
        · simp only [Option.some.injEq] at hp; subst hp; simp [lightOp] at hl
        · cases hp
      · split at hp
        · simp only [Option.some.injEq] at hp; subst hp; simp [lightOp] at hl
        · cases hp
      · cases hp
    · cases hp
  | mapEntry t m k => simp [pOp] at hp
  | entryStore t m k v => simp [pOp] at hp
  | range t x =>
    simp only [pOp] at hp
    split at hp
    · obtain ⟨px, hx, rfl⟩ := map_some hp; simp [lightOp] at hl
    · cases hp
  | next it s =>
    cases s
    · obtain ⟨px, hx, rfl⟩ := map_some hp; simp [lightOp] at hl
    · simp [pOp] at hp
  | entry it =>
    obtain ⟨px, hx, rfl⟩ := map_some hp
    simp only [lightOp] at hl
    split at hl
    · rename_i b hb
      split at hl
      · rename_i m n seen hit
        split at hl
        · rename_i L c s hst hls
          replace hl := cond_some hl; obtain ⟨hcn, hl⟩ := hl
          have hcn := Nat.eq_of_beq_eq_true hcn
          subst hcn
          have hv := hE it (by simp [Op.operands]) px _ hx hb
          generalize hxx : ev it = xx at hv
          cases hv with | ptr _ _ l ad hmu ha =>
          subst ha
          obtain ⟨l', o', h1, h2, h3⟩ := hM.blk b _ (hH _ _ hit)
          rw [hmu] at h1; cases h1
          cases h3 with | iter _ _ _ _ lm sa hmm hsa hzero =>
          obtain ⟨l2, es, k1, k2, hpairs⟩ := stamped_at hM hH hst
          rw [hmm] at k1; cases k1
          subst hsa
          obtain ⟨k, v, e, rfl, q1, q2, q3⟩ := findS_rel hpairs hl
          have hback : sa.back? = some s := by rw [← Array.getLast?_toList]; exact lastS_eq hls
          have hfind : es.find? (·.born == s) = some e := by rw [← Array.find?_toList]; exact q1
          refine ⟨.tuple #[e.key, e.val], ?_, .tuple _ _ (.cons _ _ _ _ q2 (.one q3))⟩
          simp only [Go.execOp]
          refine run_v ?_
          have g1 : (getObj l.c).run P w = .ok (.mapIter (some lm.c) c sa c) w := by simp [getObj, Sem.run, h2]
          have g2 : (getObj lm.c).run P w = .ok (.map es c) w := by simp [getObj, Sem.run, k2]
          have hbase : l.base + 0 = 0 := by rw [hzero]
          simp [hxx, hbase, Instr.entry, g1, g2, hback, hfind]
        · cases hl
      · cases hl
    · cases hl
  | typeAssert x xt t ok =>
    simp only [pOp] at hp
    split at hp
    · cases hp
    · rename_i d ti px hn hu hti hx
      obtain ⟨i, d', z, hi, hd, hz, hzv, hsz, hag⟩ := tyI_spec hti
      simp only [Option.some.injEq] at hp; subst hp
      simp only [lightOp] at hl
      split at hl
      · rename_i t' u hb
        have hv := hE x (by simp [Op.operands]) px _ hx hb
        generalize hxx : ev x = xx at hv
        cases hv with | iface _ _ vv hvv =>
        have hrun : ∀ r, (if t' = t then (pure (if ok then .tuple #[vv, .bool true] else vv) : Sem Value) else (if ok then do pure (.tuple #[← zeroValue t, .bool false]) else runtimePanic (.typeAssertion (some xt) (some t') t ""))).run P w = .ok r w →
            (Go.execOp ev ⟨dst, .typeAssert x xt t ok, ty, pos, after, guard⟩).run P w = .ok (.value r) w := by
          intro r hr
          simp only [Go.execOp]
          refine run_v ?_
          simp only [hxx, Instr.typeAssert, Sem.run_bind, run_underlyingS hu, Result.andThen_ok]
          cases d <;> first | exact absurd rfl (hn _ _ _) | exact hr
        cases ok with
        | true =>
          simp only [cond_true] at hl
          cases ht : Nat.beq t t' with
          | true =>
            rw [ht] at hl
            simp only [cond_true, Option.some.injEq] at hl; subst hl
            have := Nat.eq_of_beq_eq_true ht
            subst this
            exact ⟨_, hrun _ (by simp), .tuple _ _ (.cons _ _ _ _ hvv (.one (.bool _)))⟩
          | false =>
            rw [ht] at hl
            simp only [cond_false, Option.some.injEq] at hl; subst hl
            have hne : ¬ t' = t := by intro e; subst e; simp [beqN_eq] at ht
            exact ⟨_, hrun (.tuple #[z, .bool false]) (by simp [hne, run_zeroS hi hz]), .tuple _ _ (.cons _ _ _ _ (ofVal_rel depthV z ti.zero hzv) (.one (.bool _)))⟩
        | false =>
          simp only [cond_false] at hl
          replace hl := cond_some hl; obtain ⟨ht, hl⟩ := hl
          simp only [Option.some.injEq] at hl; subst hl
          have := Nat.eq_of_beq_eq_true ht
          subst this
          exact ⟨_, hrun _ (by simp), hvv⟩
      · cases hl
    · cases hp
  | extract x i =>
    simp only [pOp] at hp
    split at hp
    · rename_i px hx
      simp only [Option.some.injEq] at hp; subst hp
      simp only [lightOp] at hl
      split at hl
      · rename_i L hb
        have hv := hE x (by simp [Op.operands]) px _ hx hb
        generalize hxx : ev x = xx at hv
        cases hv with | tuple _ vs hL =>
        rw [nth_eq] at hl
        obtain ⟨v, hv, hr⟩ := hL.get i a hl
        have hvi : vs[i]? = some v := by simpa using hv
        exact ⟨v, by simp [Go.execOp, hxx, Instr.extract, hvi], hr⟩
      · cases hl
    · cases hp
  | call c =>
    obtain ⟨callee, args, argTypes⟩ := c
    simp only [pOp] at hp
    split at hp
    · split at hp
      · replace hp := cond_some hp; obtain ⟨_, hp⟩ := hp
        simp only [Option.some.injEq] at hp; subst hp; simp [lightOp] at hl
      · cases hp
    · split at hp
      · simp only [Option.some.injEq] at hp; subst hp; simp [lightOp] at hl
      · cases hp
    · cases hp
    · rename_i b
      have hex : ∀ (X : Sem Value), Go.builtin b argTypes ty (args.map fun | .const _ => true | _ => false) (args.map ev) = (do pure (.value (← X))) →
          Go.execOp ev ⟨dst, .call ⟨.builtin b, args, argTypes⟩, ty, pos, after, guard⟩ = (do pure (.value (← X))) := by
        intro X hX
        rw [← hX]
        rfl
      have mx : ∀ (isMax : Bool) (pa pb : PX), pXs P nt args.toList = some [pa, pb] → b = (if isMax then .max else .min) → op = .mx isMax pa pb →
          ∃ v, (Go.execOp ev ⟨dst, .call ⟨.builtin b, args, argTypes⟩, ty, pos, after, guard⟩).run P w = .ok (.value v) w ∧ VRel ρ μ a v := by
        intro isMax pa pb hpx hb hop
        obtain ⟨X, Y, hargs, hX, hY⟩ := pXs_two hpx
        have hargs' : args = #[X, Y] := by apply Array.ext'; simpa using hargs
        subst hargs' hop
        simp only [lightOp] at hl
        split at hl
        · rename_i k1 s1 k2 s2 h1 h2
          replace hl := cond_some hl; obtain ⟨hk, hl⟩ := hl
          have := beqKind_eq hk
          subst this
          have hv1 := hE X (by simp [Op.operands, Call.operands]) pa _ hX h1
          have hv2 := hE Y (by simp [Op.operands, Call.operands]) pb _ hY h2
          generalize hxx : ev X = xx at hv1
          generalize hyy : ev Y = yy at hv2
          cases hv1 with | int _ _ n1 e1 => cases hv2 with | int _ _ n2 e2 =>
          cases isMax with
          | true =>
            simp only [if_true] at hb
            subst hb
            simp only [cond_true] at hl
            have hrun : ∀ r : Bool, cmpI orc .gtr s2 s1 = some r → (Go.execOp ev ⟨dst, .call ⟨.builtin .max, #[X, Y], argTypes⟩, ty, pos, after, guard⟩).run P w = .ok (.value (.int k1 (if r then n2 else n1))) w := by
              intro r hr
              have hc := cmpI_sound ho hr
              rw [e1, e2] at hc
              simp only [cmpDen, Option.some.injEq] at hc
              rw [hex (Builtin.max_ argTypes ty (#[X, Y].map ev)) rfl]
              refine run_v ?_
              subst hc
              simp [Builtin.max_, hxx, hyy, Builtin.max2]
            split at hl
            · rename_i hr
              simp only [Option.some.injEq] at hl; subst hl
              exact ⟨_, hrun _ hr, .int _ _ _ e2⟩
            · rename_i hr
              simp only [Option.some.injEq] at hl; subst hl
              exact ⟨_, hrun _ hr, .int _ _ _ e1⟩
            · cases hl
          | false =>
            simp only [Bool.false_eq_true, if_false] at hb
            subst hb
            simp only [cond_false] at hl
            have hrun : ∀ r : Bool, cmpI orc .lss s2 s1 = some r → (Go.execOp ev ⟨dst, .call ⟨.builtin .min, #[X, Y], argTypes⟩, ty, pos, after, guard⟩).run P w = .ok (.value (.int k1 (if r then n2 else n1))) w := by
              intro r hr
              have hc := cmpI_sound ho hr
              rw [e1, e2] at hc
              simp only [cmpDen, Option.some.injEq] at hc
              rw [hex (Builtin.min_ argTypes ty (#[X, Y].map ev)) rfl]
              refine run_v ?_
              subst hc
              simp [Builtin.min_, hxx, hyy, Builtin.min2]
            split at hl
            · rename_i hr
              simp only [Option.some.injEq] at hl; subst hl
              exact ⟨_, hrun _ hr, .int _ _ _ e2⟩
            · rename_i hr
              simp only [Option.some.injEq] at hl; subst hl
              exact ⟨_, hrun _ hr, .int _ _ _ e1⟩
            · cases hl
        · cases hl
      split at hp
      · rename_i px hpx
        obtain ⟨X, hargs, hX⟩ := pXs_one hpx
        have hargs' : args = #[X] := by apply Array.ext'; simpa using hargs
        subst hargs'
        split at hp
        · rename_i t hty
          have hty' : argTypes = #[t] := by apply Array.ext'; simpa using hty
          subst hty'
          rw [hex (Builtin.len_ #[t] ty (#[X].map ev)) rfl]
          split at hp
          · rename_i hu
            simp only [Option.some.injEq] at hp; subst hp
            simp only [lightOp] at hl
            split at hl
            · rename_i n c hb
              simp only [Option.some.injEq] at hl; subst hl
              have hv := hE X (by simp [Op.operands, Call.operands]) px _ hX hb
              generalize hxx : ev X = xx at hv
              cases hv with | str _ _ s hs hs' =>
              refine ⟨goInt s.size, ?_, .int _ _ _ (by rw [Lib.size_eq, hs]; rfl)⟩
              refine run_v ?_
              simp [Builtin.len_, hxx, run_underlyingS hu]
            · cases hl
          · rename_i e hu
            simp only [Option.some.injEq] at hp; subst hp
            simp only [lightOp] at hl
            split at hl
            · rename_i hb
              simp only [Option.some.injEq] at hl; subst hl
              have hv := hE X (by simp [Op.operands, Call.operands]) px _ hX hb
              generalize hxx : ev X = xx at hv
              cases hv
              refine ⟨_, ?_, .int _ _ _ rfl⟩
              refine run_v ?_
              simp [Builtin.len_, hxx, run_underlyingS hu, goInt, SI.den]
            · rename_i hb
              simp only [Option.some.injEq] at hl; subst hl
              have hv := hE X (by simp [Op.operands, Call.operands]) px _ hX hb
              generalize hxx : ev X = xx at hv
              cases hv
              refine ⟨_, ?_, .int _ _ _ rfl⟩
              refine run_v ?_
              simp [Builtin.len_, hxx, run_underlyingS hu, goInt, SI.den]
            · rename_i hb
              simp only [Option.some.injEq] at hl; subst hl
              have hv := hE X (by simp [Op.operands, Call.operands]) px _ hX hb
              generalize hxx : ev X = xx at hv
              cases hv
              refine ⟨_, ?_, .int _ _ _ rfl⟩
              refine run_v ?_
              simp [Builtin.len_, hxx, run_underlyingS hu, goInt, SI.den]
            · cases hl
          · rename_i kt e hu
            simp only [Option.some.injEq] at hp; subst hp
            simp only [lightOp] at hl
            split at hl
            · rename_i b hb
              split at hl
              · rename_i L hL
                simp only [Option.some.injEq] at hl; subst hl
                have hv := hE X (by simp [Op.operands, Call.operands]) px _ hX hb
                generalize hxx : ev X = xx at hv
                cases hv with | map _ l r hmu hr =>
                subst hr
                obtain ⟨l', o', h1, h2, h3⟩ := hM.blk b _ (hH _ _ hL)
                rw [hmu] at h1; cases h1
                cases h3 with | map _ _ es clock hpairs hborn hclk =>
                have hget : (getObj l.c).run P w = .ok (.map es clock) w := by simp [getObj, Sem.run, h2]
                refine ⟨goInt es.size, ?_, .int _ _ _ ?_⟩
                · refine run_v ?_
                  simp [Builtin.len_, hxx, run_underlyingS hu, hget]
                · have : L.length = es.size := by
                    have hlen : ∀ (l : List (AV × AV)) (es : List MapEntry), Pairs ρ μ l es → l.length = es.length := by
                      intro l
                      induction l with
                      | nil => intro es h; cases es with | nil => rfl | cons _ _ => exact h.elim
                      | cons x l ih =>
                        intro es h
                        cases es with
                        | nil => obtain ⟨_, _⟩ := x; exact h.elim
                        | cons e es => obtain ⟨_, _⟩ := x; simp [ih es h.2.2]
                    have := hlen _ _ hpairs
                    simpa using this
                  rw [lenL_eq, this]; rfl
              · rename_i L c hL
                simp only [Option.some.injEq] at hl; subst hl
                have hv := hE X (by simp [Op.operands, Call.operands]) px _ hX hb
                generalize hxx : ev X = xx at hv
                cases hv with | map _ l r hmu hr =>
                subst hr
                obtain ⟨l', o', h1, h2, h3⟩ := hM.blk b _ (hH _ _ hL)
                rw [hmu] at h1; cases h1
                cases h3 with | mapD _ _ es clock hpairs =>
                have hget : (getObj l.c).run P w = .ok (.map es c) w := by simp [getObj, Sem.run, h2]
                refine ⟨goInt es.size, ?_, .int _ _ _ ?_⟩
                · refine run_v ?_
                  simp [Builtin.len_, hxx, run_underlyingS hu, hget]
                · have : L.length = es.size := by
                    have hlen : ∀ (l : List (Nat × AV × AV)) (es : List MapEntry), PairsS ρ μ l es → l.length = es.length := by
                      intro l
                      induction l with
                      | nil => intro es h; cases es with | nil => rfl | cons _ _ => exact h.elim
                      | cons x l ih =>
                        intro es h
                        cases es with
                        | nil => obtain ⟨_, _, _⟩ := x; exact h.elim
                        | cons e es => obtain ⟨_, _, _⟩ := x; simp [ih es h.2.2.2]
                    have := hlen _ _ hpairs
                    simpa using this
                  rw [lenL_eq, this]; rfl
              · cases hl
            · cases hl
          · cases hp
        · cases hp
      · split at hp
        · split at hp
          · split at hp
            · replace hp := cond_some hp; obtain ⟨_, hp⟩ := hp
              simp only [Option.some.injEq] at hp; subst hp; simp [lightOp] at hl
            · cases hp
          · split at hp
            · replace hp := cond_some hp; obtain ⟨_, hp⟩ := hp
              simp only [Option.some.injEq] at hp; subst hp; simp [lightOp] at hl
            · cases hp
          · cases hp
        · cases hp
      · simp only [Option.some.injEq] at hp; exact mx true _ _ ‹_› rfl hp.symm
      · simp only [Option.some.injEq] at hp; exact mx false _ _ ‹_› rfl hp.symm
      · simp only [Option.some.injEq] at hp; subst hp; simp [lightOp] at hl
      · split at hp
        · split at hp
          · split at hp
            · simp only [Option.some.injEq] at hp; subst hp; simp [lightOp] at hl
            · simp only [Option.some.injEq] at hp; subst hp; simp [lightOp] at hl
            · cases hp
          · cases hp
        · cases hp
      · cases hp
  | go c => simp [pOp] at hp
  | defer c =>
    simp only [pOp] at hp
    split at hp
    · split at hp
      · simp only [Option.some.injEq] at hp; subst hp; simp [lightOp] at hl
      · cases hp
    · cases hp
  | panic x => obtain ⟨px, hx, rfl⟩ := map_some hp; simp [lightOp] at hl
  | send c x => simp [pOp] at hp
  | recv t c ok => simp [pOp] at hp
  | select cs b => simp [pOp] at hp
end
end Go.Sx
