/-
  SX: a region that draws its order: what is known while it is under way. No condition.
-/
import Derived.Test.YtdghbgpolijpcaaGreatDoorMStep
set_option linter.unusedSimpArgs false
set_option linter.unusedVariables false
set_option linter.unusedSectionVars false
namespace Go.Sx
open Go.RowKit

structure Reg (P : Program) (nt : Nat) (ops : Array Oper) (pl : List POper) (bf : List Nat) : Prop where
  hpl : pOpers P nt ops (List.range ops.size) = some pl
  edges : edgesOk ops bf = true
  slots : slotsOk ops bf = true

section
variable {P : Program} {ρ : Nat → Int} {nt : Nat} {ops : Array Oper} {pl : List POper} {bf : List Nat}

theorem pOpers_get : ∀ {l : List Nat} {pl : List POper}, pOpers P nt ops l = some pl → pl.length = l.length ∧ ∀ (q i : Nat), l[q]? = some i → ∃ o po, ops[i]? = some o ∧ pOper P nt ops o = some po ∧ pl[q]? = some po
  | [], pl, h => by simp only [pOpers, Option.some.injEq] at h; subst h; exact ⟨rfl, fun q i hq => by simp at hq⟩
  | j :: l, pl, h => by
    simp only [pOpers] at h
    split at h
    · cases h
    · rename_i o ho
      split at h
      · rename_i a r h1 h2
        simp only [Option.some.injEq] at h; subst h
        obtain ⟨e1, e2⟩ := pOpers_get h2
        refine ⟨by simp [e1], fun q i hq => ?_⟩
        cases q with
        | zero => simp at hq; subst hq; exact ⟨o, a, ho, h1, by simp⟩
        | succ q => simpa using e2 q i (by simpa using hq)
      · cases h

theorem Reg.at (R : Reg P nt ops pl bf) {i : Nat} (hi : i < ops.size) : ∃ o po, ops[i]? = some o ∧ pOper P nt ops o = some po ∧ pl[i]? = some po := by
  obtain ⟨_, h⟩ := pOpers_get R.hpl
  exact h i i (by simp [hi])
theorem Reg.at' (R : Reg P nt ops pl bf) {i : Nat} {po : POper} (h : pl[i]? = some po) : i < ops.size := by
  obtain ⟨h1, _⟩ := pOpers_get R.hpl
  rcases Nat.lt_or_ge i ops.size with h' | h'
  · exact h'
  · rw [List.getElem?_eq_none (by rw [h1]; simpa using h')] at h; cases h

theorem Reg.edge (R : Reg P nt ops pl bf) {i : Nat} {o : Oper} (ho : ops[i]? = some o) {e : Edge} (he : e ∈ o.after.toList) (hb : Region.binds .any e = true) : e.on < i ∧ hasB (bfAt bf i) e.on = true := by
  have hi : i < ops.size := by
    rcases Nat.lt_or_ge i ops.size with h' | h'
    · exact h'
    · rw [Array.getElem?_eq_none h'] at ho; cases ho
  have h := R.edges
  unfold edgesOk at h
  rw [List.all_eq_true] at h
  have h := h i (by simpa using hi)
  rw [ho] at h
  simp only [Bool.and_eq_true, List.all_eq_true] at h
  have h := h.1 e he
  simp only [hb, Bool.not_true, Bool.false_or, Bool.and_eq_true, bltN_eq, decide_eq_true_eq] at h
  exact h
theorem Reg.down (R : Reg P nt ops pl bf) : EdgesDown ops := fun _ _ ho _ he hb => (R.edge ho he hb).1
theorem Reg.pred (R : Reg P nt ops pl bf) {i : Nat} {o : Oper} (ho : ops[i]? = some o) {j : Nat} (hj : j < ops.size) (hb : hasB (bfAt bf i) j = true) :
    ∃ e ∈ o.after.toList, Region.binds .any e = true ∧ (e.on = j ∨ hasB (bfAt bf e.on) j = true) := by
  have hi : i < ops.size := by
    rcases Nat.lt_or_ge i ops.size with h' | h'
    · exact h'
    · rw [Array.getElem?_eq_none h'] at ho; cases ho
  have h := R.edges
  unfold edgesOk at h
  rw [List.all_eq_true] at h
  have h := h i (by simpa using hi)
  rw [ho] at h
  simp only [Bool.and_eq_true, List.all_eq_true] at h
  have h := h.2 j (by simpa using hj)
  simp only [hb, Bool.not_true, Bool.false_or, List.any_eq_true, Bool.and_eq_true, Bool.or_eq_true, beqN_eq, decide_eq_true_eq] at h
  exact h

/- a set that holds the direct predecessors of its members holds all predecessors -/
def Closed (ops : Array Oper) (D : Nat → Bool) : Prop := ∀ (i : Nat) (o : Oper), D i = true → ops[i]? = some o → ∀ e ∈ o.after.toList, Region.binds .any e = true → D e.on = true
theorem Reg.closed (R : Reg P nt ops pl bf) {D : Nat → Bool} (hD : Closed ops D) : ∀ (i : Nat) (o : Oper), ops[i]? = some o → (∀ e ∈ o.after.toList, Region.binds .any e = true → D e.on = true) → ∀ j, j < ops.size → hasB (bfAt bf i) j = true → D j = true := by
  intro i
  induction i using Nat.strongRecOn with
  | _ i ih =>
    intro o ho hp j hj hb
    obtain ⟨e, he, heb, hor⟩ := R.pred ho hj hb
    have hlt := (R.edge ho he heb).1
    have hi : i < ops.size := by
      rcases Nat.lt_or_ge i ops.size with h' | h'
      · exact h'
      · rw [Array.getElem?_eq_none h'] at ho; cases ho
    rcases hor with h | h
    · rw [← h]; exact hp e he heb
    · have ho' : ops[e.on]? = some ops[e.on] := by
        have : e.on < ops.size := by omega
        simp [this]
      exact ih e.on hlt _ ho' (fun e' he' hb' => hD e.on _ (hp e he heb) ho' e' he' hb') j hj h

theorem Reg.slot (R : Reg P nt ops pl bf) {i j t : Nat} {o : Oper} (ho : ops[i]? = some o) (hj : dstO ops j = some t) :
    (i = j → t ∉ slotsO ops o) ∧ (i ≠ j → o.dst ≠ some t ∧ (t ∈ slotsO ops o → hasB (bfAt bf i) j = true ∨ hasB (bfAt bf j) i = true)) := by
  have hi : i < ops.size := by
    rcases Nat.lt_or_ge i ops.size with h' | h'
    · exact h'
    · rw [Array.getElem?_eq_none h'] at ho; cases ho
  have hjl : j < ops.size := by
    rcases Nat.lt_or_ge j ops.size with h' | h'
    · exact h'
    · simp [dstO, Array.getElem?_eq_none h'] at hj
  have h := R.slots
  unfold slotsOk at h
  rw [List.all_eq_true] at h
  have h := h i (by simpa using hi)
  rw [ho] at h
  simp only [List.all_eq_true] at h
  have h := h j (by simpa using hjl)
  rw [hj] at h
  simp only [beqN_eq] at h
  constructor
  · rintro rfl
    simpa using h
  · intro hne
    simp only [hne, decide_false, cond_false, Bool.and_eq_true, Bool.not_eq_true', Bool.or_eq_true] at h
    refine ⟨by simpa using h.1, fun hm => ?_⟩
    have h2 := h.2
    have hc : (slotsO ops o).contains t = true := by simpa using hm
    rw [hc] at h2
    simpa using h2

theorem dst_at {j t : Nat} (hj : dstO ops j = some t) : ∃ o, ops[j]? = some o ∧ o.dst = some t := by
  unfold dstO at hj
  cases h : ops[j]? with
  | none => rw [h] at hj; cases hj
  | some o => rw [h] at hj; exact ⟨o, rfl, by simpa using hj⟩
theorem Reg.dst_inj (R : Reg P nt ops pl bf) {i j t : Nat} (hi : dstO ops i = some t) (hj : dstO ops j = some t) : i = j := by
  rcases Nat.decEq i j with hne | h
  · obtain ⟨o, ho, hd⟩ := dst_at hi
    exact absurd hd ((R.slot ho hj).2 hne).1
  · exact h
end

/- ---------- bits ---------- -/
theorem hasB_set (m i j : Nat) : hasB (setB m i) j = (hasB m j || decide (i = j)) := by
  unfold hasB setB
  rw [Nat.testBit_or, Nat.testBit_two_pow]
theorem hasB_zero (j : Nat) : hasB 0 j = false := by simp [hasB]
theorem subB_spec {n a b : Nat} : subB n a b = true ↔ ∀ j, j < n → hasB a j = true → hasB b j = true := by
  unfold subB
  rw [List.all_eq_true]
  constructor
  · intro h j hj ha
    have := h j (by simpa using hj)
    simpa [ha] using this
  · intro h j hj
    have hj : j < n := by simpa using hj
    cases ha : hasB a j with
    | false => rfl
    | true => simpa using h j hj ha

end Go.Sx
/-
  SX: a region that draws its order: an operation that the machine has evaluated is carried out by the model. No condition.
-/
namespace Go.Sx
open Go.RowKit

theorem slotK_spec {nt i : Nat} {k : Key} (h : slotK nt i = some k) : k.toNat = i ∧ i < nt := by
  unfold slotK at h
  replace h := cond_some h
  obtain ⟨hc, h⟩ := h
  simp only [Option.some.injEq] at h
  subst h
  simp only [Bool.and_eq_true, bltN_eq, decide_eq_true_eq] at hc
  exact ⟨Nat.eq_of_beq_eq_true hc.2, hc.1⟩

theorem pOper_spec {P : Program} {nt : Nat} {ops : Array Oper} {o : Oper} {po : POper} (h : pOper P nt ops o = some po) :
    pOp P nt o = some po.op ∧ pGuard nt ops o.guard = some po.guard ∧ ((o.dst = none ∧ po.dst = none) ∨ ∃ k, o.dst = some k.toNat ∧ po.dst = some k ∧ k.toNat < nt) := by
  unfold pOper at h
  split at h
  · rename_i op g h1 h2
    split at h
    · rename_i hd
      simp only [Option.some.injEq] at h; subst h
      exact ⟨h1, h2, .inl ⟨hd, rfl⟩⟩
    · rename_i d hd
      split at h
      · rename_i k hk
        simp only [Option.some.injEq] at h; subst h
        obtain ⟨e, hlt⟩ := slotK_spec hk
        exact ⟨h1, h2, .inr ⟨k, by rw [e]; exact hd, rfl, by omega⟩⟩
      · cases h
  · cases h

/- adoption -/
noncomputable def adoptH (p : List (Nat × Key × Blk)) (h : T Blk) : T Blk := p.foldl (fun h x => T.set x.2.1 (some x.2.2) h) h
theorem adoptAll_eq {R : Type} : ∀ (p : List (Nat × Key × Blk)) (h : T Blk) (c : T Blk → R), adoptAll p h c = c (adoptH p h)
  | [], h, c => rfl
  | x :: p, h, c => by
    show T.setC x.2.1 (some x.2.2) h (fun h => adoptAll p h c) = _
    rw [T.setC_eq, adoptAll_eq p]
    rfl
theorem adopt_eq {R : Type} (l : List Nat) : ∀ (p : List (Nat × Key × Blk)) (h : T Blk) (c : List (Nat × Key × Blk) → T Blk → R), adopt l p h c = c (p.filter fun x => !(memN x.1 l)) (adoptH (p.filter fun x => memN x.1 l) h)
  | [], h, c => rfl
  | x :: p, h, c => by
    show (bif memN x.1 l then T.setC x.2.1 (some x.2.2) h (fun h => adopt l p h c) else adopt l p h fun p h => c (x :: p) h) = _
    cases hm : memN x.1 l with
    | true =>
      simp only [cond_true, T.setC_eq, adopt_eq l p, List.filter_cons, hm, Bool.not_true, Bool.false_eq_true, if_false, if_true]
      rfl
    | false =>
      simp only [cond_false, adopt_eq l p, List.filter_cons, hm, Bool.not_false, Bool.false_eq_true, if_false, if_true]
theorem memN_mem {i : Nat} : ∀ {l : List Nat}, memN i l = true → i ∈ l
  | [], h => by cases h
  | j :: l, h => by
    simp only [memN] at h
    cases hb : Nat.beq i j with
    | true => have := Nat.eq_of_beq_eq_true hb; simp [this]
    | false => rw [hb] at h; exact List.mem_cons_of_mem _ (memN_mem h)
theorem adoptH_get : ∀ {p : List (Nat × Key × Blk)} {h : T Blk} {b : Key} {B : Blk}, T.get b (adoptH p h) = some B → T.get b h = some B ∨ ∃ x ∈ p, x.2.1 = b ∧ x.2.2 = B
  | [], _, _, _, e => .inl e
  | x :: p, h, b, B, e => by
    rcases adoptH_get (p := p) e with h1 | ⟨y, h1, h2⟩
    · by_cases hb : b = x.2.1
      · subst hb; rw [T.get_set_same] at h1; cases h1; exact .inr ⟨x, by simp, rfl, rfl⟩
      · rw [T.get_set_ne _ _ _ _ hb] at h1; exact .inl h1
    · exact .inr ⟨y, List.mem_cons_of_mem _ h1, h2⟩
theorem viewH_get {l : List Nat} {pend : List (Nat × Key × Blk)} {h : T Blk} {b : Key} {B : Blk} (e : T.get b (viewH l pend h) = some B) : T.get b h = some B ∨ ∃ j, (j, b, B) ∈ pend ∧ j ∈ l := by
  unfold viewH at e
  split at e
  · exact .inl e
  · rw [adopt_eq] at e
    rcases adoptH_get e with h1 | ⟨⟨j, k, B'⟩, h1, h2, h3⟩
    · exact .inl h1
    · obtain ⟨h4, h5⟩ := List.mem_filter.1 h1
      simp only at h2 h3
      subst h2 h3
      exact .inr ⟨j, h4, memN_mem h5⟩
theorem adsOk_at {bf : List Nat} : ∀ {ads : List (Nat × List Nat)}, adsOk bf ads = true → ∀ i j, j ∈ adAt i ads → hasB (bfAt bf i) j = true
  | [], _, i, j, h => by cases h
  | (q, l) :: r, ha, i, j, h => by
    simp only [adsOk, Bool.and_eq_true, List.all_eq_true] at ha
    simp only [adAt] at h
    cases hb : Nat.beq i q with
    | true => rw [hb] at h; have := Nat.eq_of_beq_eq_true hb; subst this; exact ha.1 j h
    | false => rw [hb] at h; exact adsOk_at ha.2 i j h
/- what a read may look at -/
def VOk (bf : List Nat) (H : T Blk) (pend : List (Nat × Key × Blk)) (i : Nat) (V : T Blk) : Prop := ∀ b B, T.get b V = some B → T.get b H = some B ∨ ∃ j, (j, b, B) ∈ pend ∧ hasB (bfAt bf i) j = true
theorem VOk.refl (bf : List Nat) (H : T Blk) (pend : List (Nat × Key × Blk)) (i : Nat) : VOk bf H pend i H := fun _ _ h => .inl h
theorem VOk.view {bf : List Nat} {ads : List (Nat × List Nat)} (ha : adsOk bf ads = true) (H : T Blk) (pend : List (Nat × Key × Blk)) (i : Nat) : VOk bf H pend i (viewH (adAt i ads) pend H) := by
  intro b B e
  rcases viewH_get e with h | ⟨j, h1, h2⟩
  · exact .inl h
  · exact .inr ⟨j, h1, adsOk_at ha i j h2⟩

/- what the machine has worked out in a region under way -/
structure Gh where
  L : Nat
  D : Nat → Bool
  a0 : Key → Option AV
  val : Nat → Option AV

section
variable (P : Program) (ρ : Nat → Int) (orc : Orc) (nt : Nat) (ops : Array Oper) (pl : List POper) (bf : List Nat)

def slotVal (g : Gh) (i : Nat) (k : Key) (a : AV) : Prop :=
  (∃ j, dstO ops j = some k.toNat ∧ hasB (bfAt bf i) j = true ∧ g.val j = some a) ∨ ((∀ j, dstO ops j = some k.toNat → hasB (bfAt bf j) i = true) ∧ g.a0 k = some a)
def tmOk (g : Gh) (i : Nat) (tmi : T AV) : Prop := ∀ o, ops[i]? = some o → ∀ (k : Key) a, k.toNat ∈ slotsO ops o → T.get k tmi = some a → slotVal ops bf g i k a

inductive PendOk (H : T Blk) (g : Gh) (pend : List (Nat × Key × Blk)) (unv : Nat → Prop) (i : Nat) : Prop
  | skip (po : POper) (tmi : T AV) (h1 : pl[i]? = some po) (h2 : tmOk ops bf g i tmi) (h3 : wantsP po.guard tmi = some false) (h4 : g.val i = some (.tuple [])) (h5 : ∀ x ∈ pend, x.1 ≠ i) : PendOk H g pend unv i
  | light (po : POper) (tmi : T AV) (v : AV) (h1 : pl[i]? = some po) (h2 : tmOk ops bf g i tmi) (h3 : wantsP po.guard tmi = some true) (hk : kindAt pl i = 0) (h4 : ¬ unv i → ∃ V, lightOp orc po.op tmi V = some v ∧ VOk bf H pend i V) (h5 : g.val i = some v)
      (h6 : ∀ x ∈ pend, x.1 ≠ i) : PendOk H g pend unv i
  | alloc (po : POper) (tmi : T AV) (f : Key → AV) (B : Blk) (k : Key) (h1 : pl[i]? = some po) (h2 : tmOk ops bf g i tmi) (h3 : wantsP po.guard tmi = some true) (hk : kindAt pl i = 1) (h4 : allocOp po.op tmi = some (f, B))
      (h5 : g.val i = some (f k)) (h6 : (i, k, B) ∈ pend) : PendOk H g pend unv i

structure SRel (μ : Mu) (G : Key → Option Blk) (H : T Blk) (nx : Key) (g : Gh) (unv : Nat → Prop) (pend : List (Nat × Key × Blk)) (tm : T AV) (tmps : Array Value) (rest : List Nat) : Prop where
  reg : Reg P nt ops pl bf
  ord : VOrd ops g.D rest
  cl : Closed ops g.D
  sub : ∀ i, g.D i = true → hasB g.L i = true
  lrng : ∀ i, hasB g.L i = true → i < ops.size
  lcl : ∀ i, hasB g.L i = true → ∀ j, j < ops.size → hasB (bfAt bf i) j = true → hasB g.L j = true
  a1 : ∀ (k : Key) j, hasB g.L j = true → dstO ops j = some k.toNat → T.get k tm = g.val j
  a2 : ∀ (k : Key), (∀ j, hasB g.L j = true → dstO ops j ≠ some k.toNat) → T.get k tm = g.a0 k
  sz : nt ≤ tmps.size
  c1 : ∀ (k : Key) j a, g.D j = true → dstO ops j = some k.toNat → g.val j = some a → ∃ v, tmps[k.toNat]? = some v ∧ VRel ρ μ a v
  c2 : ∀ (k : Key) a, (∀ j, g.D j = true → dstO ops j ≠ some k.toNat) → g.a0 k = some a → ∃ v, tmps[k.toNat]? = some v ∧ VRel ρ μ a v
  pd : ∀ i, hasB g.L i = true → g.D i = false → PendOk orc ops pl bf H g pend unv i
  pe : ∀ x ∈ pend, hasB g.L x.1 = true ∧ (g.D x.1 = true → G x.2.1 = some x.2.2) ∧ (g.D x.1 = false → μ x.2.1 = none ∧ G x.2.1 = none) ∧ T.get x.2.1 H = none ∧ x.2.1.toNat < nx.toNat
  nk : (pend.map (·.2.1.toNat)).Nodup
  ni : (pend.map (·.1)).Nodup
end

section
variable {P : Program} {ρ : Nat → Int} {orc : Orc} {nt : Nat} {ops : Array Oper} {pl : List POper} {bf : List Nat} {w0 : W0} {w : World} {μ : Mu} {G : Key → Option Blk} {H : T Blk} {nx : Key} {g : Gh} {unv : Nat → Prop} {pend : List (Nat × Key × Blk)} {tm : T AV} {rest : List Nat} {fr : Frame} {cs : List Frame} {K : List Item}

/- operands -/
theorem pX_eval (hM : MRel P ρ w0 μ G nx.toNat w) {x : Operand} {px : PX} {a : AV} {tmi : T AV} (hp : pX P nt x = some px) (ha : px.at tmi = some a)
    (ht : ∀ t k, x = .tmp t → k.toNat = t → T.get k tmi = some a → ∃ v, fr.tmps[t]? = some v ∧ VRel ρ μ a v) : VRel ρ μ a (fr.eval x) := by
  cases x with
  | tmp t =>
    simp only [pX] at hp
    split at hp
    · rename_i k hk
      simp only [Option.some.injEq] at hp; subst hp
      obtain ⟨v, hv, hr⟩ := ht t k rfl (slotK_spec hk).1 ha
      have : fr.eval (.tmp t) = v := by simp [Frame.eval, Array.getD_eq_getD_getElem?, hv]
      rw [this]; exact hr
    · cases hp
  | const v =>
    simp only [pX] at hp
    split at hp
    · rename_i b hb
      simp only [Option.some.injEq] at hp; subst hp
      simp only [PX.at, Option.some.injEq] at ha; subst ha
      exact ofVal_rel _ _ _ hb
    · cases hp
  | global gl =>
    simp only [pX] at hp
    split at hp
    · rename_i k hk
      simp only [Option.some.injEq] at hp; subst hp
      simp only [PX.at, Option.some.injEq] at ha; subst ha
      obtain ⟨e, hlt⟩ := slotK_spec hk
      obtain ⟨ext, he⟩ := hM.glob k (by omega)
      exact .ptr _ _ _ _ he (by simp [e])
    · cases hp
  | func f =>
    simp only [pX, Option.some.injEq] at hp; subst hp
    simp only [PX.at, Option.some.injEq] at ha; subst ha
    exact .fn _ _ _ _ _ .nil .nil

theorem erel_of (hM : MRel P ρ w0 μ G nx.toNat w) {o : Oper} {tmi : T AV} (ht : ∀ (k : Key) a, k.toNat ∈ slotsO ops o → T.get k tmi = some a → ∃ v, fr.tmps[k.toNat]? = some v ∧ VRel ρ μ a v) :
    ERel P ρ μ nt o.op.operands.toList tmi fr.eval := by
  intro x hx px a hp ha
  refine pX_eval hM hp ha fun t k hxt hkt hg => ?_
  subst hxt
  rw [← hkt]
  refine ht k a ?_ hg
  unfold slotsO
  rw [List.mem_append, List.mem_filterMap]
  exact .inl ⟨_, hx, by rw [hkt]⟩

theorem wanted_of {o : Oper} {gd : Option (Key × Bool)} (hg : pGuard nt ops o.guard = some gd) {tmi : T AV} {tmps : Array Value} (ht : ∀ (k : Key) a, k.toNat ∈ slotsO ops o → T.get k tmi = some a → ∃ v, tmps[k.toNat]? = some v ∧ VRel ρ μ a v)
    {b : Bool} (hw : wantsP gd tmi = some b) : Region.wanted o (yielded ops tmps) = b := by
  cases hgu : o.guard with
  | none =>
    rw [hgu] at hg
    simp only [pGuard, Option.some.injEq] at hg; subst hg
    simp only [wantsP, Option.some.injEq] at hw
    simp [Region.wanted, hgu, hw]
  | some p =>
    obtain ⟨j, want⟩ := p
    rw [hgu] at hg
    simp only [pGuard] at hg
    split at hg
    · rename_i oj hoj
      split at hg
      · rename_i d hd
        split at hg
        · rename_i k hk
          simp only [Option.some.injEq] at hg; subst hg
          obtain ⟨e, _⟩ := slotK_spec hk
          have hmem : k.toNat ∈ slotsO ops o := by
            unfold slotsO
            rw [List.mem_append, hgu, e]
            right
            simp [hoj, hd]
          simp only [wantsP] at hw
          split at hw
          · rename_i b' hb'
            simp only [Option.some.injEq] at hw; subst hw
            obtain ⟨v, hv, hr⟩ := ht k _ hmem hb'
            cases hr
            rw [e] at hv
            simp only [Region.wanted, hgu, yielded, hoj, Option.bind_some, hd, hv]
            cases b' <;> cases want <;> rfl
          · rename_i hb'
            simp only [Option.some.injEq] at hw; subst hw
            obtain ⟨v, hv, hr⟩ := ht k _ hmem hb'
            cases hr with | tuple _ vs hvs =>
            rw [e] at hv
            simp only [Region.wanted, hgu, yielded, hoj, Option.bind_some, hd, hv]
            cases want <;> rfl
          · cases hw
        · cases hg
      · cases hg
    · cases hg

end
end Go.Sx
/-
  SX: a region that draws its order: an operation that the machine has evaluated is carried out by the model. No condition.
-/
namespace Go.Sx
open Go.RowKit

section
variable {P : Program} {ρ : Nat → Int} {orc : Orc} {nt : Nat} {ops : Array Oper} {pl : List POper} {bf : List Nat} {w0 : W0} {w : World} {μ μ' : Mu} {G G' : Key → Option Blk} {H : T Blk} {nx : Key} {g : Gh} {unv : Nat → Prop} {pend : List (Nat × Key × Blk)} {tm : T AV} {tmps : Array Value} {rest : List Nat} {fr : Frame} {cs : List Frame} {K : List Item} {i : Nat}

theorem SRel.ready (S : SRel P ρ orc nt ops pl bf μ G H nx g unv pend tm tmps (i :: rest)) :
    i < ops.size ∧ g.D i = false ∧ (∀ j, j < ops.size → hasB (bfAt bf i) j = true → g.D j = true) := by
  obtain ⟨h1, h2, h3, _⟩ := S.ord
  exact ⟨h1, h2, fun j hj hb => S.reg.closed S.cl i ops[i] (by simp [h1]) (fun e he hbb => h3 _ (by simp [h1]) e he hbb) j hj hb⟩

theorem dst_lt {j t : Nat} (h : dstO ops j = some t) : j < ops.size := by
  obtain ⟨o, ho, _⟩ := dst_at h
  rcases Nat.lt_or_ge j ops.size with h' | h'
  · exact h'
  · rw [Array.getElem?_eq_none h'] at ho; cases ho

/- the slots of an operation whose turn has come -/
theorem SRel.slotsNow (S : SRel P ρ orc nt ops pl bf μ G H nx g unv pend tm tmps (i :: rest)) {tmi : T AV} (ht : tmOk ops bf g i tmi) {o : Oper} (ho : ops[i]? = some o) :
    ∀ (k : Key) a, k.toNat ∈ slotsO ops o → T.get k tmi = some a → ∃ v, tmps[k.toNat]? = some v ∧ VRel ρ μ a v := by
  intro k a hk hg
  obtain ⟨h1, h2, h3⟩ := S.ready
  rcases ht o ho k a hk hg with ⟨j, hj, hb, hv⟩ | ⟨hall, ha⟩
  · exact S.c1 k j a (h3 j (dst_lt hj) hb) hj hv
  · refine S.c2 k a (fun j hD hj => ?_) ha
    have hb := hall j hj
    obtain ⟨oj, hoj, _⟩ := dst_at hj
    have := S.reg.closed S.cl j oj hoj (fun e he hbb => S.cl j oj hD hoj e he hbb) i h1 hb
    rw [h2] at this; cases this

def putA (d : Option Nat) (v : Value) (tmps : Array Value) : Array Value := match d with
  | some d => tmps.setIfInBounds d v
  | none => tmps

theorem finish_region {o : Oper} (ht : fr.todo = .inRegion ops (i :: rest) :: K) (ho : ops[i]? = some o) (v : Value) :
    fr.finish v = { fr with tmps := putA o.dst v fr.tmps, todo := .inRegion ops rest :: K } := by
  simp only [Frame.finish, ht, ho, Option.bind_some, putA]
  cases o.dst <;> rfl

theorem heavy_of_defer {o : Oper} {op : POp} (hp : pOp P nt o = some op) (hd : isDefer o.op = true) : isHeavy op = true := by
  obtain ⟨dst, cop, ty, pos, after, guard⟩ := o
  cases cop <;> first | (cases hd; done) | skip
  rename_i c
  simp only [pOp] at hp
  split at hp
  · split at hp
    · simp only [Option.some.injEq] at hp; subst hp; rfl
    · cases hp
  · cases hp
theorem kindAt_of {po : POper} (h : pl[i]? = some po) : kindAt pl i = (bif isHeavy po.op then 2 else bif isAlloc po.op then 1 else 0) := by
  simp [kindAt, h]

theorem put_get {tmps : Array Value} {d : Option Nat} {v : Value} (t : Nat) (h : ∀ x, d = some x → x < tmps.size) :
    (putA d v tmps)[t]? = if d = some t then some v else tmps[t]? := by
  cases d with
  | none => simp [putA]
  | some x =>
    have := h x rfl
    simp only [putA]
    by_cases e : x = t
    · subst e; simp [this]
    · rw [if_neg (by simpa using e), Array.getElem?_setIfInBounds_ne e]

/- once an operation has been carried out with the value that the machine has -/
theorem SRel.done (S : SRel P ρ orc nt ops pl bf μ G H nx g unv pend tm tmps (i :: rest)) (hm : μ.le μ') {o : Oper} (ho : ops[i]? = some o) {a : AV} {v : Value} (hL : hasB g.L i = true) (hval : g.val i = some a) (hv : VRel ρ μ' a v)
    (hpe : ∀ x ∈ pend, (x.1 = i → G' x.2.1 = some x.2.2) ∧ (x.1 ≠ i → μ' x.2.1 = μ x.2.1 ∧ G' x.2.1 = G x.2.1)) :
    SRel P ρ orc nt ops pl bf μ' G' H nx { g with D := fun j => g.D j || j == i } unv pend tm (putA o.dst v tmps) rest := by
  obtain ⟨hi, hDi, hbf⟩ := S.ready
  obtain ⟨o', po, ho', hpo, hpl⟩ := S.reg.at hi
  rw [ho] at ho'; cases ho'
  obtain ⟨hop, hgu, hdst⟩ := pOper_spec hpo
  have hdlt : ∀ x, o.dst = some x → x < tmps.size := by
    intro x hx
    rcases hdst with ⟨h, _⟩ | ⟨k, h, _, hlt⟩
    · rw [h] at hx; cases hx
    · rw [h] at hx; cases hx; exact Nat.lt_of_lt_of_le hlt S.sz
  have hdi : dstO ops i = o.dst := by simp [dstO, ho]
  have hget := fun t => put_get (v := v) t hdlt
  have hsize : (putA o.dst v tmps).size = tmps.size := by
    cases o.dst <;> simp [putA]
  have hD' : ∀ j, ((g.D j || j == i) = true) ↔ (g.D j = true ∨ j = i) := by intro j; simp
  refine ⟨S.reg, S.ord.2.2.2, ?_, ?_, S.lrng, S.lcl, S.a1, S.a2, by rw [hsize]; exact S.sz, ?_, ?_, ?_, ?_, S.nk, S.ni⟩
  · intro j oj hj hoj e he hb
    rcases (hD' j).1 hj with h | h
    · exact (hD' _).2 (.inl (S.cl j oj h hoj e he hb))
    · subst h
      exact (hD' _).2 (.inl (S.ord.2.2.1 oj hoj e he hb))
  · intro j hj
    rcases (hD' j).1 hj with h | h
    · exact S.sub j h
    · subst h; exact hL
  · intro k j b hj hjd hjv
    rw [hget]
    rcases (hD' j).1 hj with h | h
    · by_cases e : o.dst = some k.toNat
      · have : i = j := S.reg.dst_inj (hdi.trans e) hjd
        subst this; rw [hDi] at h; cases h
      · rw [if_neg e]
        obtain ⟨u, hu, hr⟩ := S.c1 k j b h hjd hjv
        exact ⟨u, hu, hr.mono hm⟩
    · subst h
      rw [hdi] at hjd
      rw [if_pos hjd]
      have hjv : g.val j = some b := hjv
      rw [hval] at hjv; cases hjv
      exact ⟨v, rfl, hv⟩
  · intro k b hno ha
    rw [hget]
    have hni : o.dst ≠ some k.toNat := by
      intro e
      exact hno i ((hD' i).2 (.inr rfl)) (hdi.trans e)
    rw [if_neg hni]
    obtain ⟨u, hu, hr⟩ := S.c2 k b (fun j hj => hno j ((hD' j).2 (.inl hj))) ha
    exact ⟨u, hu, hr.mono hm⟩
  · intro j hj hjD
    have hjD : (g.D j || j == i) = false := hjD
    rw [Bool.or_eq_false_iff] at hjD
    cases S.pd j hj hjD.1 with
    | skip po tmi h1 h2 h3 h4 h5 => exact .skip po tmi h1 h2 h3 h4 h5
    | light po tmi v h1 h2 h3 hk h4 h5 h6 => exact .light po tmi v h1 h2 h3 hk h4 h5 h6
    | alloc po tmi f B k h1 h2 h3 hk h4 h5 h6 => exact .alloc po tmi f B k h1 h2 h3 hk h4 h5 h6
  · intro x hx
    obtain ⟨p1, p2, p3, p4, p5⟩ := S.pe x hx
    obtain ⟨q1, q2⟩ := hpe x hx
    refine ⟨p1, fun h => ?_, fun h => ?_, p4, p5⟩
    · by_cases e : x.1 = i
      · exact q1 e
      · rw [(q2 e).2]
        exact p2 (((hD' _).1 h).resolve_right e)
    · have h : (g.D x.1 || x.1 == i) = false := h
      rw [Bool.or_eq_false_iff] at h
      have e : x.1 ≠ i := by simpa using h.2
      rw [(q2 e).1, (q2 e).2]
      exact p3 h.1

theorem exec_pending (hM : MRel P ρ w0 μ G nx.toNat w) (hH : HSub H G) (ho : OrcOk ρ orc) (S : SRel P ρ orc nt ops pl bf μ G H nx g unv pend tm fr.tmps (i :: rest)) (hL : hasB g.L i = true) (hu : ¬ unv i)
    (hm : fr.mode = .run) (ht : fr.todo = .inRegion ops (i :: rest) :: K) :
    ∃ tmps' w' μ' G', step P (lone fr cs w) = .next (lone { fr with tmps := tmps', todo := .inRegion ops rest :: K } cs w') ∧ μ.le μ' ∧ MRel P ρ w0 μ' G' nx.toNat w' ∧ HSub H G' ∧
      SRel P ρ orc nt ops pl bf μ' G' H nx { g with D := fun j => g.D j || j == i } unv pend tm tmps' rest ∧ (∀ b, (∀ x ∈ pend, x.2.1 ≠ b) → μ' b = μ b ∧ G' b = G b) := by
  obtain ⟨hi, hDi, hbf⟩ := S.ready
  obtain ⟨o, po, hop, hpo, hpl⟩ := S.reg.at hi
  obtain ⟨hp, hgu, hdst⟩ := pOper_spec hpo
  cases S.pd i hL hDi with
  | skip po' tmi h1 h2 h3 h4 h5 =>
    rw [hpl] at h1; cases h1
    have hs := S.slotsNow h2 hop
    have hw := wanted_of hgu hs h3
    have hstep := st_op_skip (P := P) (cs := cs) (w := w) hm ht hop hw
    rw [finish_region ht hop] at hstep
    refine ⟨_, w, μ, G, hstep, μ.le_refl, hM, hH, ?_, fun b _ => ⟨rfl, rfl⟩⟩
    refine S.done μ.le_refl hop hL h4 (v := undef) (.tuple _ _ .nil) ?_
    intro x hx
    exact ⟨fun e => absurd e (h5 x hx), fun _ => ⟨rfl, rfl⟩⟩
  | light po' tmi v h1 h2 h3 hk h4 h5 h6 =>
    rw [hpl] at h1; cases h1
    have hs := S.slotsNow h2 hop
    have hw := wanted_of hgu hs h3
    obtain ⟨V, hlV, hV⟩ := h4 hu
    have hVG : HSub V G := by
      intro b B hb
      rcases hV b B hb with h | ⟨j, h1, h2⟩
      · exact hH b B h
      · obtain ⟨p1, p2, _⟩ := S.pe _ h1
        exact p2 (hbf j (S.lrng j p1) h2)
    obtain ⟨u, hrun, hr⟩ := light_sound hM hVG ho hp (erel_of hM hs) hlV
    have hnd : isDefer o.op = false := by
      cases hd : isDefer o.op with
      | false => rfl
      | true => rw [kindAt_of hpl, heavy_of_defer hp hd] at hk; cases hk
    have hstep := st_val (P := P) (cs := cs) hm ht hop hw (.inr hnd) hrun
    rw [finish_region ht hop] at hstep
    refine ⟨_, w, μ, G, hstep, μ.le_refl, hM, hH, ?_, fun b _ => ⟨rfl, rfl⟩⟩
    refine S.done μ.le_refl hop hL h5 hr ?_
    intro x hx
    exact ⟨fun e => absurd e (h6 x hx), fun _ => ⟨rfl, rfl⟩⟩
  | alloc po' tmi f B k h1 h2 h3 hk h4 h5 h6 =>
    rw [hpl] at h1; cases h1
    have hs := S.slotsNow h2 hop
    have hw := wanted_of hgu hs h3
    obtain ⟨_, _, p3, p4, p5⟩ := S.pe _ h6
    obtain ⟨hmk, hgk⟩ := p3 hDi
    obtain ⟨u, w', l, hrun, hle, hM', hr⟩ := alloc_sound hM hp (erel_of hM hs) h4 hmk (nx' := nx.toNat) (Nat.le_refl _) p5
    have hnd : isDefer o.op = false := by
      cases hd : isDefer o.op with
      | false => rfl
      | true => rw [kindAt_of hpl, heavy_of_defer hp hd] at hk; cases hk
    have hstep := st_val (P := P) (cs := cs) hm ht hop hw (.inr hnd) hrun
    rw [finish_region ht hop] at hstep
    refine ⟨_, w', _, _, hstep, hle, hM', ?_, ?_, ?_⟩
    · intro b B' hb
      have : b ≠ k := by intro e; subst e; rw [p4] at hb; cases hb
      rw [upd_ne _ _ this]; exact hH b B' hb
    · refine S.done hle hop hL h5 hr ?_
      intro x hx
      constructor
      · intro e
        have : x = (i, k, B) := by
          have hni := S.ni
          have := List.pairwise_iff_getElem.1 hni
          obtain ⟨p, hp', hpx⟩ := List.getElem_of_mem hx
          obtain ⟨q, hq, hqx⟩ := List.getElem_of_mem h6
          rcases Nat.lt_trichotomy p q with hpq | hpq | hpq
          · have := this p q (by simpa using hp') (by simpa using hq) hpq
            simp [hpx, hqx, e] at this
          · subst hpq; rw [← hpx, ← hqx]
          · have := this q p (by simpa using hq) (by simpa using hp') hpq
            simp [hpx, hqx, e] at this
        subst this
        exact upd_same _ _ _
      · intro e
        have hne : x.2.1 ≠ k := by
          intro hk'
          have hnk := S.nk
          have := List.pairwise_iff_getElem.1 hnk
          obtain ⟨p, hp', hpx⟩ := List.getElem_of_mem hx
          obtain ⟨q, hq, hqx⟩ := List.getElem_of_mem h6
          rcases Nat.lt_trichotomy p q with hpq | hpq | hpq
          · have := this p q (by simpa using hp') (by simpa using hq) hpq
            simp [hpx, hqx, hk'] at this
          · subst hpq; rw [hpx] at hqx; subst hqx; exact e rfl
          · have := this q p (by simpa using hq) (by simpa using hp') hpq
            simp [hpx, hqx, hk'] at this
        exact ⟨upd_ne _ _ hne, upd_ne _ _ hne⟩
    · intro b hb
      have : b ≠ k := fun e => hb _ h6 e.symm
      exact ⟨upd_ne _ _ this, upd_ne _ _ this⟩
end
end Go.Sx
/-
  SX: a region that draws its order: the machine evaluates one operation more; the model comes to the next heavy operation. No condition.
-/
namespace Go.Sx
open Go.RowKit

theorem lightOp_pure (orc : Orc) (op : POp) (tm : T AV) (H H' : T Blk) (h : isRead op = false) : lightOp orc op tm H = lightOp orc op tm H' := by
  cases op <;> first | (cases h; done) | rfl

section
variable {P : Program} {ρ : Nat → Int} {orc : Orc} {nt : Nat} {ops : Array Oper} {pl : List POper} {bf : List Nat} {w0 : W0} {w : World} {μ μ' : Mu} {G G' : Key → Option Blk} {H H' : T Blk} {nx nx' : Key} {g : Gh} {unv unv' : Nat → Prop} {pend pend' : List (Nat × Key × Blk)} {tm : T AV} {tmps : Array Value} {rest : List Nat} {fr : Frame} {cs : List Frame} {K : List Item} {i : Nat}

/- an operation whose predecessors have been evaluated reads the right slots -/
theorem SRel.tm_ok (S : SRel P ρ orc nt ops pl bf μ G H nx g unv pend tm tmps rest) (hi : i < ops.size) (hL : hasB g.L i = false) (hb : ∀ j, j < ops.size → hasB (bfAt bf i) j = true → hasB g.L j = true) : tmOk ops bf g i tm := by
  intro o ho k a hk ha
  by_cases h : ∃ j, hasB g.L j = true ∧ dstO ops j = some k.toNat
  · obtain ⟨j, hj, hd⟩ := h
    left
    refine ⟨j, hd, ?_, by rw [← S.a1 k j hj hd]; exact ha⟩
    have hne : i ≠ j := by intro e; subst e; rw [hL] at hj; cases hj
    rcases ((S.reg.slot ho hd).2 hne).2 hk with h | h
    · exact h
    · have := S.lcl j hj i hi h
      rw [hL] at this; cases this
  · right
    have h : ∀ j, hasB g.L j = true → dstO ops j ≠ some k.toNat := fun j hj hd => h ⟨j, hj, hd⟩
    refine ⟨fun j hd => ?_, by rw [← S.a2 k h]; exact ha⟩
    by_cases hne : i = j
    · subst hne; exact absurd hk ((S.reg.slot ho hd).1 rfl)
    · rcases ((S.reg.slot ho hd).2 hne).2 hk with hb' | hb'
      · exact absurd hd (h j (hb j (dst_lt hd) hb'))
      · exact hb'

def updN (f : Nat → Option AV) (i : Nat) (x : Option AV) : Nat → Option AV := fun j => if j = i then x else f j

theorem slotVal_upd {x : Option AV} {L' : Nat} {D' : Nat → Bool} {p : Nat} {k : Key} {a : AV} (hp : hasB (bfAt bf p) i = false) (h : slotVal ops bf g p k a) : slotVal ops bf { L := L', D := D', a0 := g.a0, val := updN g.val i x } p k a := by
  rcases h with ⟨j, h1, h2, h3⟩ | ⟨h1, h2⟩
  · left
    refine ⟨j, h1, h2, ?_⟩
    have : j ≠ i := by intro e; subst e; rw [hp] at h2; cases h2
    simpa [updN, this] using h3
  · exact .inr ⟨h1, h2⟩

theorem tmOk_upd {x : Option AV} {L' : Nat} {D' : Nat → Bool} {p : Nat} {tmi : T AV} (hp : hasB (bfAt bf p) i = false) (h : tmOk ops bf g p tmi) : tmOk ops bf { L := L', D := D', a0 := g.a0, val := updN g.val i x } p tmi :=
  fun o ho k a hk hg => slotVal_upd hp (h o ho k a hk hg)

theorem PendOk.upd {x : Option AV} {L' : Nat} {D' : Nat → Bool} {p : Nat} (hp : hasB (bfAt bf p) i = false) (hne : p ≠ i) (hpend : ∀ y ∈ pend, y ∈ pend') (hpend' : ∀ y ∈ pend', y ∈ pend ∨ y.1 = i) (h : PendOk orc ops pl bf H g pend unv p) :
    PendOk orc ops pl bf H { L := L', D := D', a0 := g.a0, val := updN g.val i x } pend' unv p := by
  have hv : ∀ v, g.val p = some v → updN g.val i x p = some v := by intro v hv; simpa [updN, hne] using hv
  have hq : (∀ y ∈ pend, y.1 ≠ p) → ∀ y ∈ pend', y.1 ≠ p := by
    intro hh y hy
    rcases hpend' y hy with h | h
    · exact hh y h
    · rw [h]; exact fun e => hne e.symm
  cases h with
  | skip po tmi h1 h2 h3 h4 h5 => exact .skip po tmi h1 (tmOk_upd hp h2) h3 (hv _ h4) (hq h5)
  | light po tmi v h1 h2 h3 hk h4 h5 h6 =>
    refine .light po tmi v h1 (tmOk_upd hp h2) h3 hk (fun hu => ?_) (hv _ h5) (hq h6)
    obtain ⟨V, a1, a2⟩ := h4 hu
    refine ⟨V, a1, fun b B hb => ?_⟩
    rcases a2 b B hb with h | ⟨j, h, h'⟩
    · exact .inl h
    · exact .inr ⟨j, hpend _ h, h'⟩
  | alloc po tmi f B k h1 h2 h3 hk h4 h5 h6 => exact .alloc po tmi f B k h1 (tmOk_upd hp h2) h3 hk h4 (hv _ h5) (hpend _ h6)

/- the machine's slots behind an operation -/
noncomputable def putTm (d : Option Key) (v : AV) (tm : T AV) : T AV := match d with
  | none => tm
  | some k => T.set k (some v) tm
theorem putT_eq {R : Type} (d : Option Key) (v : AV) (tm : T AV) (c : T AV → R) : putT d (some v) tm c = c (putTm d v tm) := by
  cases d with
  | none => rfl
  | some k => simp only [putT, putTm, T.setC_eq]

/- ONE OPERATION MORE IS EVALUATED -/
theorem SRel.add (S : SRel P ρ orc nt ops pl bf μ G H nx g unv pend tm tmps rest) {po : POper} (hpl : pl[i]? = some po) (hL : hasB g.L i = false) (hb : ∀ j, j < ops.size → hasB (bfAt bf i) j = true → hasB g.L j = true)
    {v : AV} (hpend : ∀ y ∈ pend, y ∈ pend') (hpend' : ∀ y ∈ pend', y ∈ pend ∨ y.1 = i)
    (hok : PendOk orc ops pl bf H { L := setB g.L i, D := g.D, a0 := g.a0, val := updN g.val i (some v) } pend' unv i)
    (hpe : ∀ y ∈ pend', y ∉ pend → μ y.2.1 = none ∧ G y.2.1 = none ∧ T.get y.2.1 H = none ∧ y.2.1.toNat < nx'.toNat) (hn : nx.toNat ≤ nx'.toNat)
    (hnk : (pend'.map (·.2.1.toNat)).Nodup) (hni : (pend'.map (·.1)).Nodup) :
    SRel P ρ orc nt ops pl bf μ G H nx' { L := setB g.L i, D := g.D, a0 := g.a0, val := updN g.val i (some v) } unv pend' (putTm po.dst v tm) tmps rest := by
  have hi := S.reg.at' hpl
  obtain ⟨o, po', ho, hpo, hpl'⟩ := S.reg.at hi
  rw [hpl] at hpl'; cases hpl'
  obtain ⟨hop, hgu, hdst⟩ := pOper_spec hpo
  have hdi : dstO ops i = o.dst := by simp [dstO, ho]
  have hDi : g.D i = false := by
    cases h : g.D i with
    | false => rfl
    | true => have := S.sub i h; rw [hL] at this; cases this
  have hLs : ∀ j, hasB (setB g.L i) j = true ↔ (hasB g.L j = true ∨ j = i) := by
    intro j; rw [hasB_set, Bool.or_eq_true, decide_eq_true_eq]
    exact ⟨fun h => h.imp id Eq.symm, fun h => h.imp id Eq.symm⟩
  have hnb : ∀ p, hasB g.L p = true → hasB (bfAt bf p) i = false := by
    intro p hp
    cases h : hasB (bfAt bf p) i with
    | false => rfl
    | true => have := S.lcl p hp i hi h; rw [hL] at this; cases this
  refine ⟨S.reg, S.ord, S.cl, ?_, ?_, ?_, ?_, ?_, S.sz, ?_, S.c2, ?_, ?_, hnk, hni⟩
  · intro j hj; exact (hLs j).2 (.inl (S.sub j hj))
  · intro j hj
    rcases (hLs j).1 hj with h | h
    · exact S.lrng j h
    · subst h; exact hi
  · intro j hj q hq hbq
    rcases (hLs j).1 hj with h | h
    · exact (hLs q).2 (.inl (S.lcl j h q hq hbq))
    · subst h; exact (hLs q).2 (.inl (hb q hq hbq))
  · intro k j hj hd
    rcases hdst with ⟨e1, e2⟩ | ⟨kd, e1, e2, _⟩
    · rcases (hLs j).1 hj with h | h
      · have hne : j ≠ i := by intro e; subst e; rw [hL] at h; cases h
        rw [e2]
        simp only [putTm, updN, hne, if_false]
        exact S.a1 k j h hd
      · subst h; rw [hdi, e1] at hd; cases hd
    · rw [e2]
      simp only [putTm]
      rcases (hLs j).1 hj with h | h
      · have hne : j ≠ i := by intro e; subst e; rw [hL] at h; cases h
        have hk : k ≠ kd := by
          intro e; subst e
          exact hne (S.reg.dst_inj hd (hdi.trans e1))
        rw [T.get_set_ne _ _ _ _ hk]
        simp only [updN, hne, if_false]
        exact S.a1 k j h hd
      · subst h
        rw [hdi, e1] at hd
        have hk : k = kd := Key.toNat_inj (by simpa using hd.symm)
        subst hk
        rw [T.get_set_same]
        simp [updN]
  · intro k hno
    rcases hdst with ⟨e1, e2⟩ | ⟨kd, e1, e2, _⟩
    · rw [e2]
      exact S.a2 k fun j hj => hno j ((hLs j).2 (.inl hj))
    · rw [e2]
      simp only [putTm]
      have hk : k ≠ kd := by
        intro e; subst e
        exact hno i ((hLs i).2 (.inr rfl)) (hdi.trans e1)
      rw [T.get_set_ne _ _ _ _ hk]
      exact S.a2 k fun j hj => hno j ((hLs j).2 (.inl hj))
  · intro k j a hj hd hv
    have hne : j ≠ i := by intro e; subst e; rw [hDi] at hj; cases hj
    exact S.c1 k j a hj hd (by simpa [updN, hne] using hv)
  · intro j hj hjD
    rcases (hLs j).1 hj with h | h
    · have hne : j ≠ i := by intro e; subst e; rw [hL] at h; cases h
      exact (S.pd j h hjD).upd (hnb j h) hne hpend hpend'
    · subst h; exact hok
  · intro y hy
    by_cases hin : y ∈ pend
    · obtain ⟨p1, p2, p3, p4, p5⟩ := S.pe y hin
      exact ⟨(hLs _).2 (.inl p1), p2, p3, p4, Nat.lt_of_lt_of_le p5 hn⟩
    · obtain ⟨q1, q2, q3, q4⟩ := hpe y hy hin
      have e := (hpend' y hy).resolve_left hin
      refine ⟨(hLs _).2 (.inr e), fun h => ?_, fun _ => ⟨q1, q2⟩, q3, q4⟩
      rw [e] at h
      have h : g.D i = true := h
      rw [hDi] at h; cases h

/- while others run -/
theorem SRel.keep (S : SRel P ρ orc nt ops pl bf μ G H nx g (fun i => isReadAt pl i = true) pend tm tmps rest) (hm : μ.le μ') (hn : nx.toNat ≤ nx'.toNat)
    (hk : ∀ x ∈ pend, μ' x.2.1 = μ x.2.1 ∧ G' x.2.1 = G x.2.1 ∧ T.get x.2.1 H' = none) : SRel P ρ orc nt ops pl bf μ' G' H' nx' g (fun i => isReadAt pl i = true) pend tm tmps rest := by
  refine ⟨S.reg, S.ord, S.cl, S.sub, S.lrng, S.lcl, S.a1, S.a2, S.sz, ?_, ?_, ?_, ?_, S.nk, S.ni⟩
  · intro k j a h1 h2 h3
    obtain ⟨v, hv, hr⟩ := S.c1 k j a h1 h2 h3
    exact ⟨v, hv, hr.mono hm⟩
  · intro k a h1 h2
    obtain ⟨v, hv, hr⟩ := S.c2 k a h1 h2
    exact ⟨v, hv, hr.mono hm⟩
  · intro i hi hD
    cases S.pd i hi hD with
    | skip po tmi h1 h2 h3 h4 h5 => exact .skip po tmi h1 h2 h3 h4 h5
    | light po tmi v h1 h2 h3 hkk h4 h5 h6 =>
      refine .light po tmi v h1 h2 h3 hkk (fun hu => ?_) h5 h6
      obtain ⟨V, a1, _⟩ := h4 hu
      refine ⟨H', ?_, VOk.refl _ _ _ _⟩
      rw [← a1]
      apply lightOp_pure
      have : isReadAt pl i = isRead po.op := by simp [isReadAt, h1]
      rw [this] at hu
      simpa using hu
    | alloc po tmi f B k h1 h2 h3 hkk h4 h5 h6 => exact .alloc po tmi f B k h1 h2 h3 hkk h4 h5 h6
  · intro x hx
    obtain ⟨p1, p2, p3, p4, p5⟩ := S.pe x hx
    obtain ⟨q1, q2, q3⟩ := hk x hx
    refine ⟨p1, fun h => by rw [q2]; exact p2 h, fun h => by rw [q1, q2]; exact p3 h, q3, Nat.lt_of_lt_of_le p5 hn⟩

theorem SRel.weaken (S : SRel P ρ orc nt ops pl bf μ G H nx g unv pend tm tmps rest) (h : ∀ i, hasB g.L i = true → g.D i = false → unv i → unv' i) : SRel P ρ orc nt ops pl bf μ G H nx g unv' pend tm tmps rest := by
  refine ⟨S.reg, S.ord, S.cl, S.sub, S.lrng, S.lcl, S.a1, S.a2, S.sz, S.c1, S.c2, ?_, S.pe, S.nk, S.ni⟩
  intro i hi hD
  cases S.pd i hi hD with
  | skip po tmi h1 h2 h3 h4 h5 => exact .skip po tmi h1 h2 h3 h4 h5
  | light po tmi v h1 h2 h3 hkk h4 h5 h6 => exact .light po tmi v h1 h2 h3 hkk (fun hu => h4 fun hu' => hu (h i hi hD hu')) h5 h6
  | alloc po tmi f B k h1 h2 h3 hkk h4 h5 h6 => exact .alloc po tmi f B k h1 h2 h3 hkk h4 h5 h6
end
end Go.Sx
/-
  SX: a region that draws its order: the model comes to the next heavy operation; reads are looked at again. No condition.
-/
namespace Go.Sx
open Go.RowKit

section
variable {P : Program} {ρ : Nat → Int} {orc : Orc} {nt : Nat} {ops : Array Oper} {pl : List POper} {bf : List Nat} {w0 : W0} {w : World} {μ μ' : Mu} {G G' : Key → Option Blk} {H H' : T Blk} {nx nx' : Key} {g : Gh} {unv unv' : Nat → Prop} {pend pend' : List (Nat × Key × Blk)} {tm : T AV} {tmps : Array Value} {rest : List Nat} {fr : Frame} {cs : List Frame} {K : List Item} {i : Nat}

/- what has come of it -/
def Came (P : Program) (ρ : Nat → Int) (orc : Orc) (nt : Nat) (ops : Array Oper) (pl : List POper) (bf : List Nat) (w0 : W0) (H : T Blk) (nx : Key) (g : Gh) (pend : List (Nat × Key × Blk)) (tm : T AV) (K : List Item)
    (fr : Frame) (cs : List Frame) (w : World) (μ : Mu) (G : Key → Option Blk) (good : List Nat → Prop) : Prop :=
  ∃ tmps' w' μ' G' D' rest', Steps P (lone fr cs w) (lone { fr with tmps := tmps', todo := .inRegion ops rest' :: K } cs w') ∧ μ.le μ' ∧ MRel P ρ w0 μ' G' nx.toNat w' ∧ HSub H G' ∧
    SRel P ρ orc nt ops pl bf μ' G' H nx { g with D := D' } (fun _ => False) pend tm tmps' rest' ∧ (∀ b, (∀ x ∈ pend, x.2.1 ≠ b) → μ' b = μ b ∧ G' b = G b) ∧ good rest'

theorem run_on (good : List Nat → Prop) (ho : OrcOk ρ orc)
    (hgo : ∀ (D : Nat → Bool) (rest : List Nat), (∀ i, D i = true → hasB g.L i = true) → VOrd ops D rest → good rest ∨ ∃ q r, rest = q :: r ∧ ((∀ j, j < ops.size → hasB (bfAt bf q) j = true → D j = true) → hasB g.L q = true)) :
    ∀ (rest : List Nat) (D : Nat → Bool) (fr : Frame) (w : World) (μ : Mu) (G : Key → Option Blk), MRel P ρ w0 μ G nx.toNat w → HSub H G → SRel P ρ orc nt ops pl bf μ G H nx { g with D := D } (fun _ => False) pend tm fr.tmps rest →
      fr.mode = .run → fr.todo = .inRegion ops rest :: K → Came P ρ orc nt ops pl bf w0 H nx g pend tm K fr cs w μ G good := by
  intro rest
  induction rest with
  | nil =>
    intro D fr w μ G hM hH S hm ht
    rcases hgo D [] S.sub S.ord with h | ⟨q, r, h, _⟩
    · refine ⟨fr.tmps, w, μ, G, D, [], ?_, μ.le_refl, hM, hH, S, fun _ _ => ⟨rfl, rfl⟩, h⟩
      rw [← ht]; exact Steps.refl _ _
    · cases h
  | cons q r ih =>
    intro D fr w μ G hM hH S hm ht
    rcases hgo D (q :: r) S.sub S.ord with h | ⟨q', r', h, hq⟩
    · refine ⟨fr.tmps, w, μ, G, D, q :: r, ?_, μ.le_refl, hM, hH, S, fun _ _ => ⟨rfl, rfl⟩, h⟩
      rw [← ht]; exact Steps.refl _ _
    · cases h
      have hL := hq S.ready.2.2
      obtain ⟨tmps', w', μ', G', h1, h2, h3, h4, h5, h6⟩ := exec_pending (cs := cs) hM hH ho S hL (fun h => h) hm ht
      obtain ⟨tmps2, w2, μ2, G2, D2, rest2, k1, k2, k3, k4, k5, k6, k7⟩ := ih _ { fr with tmps := tmps', todo := .inRegion ops r :: K } w' μ' G' h3 h4 h5 hm rfl
      exact ⟨tmps2, w2, μ2, G2, D2, rest2, .head h1 k1, Mu.le_trans h2 k2, k3, k4, k5, fun b hb => ⟨(k6 b hb).1.trans (h6 b hb).1, (k6 b hb).2.trans (h6 b hb).2⟩, k7⟩

theorem run_to_heavy (hM : MRel P ρ w0 μ G nx.toNat w) (hH : HSub H G) (ho : OrcOk ρ orc) (S : SRel P ρ orc nt ops pl bf μ G H nx g (fun _ => False) pend tm fr.tmps rest) {h : Nat} (hlt : h < ops.size) (hh : hasB g.L h = false)
    (hnext : ∀ j, j < ops.size → hasB g.L j = true ∨ j = h ∨ ∃ q, q < ops.size ∧ hasB (bfAt bf j) q = true ∧ hasB g.L q = false) (hm : fr.mode = .run) (ht : fr.todo = .inRegion ops rest :: K) :
    Came P ρ orc nt ops pl bf w0 H nx g pend tm K fr cs w μ G (fun r => ∃ r', r = h :: r') := by
  refine run_on _ ho ?_ rest g.D fr w μ G hM hH S hm ht
  intro D rest hsub hord
  cases rest with
  | nil =>
    have := hsub h (hord h hlt)
    rw [hh] at this; cases this
  | cons q r =>
    by_cases e : q = h
    · subst e; exact .inl ⟨r, rfl⟩
    · refine .inr ⟨q, r, rfl, fun hb => ?_⟩
      rcases hnext q hord.1 with h1 | h1 | ⟨p, hp, hpb, hpL⟩
      · exact h1
      · exact absurd h1 e
      · have := hsub p (hb p hp hpb)
        rw [hpL] at this; cases this

theorem run_to_end (hM : MRel P ρ w0 μ G nx.toNat w) (hH : HSub H G) (ho : OrcOk ρ orc) (S : SRel P ρ orc nt ops pl bf μ G H nx g (fun _ => False) pend tm fr.tmps rest)
    (hall : ∀ j, j < ops.size → hasB g.L j = true) (hm : fr.mode = .run) (ht : fr.todo = .inRegion ops rest :: K) :
    Came P ρ orc nt ops pl bf w0 H nx g pend tm K fr cs w μ G (fun r => r = []) := by
  refine run_on _ ho ?_ rest g.D fr w μ G hM hH S hm ht
  intro D rest hsub hord
  cases rest with
  | nil => exact .inl rfl
  | cons q r => exact .inr ⟨q, r, rfl, fun _ => hall q hord.1⟩

/- reads are looked at again -/
theorem recheck_mem {ads : List (Nat × List Nat)} : ∀ {os : List (Nat × POper)}, recheck orc ads pend tm H os = true → ∀ i po, (i, po) ∈ os →
    ∃ d, po.dst = some d ∧ ((wantsP po.guard tm = some false ∧ T.get d tm = some (.tuple [])) ∨ (wantsP po.guard tm = some true ∧ ∃ v, T.get d tm = some v ∧ lightOp orc po.op tm (viewH (adAt i ads) pend H) = some v))
  | [], _, _, _, h => by simp at h
  | (q, o) :: os, hr, i, po, hm => by
    simp only [recheck] at hr
    split at hr
    · rename_i hw
      split at hr
      · cases hr
      · rename_i d hd
        split at hr
        · rename_i hg
          rcases List.mem_cons.1 hm with h | h
          · cases h; exact ⟨d, hd, .inl ⟨hw, hg⟩⟩
          · exact recheck_mem hr i po h
        · cases hr
    · rename_i hw
      split at hr
      · cases hr
      · rename_i d hd
        split at hr
        · rename_i v u hg hl
          cases hb : AV.beq v u with
          | false => rw [hb] at hr; cases hr
          | true =>
            rw [hb] at hr
            simp only [cond_true] at hr
            have := AV.eq_of_beq v u hb
            subst this
            rcases List.mem_cons.1 hm with h | h
            · cases h; exact ⟨d, hd, .inr ⟨hw, v, hg, hl⟩⟩
            · exact recheck_mem hr i po h
        · cases hr
    · cases hr

theorem readOk_spec {i : Nat} {o : Oper} (h : readOk ops bf i = true) (ho : ops[i]? = some o) {j t : Nat} (hj : dstO ops j = some t) (ht : t ∈ slotsO ops o) : hasB (bfAt bf i) j = true := by
  unfold readOk at h
  rw [ho] at h
  simp only [List.all_eq_true] at h
  have h := h j (by simpa using dst_lt hj)
  rw [hj] at h
  have hc : (slotsO ops o).contains t = true := by simpa using ht
  simp only [hc, Bool.not_true, Bool.false_or] at h
  exact h

theorem SRel.rechecked (S : SRel P ρ orc nt ops pl bf μ G H nx g unv pend tm tmps rest) {os : List (Nat × POper)} {ads : List (Nat × List Nat)} (hads : adsOk bf ads = true) (hr : recheck orc ads pend tm H os = true)
    (hos : ∀ i po, (i, po) ∈ os → pl[i]? = some po ∧ readOk ops bf i = true ∧ kindAt pl i = 0) (hcov : ∀ i, hasB g.L i = true → g.D i = false → unv i → ∃ po, (i, po) ∈ os) :
    SRel P ρ orc nt ops pl bf μ G H nx g (fun _ => False) pend tm tmps rest := by
  refine ⟨S.reg, S.ord, S.cl, S.sub, S.lrng, S.lcl, S.a1, S.a2, S.sz, S.c1, S.c2, ?_, S.pe, S.nk, S.ni⟩
  intro i hi hD
  by_cases hu : unv i
  · obtain ⟨po, hm⟩ := hcov i hi hD hu
    obtain ⟨hpl, hro, hk⟩ := hos i po hm
    obtain ⟨d, hd, hcase⟩ := recheck_mem hr i po hm
    have hilt := S.lrng i hi
    obtain ⟨o, po', ho, hpo, hpl'⟩ := S.reg.at hilt
    rw [hpl] at hpl'; cases hpl'
    obtain ⟨_, _, hdst⟩ := pOper_spec hpo
    have hdd : dstO ops i = some d.toNat := by
      rcases hdst with ⟨_, e2⟩ | ⟨k, e1, e2, _⟩
      · rw [e2] at hd; cases hd
      · rw [e2] at hd; cases hd
        simp [dstO, ho, e1]
    have hval := S.a1 d i hi hdd
    have htm : tmOk ops bf g i tm := by
      intro o' ho' k a hks hg
      rw [ho] at ho'; cases ho'
      by_cases hex : ∃ j, dstO ops j = some k.toNat
      · obtain ⟨j, hj⟩ := hex
        have hb := readOk_spec hro ho hj hks
        exact .inl ⟨j, hj, hb, by rw [← S.a1 k j (S.lcl i hi j (dst_lt hj) hb) hj]; exact hg⟩
      · have hno : ∀ j, dstO ops j ≠ some k.toNat := fun j hj => hex ⟨j, hj⟩
        exact .inr ⟨fun j hj => absurd hj (hno j), by rw [← S.a2 k fun j _ => hno j]; exact hg⟩
    have hpend : ∀ x ∈ pend, x.1 ≠ i := by
      cases S.pd i hi hD with
      | skip po tmi h1 h2 h3 h4 h5 => exact h5
      | light po tmi v h1 h2 h3 hkk h4 h5 h6 => exact h6
      | alloc po tmi f B k h1 h2 h3 hkk h4 h5 h6 => rw [hk] at hkk; cases hkk
    rcases hcase with ⟨hw, hg⟩ | ⟨hw, v, hg, hl⟩
    · exact .skip po tm hpl htm hw (by rw [← hval]; exact hg) hpend
    · exact .light po tm v hpl htm hw hk (fun _ => ⟨_, hl, VOk.view hads _ _ _⟩) (by rw [← hval]; exact hg) hpend
  · cases S.pd i hi hD with
    | skip po tmi h1 h2 h3 h4 h5 => exact .skip po tmi h1 h2 h3 h4 h5
    | light po tmi v h1 h2 h3 hkk h4 h5 h6 => exact .light po tmi v h1 h2 h3 hkk (fun _ => h4 hu) h5 h6
    | alloc po tmi f B k h1 h2 h3 hkk h4 h5 h6 => exact .alloc po tmi f B k h1 h2 h3 hkk h4 h5 h6
end
end Go.Sx
