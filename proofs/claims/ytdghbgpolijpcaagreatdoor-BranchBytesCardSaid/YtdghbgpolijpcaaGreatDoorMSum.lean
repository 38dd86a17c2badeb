/-
  SX: closed runs as known calls; the machine's start. No condition.
-/
import Derived.Test.YtdghbgpolijpcaaGreatDoorMLogic
import Derived.Lib.LaidTab
set_option linter.unusedSimpArgs false
set_option linter.unusedVariables false
set_option linter.unusedSectionVars false
namespace Go.Sx
open Go.RowKit

/- values without blocks -/
mutual
def AV.kf : AV → Bool
  | .bool _ | .int _ _ | .str _ _ | .nilp | .nils | .nilm | .nilf | .nili => true
  | .iface _ v => AV.kf v
  | .agg l => AV.kfs l
  | .tuple l => AV.kfs l
  | .sl l _ _ .any => AV.kfs l
  | .cref l => AV.kfs l
  | .fn _ a c => AV.kfs a && AV.kfs c
  | _ => false
def AV.kfs : List AV → Bool
  | [] => true
  | a :: l => AV.kf a && AV.kfs l
end

mutual
theorem VRel.kf {ρ : Nat → Int} {μ μ' : Mu} (hf : ∀ c i v, μ.fz c i = some v → μ'.fz c i = some v) : ∀ {a : AV} {v : Value}, VRel ρ μ a v → a.kf = true → VRel ρ μ' a v
  | _, _, .bool b, _ => .bool b
  | _, _, .int k s n h, _ => .int k s n h
  | _, _, .str n c s h h', _ => .str n c s h h'
  | _, _, .ptr b off l a h ha, hk => by simp [AV.kf] at hk
  | _, _, .nilp, _ => .nilp
  | _, _, .slice b off len sz cap l a h hc hl ha, hk => by simp [AV.kf] at hk
  | _, _, .nils, _ => .nils
  | _, _, .map b l r h hr, hk => by simp [AV.kf] at hk
  | _, _, .nilm, _ => .nilm
  | _, _, .fn f first cap vs ws h h', hk => by
    simp only [AV.kf, Bool.and_eq_true] at hk
    exact .fn f first cap vs ws (VRels.kf hf h hk.1) (VRels.kf hf h' hk.2)
  | _, _, .yld b l r h hr, hk => by simp [AV.kf] at hk
  | _, _, .nilf, _ => .nilf
  | _, _, .iface t a v h, hk => .iface t a v (VRel.kf hf h (by simpa [AV.kf] using hk))
  | _, _, .nili, _ => .nili
  | _, _, .agg l vs h, hk => .agg l vs (VRels.kf hf h (by simpa [AV.kf] using hk))
  | _, _, .tuple l vs h, hk => .tuple l vs (VRels.kf hf h (by simpa [AV.kf] using hk))
  | _, _, .sl l len sz fl cap c o a vs h hn hl ha hff hg, hk => by
    cases fl with
    | any => exact .sl l len sz .any cap c o a vs (VRels.kf hf h (by simpa [AV.kf] using hk)) hn hl ha (fun i v e => hf _ _ _ (hff i v e)) trivial
    | tok b => simp [AV.kf] at hk
  | _, _, .cref l c o a vs h ha hff, hk => .cref l c o a vs (VRels.kf hf h (by simpa [AV.kf] using hk)) ha (fun i v e => hf _ _ _ (hff i v e))
theorem VRels.kf {ρ : Nat → Int} {μ μ' : Mu} (hf : ∀ c i v, μ.fz c i = some v → μ'.fz c i = some v) : ∀ {l : List AV} {vs : List Value}, VRels ρ μ l vs → AV.kfs l = true → VRels ρ μ' l vs
  | _, _, .nil, _ => .nil
  | _, _, .cons a l v vs h h', hk => by
    simp only [AV.kfs, Bool.and_eq_true] at hk
    exact .cons a l v vs (VRel.kf hf h hk.1) (VRels.kf hf h' hk.2)
end

/- the variables that are listed lie as the heap says, and nothing of them is written -/
structure LaidW (P : Program) (heap0 : T Blk) (w0 : W0) : Prop where
  size : P.globals.size ≤ w0.heap.size
  at_ : ∀ b B, T.get b heap0 = some B → b.toNat < P.globals.size ∧ ∃ L arr elem f, B = .cells L .ro ∧ w0.heap[b.toNat]? = some (.cells arr elem f) ∧ (∀ (ρ : Nat → Int) (μ : Mu), VRels ρ μ L arr.toList) ∧ ∀ i v, arr[i]? = some v → w0.z b.toNat i = some v

section
variable {P : Program} {ρ : Nat → Int} {heap0 : T Blk}

noncomputable def gExt (heap0 : T Blk) (b : Key) : Nat := match T.get b heap0 with
  | some (.cells L _) => L.length
  | _ => 0
noncomputable def gMu (P : Program) (heap0 : T Blk) (fz : Nat → Nat → Option Value) : Mu := ⟨fun b => if b.toNat < P.globals.size then some ⟨b.toNat, 0, gExt heap0 b⟩ else none, fz⟩

theorem gMu_loc {fz : Nat → Nat → Option Value} {b : Key} {l : Loc} (h : (gMu P heap0 fz) b = some l) : b.toNat < P.globals.size ∧ l = ⟨b.toNat, 0, gExt heap0 b⟩ := by
  have h : (if b.toNat < P.globals.size then some (⟨b.toNat, 0, gExt heap0 b⟩ : Loc) else none) = some l := h
  split at h
  · rename_i hb; cases h; exact ⟨hb, rfl⟩
  · cases h

/- memory at the start -/
theorem init_MRel {w0 : W0} (hL : LaidW P heap0 w0) (hz : ∀ c i v, w0.z c i = some v → ∃ arr elem f, w0.heap[c]? = some (.cells arr elem f) ∧ arr[i]? = some v) {nx : Nat} (hn : P.globals.size ≤ nx) :
    MRel P ρ w0 (gMu P heap0 w0.z) (fun b => T.get b heap0) nx w0.toWorld := by
  have hloc : ∀ b : Key, b.toNat < P.globals.size → (gMu P heap0 w0.z) b = some ⟨b.toNat, 0, gExt heap0 b⟩ := by
    intro b hb
    show (if b.toNat < P.globals.size then some (⟨b.toNat, 0, gExt heap0 b⟩ : Loc) else none) = _
    rw [if_pos hb]
  refine ⟨?_, ?_, ?_, ?_, ?_, ?_, Below.refl _ _, hz, ?_, fun _ _ _ h => h, fun _ _ _ h => .inr h, ?_, Nat.le_refl _⟩
  · intro b B hb
    obtain ⟨h1, L, arr, elem, f, rfl, h3, h4, h5⟩ := hL.at_ b B hb
    have hlen : L.length = arr.size := by simpa using (h4 ρ (gMu P heap0 w0.z)).length
    refine ⟨_, _, hloc b h1, h3, .cells L .ro _ arr elem f ?_ ?_ ?_ (fun h => absurd rfl h) ?_⟩
    · intro i a ha
      obtain ⟨v, hv, hr⟩ := (h4 ρ (gMu P heap0 w0.z)).get i a ha
      exact ⟨v, by simpa using hv, hr⟩
    · show 0 + gExt heap0 b ≤ arr.size
      simp only [gExt, hb]; omega
    · show L.length ≤ gExt heap0 b
      simp only [gExt, hb]; exact Nat.le_refl _
    · intro _
      show L.length = gExt heap0 b
      simp only [gExt, hb]
  · intro b b' B B' l l' h1 h2 m1 m2 hne
    obtain ⟨_, rfl⟩ := gMu_loc m1
    obtain ⟨_, rfl⟩ := gMu_loc m2
    exact fun e => hne (Key.toNat_inj e)
  · intro b l m
    obtain ⟨h1, rfl⟩ := gMu_loc m
    exact Nat.lt_of_lt_of_le h1 hL.size
  · intro b B l hb m
    obtain ⟨h1, L, arr, elem, f, rfl, _⟩ := hL.at_ b B hb
    exact .inl trivial
  · intro k hk
    exact ⟨_, hloc k hk⟩
  · intro b l m
    obtain ⟨h1, rfl⟩ := gMu_loc m
    omega
  · intro b B l n hb m hlo i hi
    obtain ⟨h1, L, arr, elem, f, rfl, _⟩ := hL.at_ b B hb
    cases hlo
  · intro b L l hb m
    obtain ⟨_, rfl⟩ := gMu_loc m
    obtain ⟨h1, L', arr, elem, f, e, h3, h4, h5⟩ := hL.at_ b _ hb
    refine .inr fun arr' ee ff i v ha hv => ?_
    have ha : w0.heap[b.toNat]? = some (.cells arr' ee ff) := ha
    rw [h3] at ha; cases ha
    exact h5 i v hv

theorem LaidW.later {w0 : W0} {w : World} {fz : Nat → Nat → Option Value} (hL : LaidW P heap0 w0) (hb : Below w0.heap.size w0.toWorld w) (hz : ∀ c i v, w0.z c i = some v → fz c i = some v) : LaidW P heap0 ⟨w, fz⟩ := by
  refine ⟨Nat.le_trans hL.size hb.size, fun b B h => ?_⟩
  obtain ⟨h1, L, arr, elem, f, h2, h3, h4, h5⟩ := hL.at_ b B h
  refine ⟨h1, L, arr, elem, f, h2, ?_, h4, fun i v hv => hz _ _ _ (h5 i v hv)⟩
  show w.heap[b.toNat]? = _
  rw [hb.block _ (Nat.lt_of_lt_of_le h1 hL.size)]
  exact h3

/- a closed run, wherever it is called -/
theorem sum_closed {C : Cfg} (hX : ∀ w0 : W0, LaidW P heap0 w0 → Ctx P ρ w0 C) {f : Nat} {p : PFn} (hp : pFn P f = some p) {l : List AV} (hl : AV.kfs l = true) {v : AV} (hv : v.kf = true) {n : Nat} {nx0 nx' : Key} {H' : T Blk} (hn : P.globals.size ≤ nx0.toNat)
    (hrun : runA C n ⟨enterFr f p l, [], heap0, nx0⟩ = .done f v H' nx') : ∀ w0 : W0, LaidW P heap0 w0 → ∀ H nx, SumOk P ρ w0 f l H nx v H nx := by
  intro w0 hL H nx args w μ G hM hH hargs
  have hL1 : LaidW P heap0 ⟨w, μ.fz⟩ := hL.later hM.below hM.zle
  have hM1 := init_MRel (ρ := ρ) (w0 := ⟨w, μ.fz⟩) hL1 hM.fzw (nx := nx0.toNat) hn
  have ha1 : VRels ρ (gMu P heap0 μ.fz) l args.toList := VRels.kf (μ := μ) (μ' := gMu P heap0 μ.fz) (fun _ _ _ h => h) hargs hl
  refine (sx_calls (hX _ hL1) hp hM1 (fun _ _ h => h) ha1 hrun).mono ?_
  rintro e w' ⟨u, μ1, G1, rfl, hvr, hle, hM2, _⟩
  have hb : Below w.heap.size w w' := hM2.below
  have hfz : ∀ c i x, μ1.fz c i = some x → w.heap.size ≤ c ∨ μ.fz c i = some x := hM2.fzo
  have hmono : μ.le ⟨μ.loc, μ1.fz⟩ := ⟨fun _ _ h => h, fun c i x h => hle.f c i x h⟩
  refine ⟨u, ⟨μ.loc, μ1.fz⟩, G, rfl, VRel.kf (μ := μ1) (μ' := ⟨μ.loc, μ1.fz⟩) (fun _ _ _ h => h) hvr hv, hmono, ?_, hH, ⟨fun _ _ _ => rfl, fun _ _ => rfl, fun _ h _ => h, Nat.le_refl _⟩⟩
  have hsame : ∀ b l, μ b = some l → w'.heap[l.c]? = w.heap[l.c]? := fun b l h => hb.block _ (hM.bnd b l h)
  refine ⟨?_, hM.sep, ?_, hM.own, hM.glob, hM.new, hM.below.trans (hb.mono hM.below.size), hM2.fzw, ?_, ?_, ?_, ?_, Nat.le_trans hM.dr hM2.dr⟩
  · intro b B hg
    obtain ⟨l, o, h1, h2, h3⟩ := hM.blk b B hg
    exact ⟨l, o, h1, by rw [hsame b l h1]; exact h2, h3.mono hmono⟩
  · intro b l h
    exact Nat.lt_of_lt_of_le (hM.bnd b l h) hb.size
  · intro b B l n hg hm hlo i hi
    show μ1.fz l.c i = none
    cases h : μ1.fz l.c i with
    | none => rfl
    | some x =>
      rcases hfz _ _ _ h with h' | h'
      · exact absurd (hM.bnd b l hm) (Nat.not_lt.2 h')
      · rw [hM.fzf b B l n hg hm hlo i hi] at h'; cases h'
  · intro c i x h; exact hle.f c i x (hM.zle c i x h)
  · intro c i x h
    rcases hfz c i x h with h' | h'
    · exact .inl (Nat.le_trans hM.below.size h')
    · exact hM.fzo c i x h'
  · intro b L l hg hm
    rcases hM.rof b L l hg hm with h | h
    · exact .inl h
    · refine .inr fun arr e f i x ha hx => hle.f _ _ _ (h arr e f i x ?_ hx)
      rw [← hsame b l hm]; exact ha

/- a table of known calls -/
def sumT (tab : List (Nat × List AV × AV)) (f : Nat) (l : List AV) (h : T Blk) (nx : Key) : Option (AV × T Blk × Key) := match tab with
  | [] => none
  | (g, m, v) :: r => bif Nat.beq f g && AV.beqs l m then some (v, h, nx) else sumT r f l h nx
theorem sumT_spec : ∀ {tab : List (Nat × List AV × AV)} {f : Nat} {l : List AV} {h : T Blk} {nx : Key} {r : AV × T Blk × Key}, sumT tab f l h nx = some r → ∃ v, (f, l, v) ∈ tab ∧ r = (v, h, nx)
  | [], _, _, _, _, _, e => by cases e
  | (g, m, v) :: tab, f, l, h, nx, r, e => by
    unfold sumT at e
    cases hb : (Nat.beq f g && AV.beqs l m) with
    | false =>
      rw [hb] at e
      obtain ⟨v', h1, h2⟩ := sumT_spec (tab := tab) e
      exact ⟨v', List.mem_cons_of_mem _ h1, h2⟩
    | true =>
      rw [hb] at e
      simp only [cond_true, Option.some.injEq] at e
      simp only [Bool.and_eq_true] at hb
      have h1 := Nat.eq_of_beq_eq_true hb.1
      have h2 := AV.eqs_of_beqs _ _ hb.2
      subst h1 h2
      exact ⟨v, by simp, e.symm⟩

/- the logic's word on a call, as a fact on the model -/
theorem calls_of_CallA {C : Cfg} {w0 : W0} {w : World} {μ0 : Mu} {G0 : Key → Option Blk} {H : T Blk} {nx : Key} (X : Ctx P ρ w0 C) {f : Nat} {l : List AV} {args : Array Value} (hM : MRel P ρ w0 μ0 G0 nx.toNat w) (hH : HSub H G0) (hl : VRels ρ μ0 l args.toList)
    {R : Out → T Blk → Key → Prop} (hR : ∀ o h nx, R o h nx → ∃ v, o = .ret v) (hc : CallA C f l H nx R) :
    Calls P f args w fun e w' => ∃ v h' nx' u μ G, R (.ret v) h' nx' ∧ e = .returned u ∧ VRel ρ μ v u ∧ μ0.le μ ∧ MRel P ρ w0 μ G nx'.toNat w' ∧ HSub h' G := by
  rcases hc with ⟨v, h', nx', hs, hr⟩ | ⟨hs, p, hp, hrun⟩
  · refine (X.sum f l H nx v h' nx' hs args w μ0 G0 hM hH hl).mono ?_
    rintro e w' ⟨u, μ', G', rfl, h1, h2, h3, h4, _⟩
    exact ⟨v, h', nx', u, μ', G', hr, rfl, h1, h2, h3, h4⟩
  · have hpf : pFn P f = some p := X.fns f p hp
    intro cs
    have hm : Mach P ρ C.orc w0 μ0 ⟨enterFr f p l, [], H, nx⟩ (Frame.enter P f args .normal) [] w :=
      ⟨μ0, G0, μ0.le_refl, hM, hH, cur_enter hpf hl false, trivial, by simp [pkAll, pk, enterFr]⟩
    obtain ⟨am', fr', cs', w', ⟨o, h', nx', fr, h1, hr, hfn, hdf, ⟨hd, hL⟩, rfl⟩, s1, s2⟩ := Ev.sound (rest := cs) X (hrun []) hm
    obtain ⟨v, rfl⟩ := hR o h' nx' hr
    obtain ⟨hm2, l1, hl1, rfl, rfl⟩ := hL
    have hstep : stepA C ⟨fr, [], h1, nx'⟩ = .done f (tupled (frzIfA (C.rawR f) l1 h1).1) (frzIfA (C.rawR f) l1 h1).2 nx' := by
      unfold stepA
      simp only [hm2]
      unfold unwindA
      simp only [hd, hm2, hl1, hfn, frzIf_eq]
      unfold returnA
      simp only [hdf, cond_false, hfn]
    have hg := stepA_sound (rest := cs) X s2
    rw [hstep] at hg
    obtain ⟨fr2, w2, μ, G, u, t1, t2, t3, t4, t5, t6, t7⟩ := hg
    exact ⟨.returned u, w2, fr2, ⟨_, _, _, u, μ, G, hr, rfl, t4, t5, t6, t7⟩, s1.trans t1, t2, t3⟩

/- prepared functions by list -/
noncomputable def buildT : List (Nat × PFn) → T PFn
  | [] => .nil
  | (i, p) :: l => T.set (Key.ofNatF 12 i) (some p) (buildT l)
theorem buildT_get : ∀ {l : List (Nat × PFn)} {k : Key} {p : PFn}, T.get k (buildT l) = some p → ∃ i, (i, p) ∈ l ∧ k = Key.ofNatF 12 i
  | [], k, p, h => by simp [buildT] at h
  | (i, q) :: l, k, p, h => by
    simp only [buildT] at h
    by_cases e : k = Key.ofNatF 12 i
    · subst e; rw [T.get_set_same] at h; cases h; exact ⟨i, by simp, rfl⟩
    · rw [T.get_set_ne _ _ _ _ e] at h
      obtain ⟨j, h1, h2⟩ := buildT_get h
      exact ⟨j, List.mem_cons_of_mem _ h1, h2⟩
def AllOk (P : Program) : List (Nat × PFn) → Prop
  | [] => True
  | (i, p) :: l => (Nat.blt i 8000 = true ∧ pFn P i = some p) ∧ AllOk P l
theorem AllOk.mem : ∀ {l : List (Nat × PFn)}, AllOk P l → ∀ {i : Nat} {p : PFn}, (i, p) ∈ l → i < 8000 ∧ pFn P i = some p
  | [], _, _, _, h => by cases h
  | (j, q) :: l, ha, i, p, h => by
    rcases List.mem_cons.1 h with e | e
    · cases e
      have := ha.1.1
      rw [bltN_eq, decide_eq_true_eq] at this
      exact ⟨this, ha.1.2⟩
    · exact AllOk.mem ha.2 e

noncomputable def mkCfg (fns : T PFn) (tab : List (Nat × List AV × AV)) : Cfg := ⟨[], fns, sumT tab, fun _ => false, fun _ => false⟩

theorem getFn_ok {fns : T PFn} {fnsL : List (Nat × PFn)} (hb : fns = buildT fnsL) (ha : AllOk P fnsL) {tab : List (Nat × List AV × AV)} {f : Nat} {p : PFn} (h : getFn (mkCfg fns tab) f = some p) : pFn P f = some p := by
  unfold getFn at h
  cases hk : Nat.beq (Key.ofNatF 12 f).toNat f with
  | false => rw [hk] at h; cases h
  | true =>
    rw [hk] at h
    have hk := Nat.eq_of_beq_eq_true hk
    have h : T.get (Key.ofNatF 12 f) fns = some p := h
    rw [hb] at h
    obtain ⟨i, h1, h2⟩ := buildT_get h
    obtain ⟨h3, h4⟩ := ha.mem h1
    have : i = f := by
      have e := congrArg Key.toNat h2
      rw [hk, ofNatF_toNat 12 i (by omega)] at e
      exact e.symm
    subst this
    exact h4

def TabOk (P : Program) (ρ : Nat → Int) (heap0 : T Blk) : List (Nat × List AV × AV) → Prop
  | [] => True
  | (f, l, v) :: r => ((∃ p, pFn P f = some p) ∧ ∀ w0 : W0, LaidW P heap0 w0 → ∀ H nx, SumOk P ρ w0 f l H nx v H nx) ∧ TabOk P ρ heap0 r
theorem TabOk.mem : ∀ {tab : List (Nat × List AV × AV)}, TabOk P ρ heap0 tab → ∀ {f : Nat} {l : List AV} {v : AV}, (f, l, v) ∈ tab → (∃ p, pFn P f = some p) ∧ ∀ w0 : W0, LaidW P heap0 w0 → ∀ H nx, SumOk P ρ w0 f l H nx v H nx
  | [], _, _, _, _, h => by cases h
  | (g, m, u) :: r, ht, f, l, v, h => by
    rcases List.mem_cons.1 h with e | e
    · cases e; exact ht.1
    · exact TabOk.mem ht.2 e

theorem ctx_of {fns : T PFn} {fnsL : List (Nat × PFn)} (hb : fns = buildT fnsL) (ha : AllOk P fnsL) (hmix : P.follows .mixedOrders = true) {tab : List (Nat × List AV × AV)} (ht : TabOk P ρ heap0 tab) (w0 : W0) (hL : LaidW P heap0 w0) : Ctx P ρ w0 (mkCfg fns tab) := by
  refine ⟨?_, ?_, OrcOk.nil ρ, fun f p h => getFn_ok hb ha h, hmix⟩
  · intro f l H nx a H' nx' hs
    obtain ⟨v, h1, h2⟩ := sumT_spec hs
    cases h2
    exact (ht.mem h1).2 w0 hL H nx
  · intro f l H nx r hs
    obtain ⟨v, h1, h2⟩ := sumT_spec hs
    obtain ⟨⟨p, hp⟩, _⟩ := ht.mem h1
    obtain ⟨fn, c, f1, f2, f3, _⟩ := pFn_spec hp
    exact ⟨fn, f1, by rw [f2]; rfl, f3⟩

/- what a run hands back -/
def outV : SR → Option (Nat × AV)
  | .done f v _ _ => some (f, v)
  | _ => none
theorem outV_spec {r : SR} {f : Nat} {v : AV} (h : outV r = some (f, v)) : ∃ H nx, r = .done f v H nx := by
  cases r with
  | done g u H nx => simp only [outV, Option.some.injEq, Prod.mk.injEq] at h; obtain ⟨rfl, rfl⟩ := h; exact ⟨H, nx, rfl⟩
  | next m => cases h
  | alt l => cases h
  | pan v h' nx => cases h
  | bad n m => cases h

/- one more known call -/
theorem tab_cons {fns : T PFn} {fnsL : List (Nat × PFn)} (hb : fns = buildT fnsL) (ha : AllOk P fnsL) (hmix : P.follows .mixedOrders = true) {tab tab2 : List (Nat × List AV × AV)} (ht : TabOk P ρ heap0 tab) (ht2 : TabOk P ρ heap0 tab2) {f : Nat} {p : PFn} (hp : pFn P f = some p) {l : List AV} {v : AV} {n : Nat} {nx0 : Key}
    (hl : AV.kfs l = true) (hv : v.kf = true) (hn : P.globals.size ≤ nx0.toNat) (hrun : outV (runA (mkCfg fns tab) n ⟨enterFr f p l, [], heap0, nx0⟩) = some (f, v)) : TabOk P ρ heap0 ((f, l, v) :: tab2) := by
  obtain ⟨H', nx', hr⟩ := outV_spec hrun
  exact ⟨⟨⟨p, hp⟩, sum_closed (fun w0 hL => ctx_of hb ha hmix ht w0 hL) hp hl hv hn hr⟩, ht2⟩
end
end Go.Sx
/-
  SX: package-level arrays of strings that a row lists, as the machine's blocks. No condition.
-/
namespace Go.Sx

/- all cells of the world at the start -/
def zW (W : World) (c i : Nat) : Option Value := match W.heap[c]? with
  | some (.cells arr _ _) => arr[i]?
  | _ => none
theorem zW_spec {W : World} : ∀ c i v, zW W c i = some v → ∃ arr elem f, W.heap[c]? = some (.cells arr elem f) ∧ arr[i]? = some v := by
  intro c i v h
  unfold zW at h
  split at h
  · rename_i arr e f he; exact ⟨arr, e, f, he, h⟩
  · cases h

/- the variable holds these texts -/
def TxtAt (W : World) (g : Nat) (zs : List (List UInt8)) : Prop :=
  ∃ arr elem f, W.heap[g]? = some (.cells arr elem f) ∧ ∃ ss : List ByteArray, arr.toList = ss.map Value.string ∧ ss.map (·.data.toList) = zs

def txtData {H : Type} (zs : List (List UInt8)) : DataW H := .agg (zs.map fun z => .lit (.string z))
def textsOf : DataW Unit → List (List UInt8)
  | .agg l => l.filterMap fun
    | .lit (.string z) => some z
    | _ => none
  | _ => []

theorem trod_string {H : Type} {enc : TypeId × Value → H} {P : Program} {w : World} {base : Nat} {sp : Nat → Bool} {held : Bool} {fuel : Nat} {t : TypeId} {cs : List Value} {x : DataW H × List MemPlace}
    (ht : P.underlying t = some .string) (h : DataW.trod enc P w base sp held fuel t cs = some x) : ∃ s, cs = [.string s] ∧ x = (.lit (.string s.data.toList), []) := by
  cases fuel with
  | zero => simp [DataW.trod] at h
  | succ fuel =>
    match cs with
    | [] => simp [DataW.trod, ht] at h
    | _ :: _ :: _ => simp [DataW.trod, ht] at h
    | [c] =>
      cases c <;> simp [DataW.trod, ht] at h
      exact ⟨_, rfl, h.2.symm⟩

theorem texts_of : ∀ {n : Nat} {cs : List Value} {zs : List (List UInt8)}, cs.length = n → zs.length = n → (∀ i, i < n → ∃ s : ByteArray, cs[i]? = some (.string s) ∧ zs[i]? = some s.data.toList) →
    ∃ ss : List ByteArray, cs = ss.map Value.string ∧ ss.map (·.data.toList) = zs
  | 0, cs, zs, h1, h2, _ => ⟨[], by simp [List.length_eq_zero_iff.1 h1], by simp [List.length_eq_zero_iff.1 h2]⟩
  | n + 1, c :: cs, z :: zs, h1, h2, hat => by
    obtain ⟨s, e1, e2⟩ := hat 0 (by omega)
    simp only [List.getElem?_cons_zero, Option.some.injEq] at e1 e2
    subst e1 e2
    obtain ⟨ss, i1, i2⟩ := texts_of (n := n) (cs := cs) (zs := zs) (by simpa using h1) (by simpa using h2) (fun i hi => by have := hat (i + 1) (by omega); simpa using this)
    exact ⟨s :: ss, by simp [i1], by simp [i2]⟩

theorem cells_of_texts {H : Type} {enc : TypeId × Value → H} {P : Program} {w : World} {base : Nat} {sp : Nat → Bool} {held : Bool} {fuel : Nat} {t e : TypeId} {n : Nat} {cs : List Value} {zs : List (List UInt8)} {p : List MemPlace}
    (ht : P.underlying t = some (.array n e)) (he : P.underlying e = some .string) (hce : P.cellsOf e = 1) (hct : P.cellsOf t = n)
    (h : DataW.trod enc P w base sp held fuel t cs = some (txtData zs, p)) : ∃ ss : List ByteArray, cs = ss.map Value.string ∧ ss.map (·.data.toList) = zs := by
  cases fuel with
  | zero => simp [DataW.trod] at h
  | succ fuel =>
    simp only [DataW.trod, ht, hce, hct, Nat.mul_one] at h
    split at h
    · rename_i hl
      obtain ⟨xs, hm, hx⟩ := Option.map_eq_some_iff.1 h
      have hxs : xs.map (·.1) = zs.map fun z => (DataW.lit (.string z) : DataW H) := by
        have := congrArg Prod.fst hx
        simpa [txtData] using this
      have hxl : xs.length = n := by simpa using Lib.mapM_length hm
      have hzl : zs.length = n := by
        have := congrArg List.length hxs
        simp at this
        omega
      have hat : ∀ i, i < n → ∃ s : ByteArray, cs[i]? = some (.string s) ∧ zs[i]? = some s.data.toList := by
        intro i hi
        obtain ⟨b, hb, hf⟩ := Lib.mapM_at hm i i (by simp [hi])
        obtain ⟨s, hc, rfl⟩ := trod_string he hf
        have h1 : cs[i]? = some (.string s) := by
          have := congrArg (·[0]?) hc
          simpa [List.getElem?_take, List.getElem?_drop] using this
        have h2 : (xs.map (·.1))[i]? = some (DataW.lit (.string s.data.toList) : DataW H) := by simp [hb]
        rw [hxs] at h2
        simp only [List.getElem?_map, Option.map_eq_some_iff, DataW.lit.injEq, Lit.string.injEq] at h2
        obtain ⟨z', hz', rfl⟩ := h2
        exact ⟨s, h1, hz'⟩
      exact texts_of hl hzl hat
    · cases h

theorem txt_of_head {P : Program} {W : World} {name : String} {d : DataW Unit} {zs : List (List UInt8)} {rest : List (String × DataW Unit)} {g : Nat} {t e : TypeId} {n : Nat}
    (hg : P.globalNamed name = some g) (hty : (P.globals[g]?).map (·.type) = some t) (ht : P.underlying t = some (.array n e)) (he : P.underlying e = some .string) (hce : P.cellsOf e = 1) (hct : P.cellsOf t = n) (hd : d = txtData zs)
    (h : laidMet P ((name, d) :: rest) W) : TxtAt W g zs := by
  subst hd
  obtain ⟨ps, ⟨g', t', cs, fuel, p, q, hg', ht', hvar, hd, _, _⟩, _⟩ := h
  obtain rfl := Option.some.inj (hg.symm.trans hg')
  obtain rfl := Option.some.inj (hty.symm.trans ht')
  obtain ⟨ss, h1, h2⟩ := cells_of_texts ht he hce hct hd
  unfold World.var? at hvar
  rw [hg] at hvar
  simp only [Option.bind_some] at hvar
  split at hvar
  · rename_i arr elem f hh
    cases hvar
    exact ⟨_, elem, f, hh, ss, h1, h2⟩
  · cases hvar

theorem laidMet_rest {P : Program} {W : World} {x : String × DataW Unit} {rest : List (String × DataW Unit)} (h : laidMet P (x :: rest) W) : laidMet P rest W := by
  obtain ⟨ps, ⟨g', t', cs, fuel, p, q, hg', ht', hvar, hd, hr, rfl⟩, hn, ha⟩ := h
  exact ⟨q, hr, (List.nodup_append.1 hn).2.1, fun b off hb => ha b off (List.mem_append_right _ hb)⟩

def strAV (z : List UInt8) : AV := .str z.length (enc z)
theorem texts_rel (ρ : Nat → Int) (μ : Mu) : ∀ (ss : List ByteArray), VRels ρ μ ((ss.map (·.data.toList)).map strAV) (ss.map Value.string)
  | [] => .nil
  | s :: ss => .cons _ _ _ _ (.str _ _ s rfl rfl) (texts_rel ρ μ ss)

/- one block of the heap at the start -/
theorem laid_at {P : Program} {W : World} {b : Key} {zs : List (List UInt8)} {B : Blk} (h : TxtAt W b.toNat zs) (hb : b.toNat < P.globals.size) (hB : B = .cells (zs.map strAV) .ro) :
    b.toNat < P.globals.size ∧ ∃ L arr elem f, B = .cells L .ro ∧ W.heap[b.toNat]? = some (.cells arr elem f) ∧ (∀ (ρ : Nat → Int) (μ : Mu), VRels ρ μ L arr.toList) ∧ ∀ i v, arr[i]? = some v → zW W b.toNat i = some v := by
  obtain ⟨arr, elem, f, h1, ss, h2, rfl⟩ := h
  refine ⟨hb, _, arr, elem, f, hB, h1, fun ρ μ => ?_, fun i v hv => ?_⟩
  · rw [h2]; exact texts_rel ρ μ ss
  · unfold zW; rw [h1]; exact hv
end Go.Sx
