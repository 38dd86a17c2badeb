/-
  SG: slices.SortFunc on rows of flat parts, as a known call. No condition.
-/
import Derived.Test.YtdghbgpolijpcaaGreatDoorGBase
import Derived.Test.YtdghbgpolijpcaaGreatDoorMSum
import Derived.Shelf.SlSortCmp.NoneTotal
set_option linter.unusedSimpArgs false
set_option linter.unusedVariables false
set_option linter.unusedSectionVars false
namespace Go.Sx
open Go Go.RowKit Go.Sort

section
variable {α : Type} [Inhabited α] {k : Nat} {eA : α → List AV} {eV : α → List Value}

/- a flat part, on both sides -/
structure Two (k : Nat) (eA : α → List AV) (eV : α → List Value) : Prop where
  flat : Flat k eA
  len : ∀ x, (eV x).length = k
  one : ∀ x, ∀ v ∈ eV x, v.oneCell' = true
  rel : ∀ (ρ : Nat → Int) (μ : Mu) x, VRels ρ μ (eA x) (eV x)
  det : ∀ (ρ : Nat → Int) (μ : Mu) x (i : Nat) a v, (eA x)[i]? = some a → VRel ρ μ a v → (eV x)[i]? = some v

theorem rowsA_get (F : Flat k eA) {l : List α} {i r : Nat} (hi : i < l.length) (hr : r < k) : (rowsA eA l)[i * k + r]? = (eA l[i])[r]? := by
  rw [← F.at hi, List.getElem?_take_of_lt hr, List.getElem?_drop]

theorem sw_obj {w : World} {c off m : Nat} {d : Array α} {os : Array Obj} {arr : Array Value} {elem : TypeId} {fz : Nat × Nat} (h : w.heap[c]? = some (.cells arr elem fz)) :
    (Go.Proofs.sortWorldK eV k w c off m d os).heap[c]? = some (.cells (putCells id off (flatK eV k d) arr) elem fz) := by
  have hc : c < w.heap.size := (Array.getElem?_eq_some_iff.1 h).1
  simp only [Go.Proofs.sortWorldK, grow, putRowK, putRow, mapBlock, Go.Sort.ahead, Array.getElem?_append, Array.size_modify, hc, if_true, Array.getElem?_modify, h, Option.map_some, onCells]
theorem sw_other {w : World} {c off m : Nat} {d : Array α} {os : Array Obj} {c' : Nat} (hne : c' ≠ c) (h : c' < w.heap.size) :
    (Go.Proofs.sortWorldK eV k w c off m d os).heap[c']? = w.heap[c']? := by
  simp only [Go.Proofs.sortWorldK, grow, putRowK, putRow, mapBlock, Go.Sort.ahead, Array.getElem?_append, Array.size_modify, h, if_true, Array.getElem?_modify, Ne.symm hne, if_false]
theorem sw_size {w : World} {c off m : Nat} {d : Array α} {os : Array Obj} : w.heap.size ≤ (Go.Proofs.sortWorldK eV k w c off m d os).heap.size := by
  simp [Go.Proofs.sortWorldK, grow, putRowK, putRow, mapBlock, Go.Sort.ahead]
theorem sw_below {w : World} {B c off m : Nat} {d : Array α} {os : Array Obj} (hB : B ≤ c) (hw : B ≤ w.heap.size) : Below B w (Go.Proofs.sortWorldK eV k w c off m d os) :=
  ⟨rfl, rfl, rfl, sw_size, fun i hi => sw_other (by omega) (by omega)⟩
theorem grown_of_below {W w' : World} (hb : Below W.heap.size W w') (hd : W.drawn ≤ w'.drawn) : ∃ q os', w' = grow (W.drewN q) os' := by
  refine ⟨w'.drawn - W.drawn, w'.heap.extract W.heap.size w'.heap.size, ?_⟩
  obtain ⟨h1, h2, h3, h4, h5⟩ := hb
  have he : w'.heap = W.heap ++ w'.heap.extract W.heap.size w'.heap.size := by
    apply Array.ext_getElem?
    intro i
    rw [Array.getElem?_append]
    split
    · rename_i hi; exact h5 i hi
    · rename_i hi
      rw [Array.getElem?_extract]
      by_cases hi2 : i < w'.heap.size
      · rw [if_pos (by omega)]; congr 1; omega
      · rw [if_neg (by omega), Array.getElem?_eq_none (by omega)]
  cases w' with
  | mk heap tape drawn os output =>
    simp only [grow, World.drewN] at *
    subst h1 h2 h3
    congr 1
    omega
end

section
variable {P : Program} {ρ : Nat → Int} {heap0 : T Blk} {C : Cfg} {α : Type} [Inhabited α] {k : Nat} {eA : α → List AV} {eV : α → List Value}

/- the comparison, as the kit's contract asks for it -/
theorem cmpLays {R : Go.Shelf.Ren} (hX : ∀ w0 : W0, LaidW P heap0 w0 → Ctx P ρ w0 C) (T2 : Two k eA eV) {cf : α → α → Int} {g : Nat} {nx0 : Key} (hn : P.globals.size ≤ nx0.toNat)
    (hc : ∀ x y, CallA C g [.agg (eA x), .agg (eA y)] heap0 nx0 fun o _ _ => o = .ret (.int .i64 (.lit (cf x y))))
    {w0 : W0} (hL : LaidW P heap0 w0) {w : World} {μ : Mu} {G : Key → Option Blk} {nx : Nat} (hM : MRel P ρ w0 μ G nx w) {c off n : Nat} (hown : w0.heap.size ≤ c) (hfz : ∀ i, μ.fz c i = none) (hcs : c < w.heap.size) :
    Go.Proofs.CmpLays P g #[] eV k cf c off n w := by
  intro m os dk _ x y
  have hb : Below w0.heap.size w0.toWorld (Go.Proofs.sortWorldK eV k w c off m dk os) := hM.below.trans (sw_below hown hM.below.size)
  have hL1 : LaidW P heap0 ⟨Go.Proofs.sortWorldK eV k w c off m dk os, w0.z⟩ := hL.later hb fun _ _ _ h => h
  have hz : ∀ c' i v, w0.z c' i = some v → ∃ arr elem f, (Go.Proofs.sortWorldK eV k w c off m dk os).heap[c']? = some (.cells arr elem f) ∧ arr[i]? = some v := by
    intro c' i v hv
    have h1 := hM.zle _ _ _ hv
    obtain ⟨arr, elem, f, h2, h3⟩ := hM.fzw _ _ _ h1
    refine ⟨arr, elem, f, ?_, h3⟩
    have hne : c' ≠ c := by rintro rfl; rw [hfz] at h1; cases h1
    rw [sw_other hne (Array.getElem?_eq_some_iff.1 h2).1]
    exact h2
  have hM1 := init_MRel (ρ := ρ) (w0 := ⟨Go.Proofs.sortWorldK eV k w c off m dk os, w0.z⟩) hL1 hz (nx := nx0.toNat) hn
  have ha : VRels ρ (gMu P heap0 w0.z) [.agg (eA x), .agg (eA y)] (#[Value.agg (eV x).toArray, .agg (eV y).toArray] ++ #[]).toList :=
    .cons _ _ _ _ (.agg _ _ (by simpa using T2.rel ρ _ x)) (.cons _ _ _ _ (.agg _ _ (by simpa using T2.rel ρ _ y)) .nil)
  refine (calls_of_CallA (hX _ hL1) hM1 (fun _ _ h => h) ha (fun o _ _ h => ⟨_, h⟩) (hc x y)).mono ?_
  rintro e w' ⟨v, h', nx', u, μ2, G2, hr, rfl, hv, _, hM2, _⟩
  cases hr
  refine ⟨?_, grown_of_below hM2.below hM2.dr⟩
  cases hv with
  | int _ _ n h => rw [← h]; rfl

theorem holds_of {w : World} {c off : Nat} {us : List α} {arr : Array Value} {elem : TypeId} {μ : Mu} (T2 : Two k eA eV) (ho : w.heap[c]? = some (.cells arr elem (0, 0)))
    (hcell : ∀ (i : Nat) a, (rowsA eA us)[i]? = some a → ∃ v, arr[off + i]? = some v ∧ VRel ρ μ a v) : HoldsK eV k w c off us.toArray := by
  intro j hj
  rw [size_flatK] at hj
  have hk : 0 < k := by rcases Nat.eq_zero_or_pos k with e | e
                        · subst e; simp at hj
                        · exact e
  have hlen : j < us.length * k := by simpa using hj
  have hq : j / k < us.length := Nat.div_lt_of_lt_mul (by rw [Nat.mul_comm]; exact hlen)
  have hr : j % k < k := Nat.mod_lt _ hk
  have hget : (rowsA eA us)[j]? = (eA us[j / k])[j % k]? := by
    have := rowsA_get T2.flat hq hr
    rwa [Nat.div_add_mod' j k] at this
  have hex : (eA us[j / k])[j % k]? = some ((eA us[j / k])[j % k]'(by rw [T2.flat.len]; exact hr)) := List.getElem?_eq_getElem _
  obtain ⟨v, hv, hrel⟩ := hcell j _ (by rw [hget, hex])
  have hd := T2.det ρ μ _ _ _ _ hex hrel
  refine ⟨?_, ?_⟩
  · simp only [World.cell?, ho, hv, Option.isSome_none, Bool.false_eq_true, if_false, id]
    rw [get_flatK _ _ _ _ hj]
    have e1 : us.toArray[j / k]! = us[j / k] := by simp [hq]
    rw [e1, List.getElem!_eq_getElem?_getD, hd]; rfl
  · simp [World.frozen?, ho]

theorem sort_sum (hX : ∀ w0 : W0, LaidW P heap0 w0 → Ctx P ρ w0 C) {R : Go.Shelf.Ren} (L : Go.Proofs.SlLaysF0.n6 P R) (aE : ∀ w, (isAgg (R.t 24)).run P w = .ok true w) (zE : ∀ w, (Go.sizeOf (R.t 24)).run P w = .ok k w) (T2 : Two k eA eV) {cf : α → α → Int} (hO : SWO (Go.Proofs.ltOf cf))
    (hT : ∀ x y, Go.Proofs.ltOf cf x y = false → Go.Proofs.ltOf cf y x = false → x = y) {g : Nat} (eg : ∀ args w, (callFunc g args).run P w = .ok (.enter g args) w) {nx0 : Key} (hn : P.globals.size ≤ nx0.toNat)
    (hc : ∀ x y, CallA C g [.agg (eA x), .agg (eA y)] heap0 nx0 fun o _ _ => o = .ret (.int .i64 (.lit (cf x y)))) {us : List α} (hz : us.length < 4611686018427387904)
    {w0 : W0} (hL : LaidW P heap0 w0) {H : T Blk} {nx b : Key} (hb : T.get b H = some (.cells (rowsA eA us) .fix)) :
    SumOk P ρ w0 (R.f 6) [.slice b 0 us.length k, .fn g [] []] H nx (.tuple []) (T.set b (some (.cells (rowsA eA (us.mergeSort fun x y => !(Go.Proofs.ltOf cf) y x)) .fix)) H) nx := by
  intro args w μ G hM hH ha
  obtain ⟨args⟩ := args
  have ha : VRels ρ μ [.slice b 0 us.length k, .fn g [] []] args := ha
  cases ha with
  | cons _ _ v1 r1 h1 hr1 =>
  cases hr1 with
  | cons _ _ v2 r2 h2 hr2 =>
  cases hr2
  cases h2 with
  | fn _ _ _ vs ws hvs hws =>
  obtain ⟨vs⟩ := vs
  obtain ⟨ws⟩ := ws
  have hvs : VRels ρ μ [] vs := hvs
  have hws : VRels ρ μ [] ws := hws
  cases hvs
  cases hws
  cases h1 with
  | slice _ _ _ _ cap l a hl hcap hle haddr =>
  have hG := hH _ _ hb
  obtain ⟨l', o, hl', ho, hB⟩ := hM.blk _ _ hG
  rw [hl] at hl'; cases hl'
  cases hB with
  | cells _ _ _ arr elem fz hcell hsz hext hfzz hfull =>
  have hfz0 := hfzz (by simp); subst hfz0
  have hfull := hfull (by simp)
  have hown : w0.heap.size ≤ l.c := by
    rcases hM.own _ _ _ hG hl with h | h
    · exact h.elim
    · exact h
  have hfr : ∀ i, μ.fz l.c i = none := fun i => hM.fzf b _ l 0 hG hl rfl i (Nat.zero_le _)
  have hbnd := hM.bnd _ _ hl
  have hrows := T2.flat.rows us
  by_cases h0 : us = []
  · subst h0
    refine (Go.Proofs.AnyF.slices_SortFunc_none L (some a) cap (.func (.func g) #[] #[]) w).mono ?_
    rintro e w' ⟨rfl, rfl⟩
    refine ⟨_, μ, G, rfl, .tuple _ _ .nil, μ.le_refl, hM, ?_, ⟨fun _ _ _ => rfl, fun _ _ => rfl, fun b' h' _ => ?_, Nat.le_refl _⟩⟩
    · intro b' B' h'
      by_cases e : b' = b
      · subst e; rw [T.get_set_same] at h'; cases h'; simpa using hG
      · rw [T.get_set_ne _ _ _ _ e] at h'; exact hH _ _ h'
    · have e : b' ≠ b := by rintro rfl; rw [hb] at h'; cases h'
      rw [T.get_set_ne _ _ _ _ e]; exact h'
  · have hpos : 0 < us.length := List.length_pos_iff.2 h0
    have haddr : a = ⟨l.c, l.base, none⟩ := by
      rcases haddr with h | h
      · omega
      · exact h
    subst haddr
    have hH1 : HoldsK eV k w l.c l.base us.toArray := holds_of (μ := μ) T2 ho hcell
    have key := Go.Proofs.AnyQ.slices_SortFunc_total L k aE zE eV T2.len T2.one cf hO g #[] l.c l.base cap us.toArray w eg
      (cmpLays (R := R) hX T2 hn hc hL hM hown hfr hbnd) hH1 hbnd (by simpa using hz) hT
    refine (show Calls P (R.f 6) #[.slice (some ⟨l.c, l.base, none⟩) us.length cap, .func (.func g) #[] #[]] w _ from by simpa using key).mono ?_
    rintro e w' ⟨rfl, n, os, rfl⟩
    have hlen : (us.mergeSort fun x y => !(Go.Proofs.ltOf cf) y x).length = us.length := List.length_mergeSort _
    generalize hsd : (us.mergeSort fun x y => !(Go.Proofs.ltOf cf) y x) = sd at hlen ⊢
    have hH2 : HoldsK eV k (Go.Proofs.sortWorldK eV k w l.c l.base n sd.toArray os) l.c l.base sd.toArray := Go.Proofs.holdsK_sortWorldK_c eV k w l.c l.base us.toArray sd.toArray n os hH1 hbnd (by simpa using hlen)
    have hobj := sw_obj (eV := eV) (k := k) (off := l.base) (m := n) (d := sd.toArray) (os := os) ho
    have hoth : ∀ b' B' l', b' ≠ b → G b' = some B' → μ b' = some l' → (Go.Proofs.sortWorldK eV k w l.c l.base n sd.toArray os).heap[l'.c]? = w.heap[l'.c]? := fun b' B' l' hne hg hm => sw_other (hM.sep _ _ _ _ _ _ hg hG hm hl hne) (hM.bnd _ _ hm)
    have hsrows := T2.flat.rows sd
    have hsr : (rowsA eA sd).length = (rowsA eA us).length := by rw [hsrows, hrows, hlen]
    refine ⟨_, μ, upd G b (some (.cells (rowsA eA sd) .fix)), rfl, .tuple _ _ .nil, μ.le_refl, ?_, ?_, ⟨fun b' h' _ => ?_, fun _ _ => rfl, fun b' h' _ => ?_, Nat.le_refl _⟩⟩
    · refine ⟨?_, ?_, ?_, ?_, hM.glob, hM.new, hM.below.trans (sw_below hown hM.below.size), ?_, ?_, hM.zle, hM.fzo, ?_, ?_⟩
      · intro b' B' hg
        by_cases e : b' = b
        · subst e
          rw [upd_same] at hg; cases hg
          refine ⟨l, _, hl, hobj, .cells _ _ _ _ _ _ ?_ ?_ ?_ (fun _ => rfl) ?_⟩
          · intro i x hx
            have hi : i < sd.length * k := by rw [← hsrows]; exact (List.getElem?_eq_some_iff.1 hx).1
            have hj := (hH2 i (by rw [size_flatK]; simpa using hi)).1
            simp only [World.cell?, hobj, Option.isSome_none, Bool.false_eq_true, if_false, id] at hj
            refine ⟨_, hj, ?_⟩
            have hk : 0 < k := by rcases Nat.eq_zero_or_pos k with e | e
                                  · subst e; simp at hi
                                  · exact e
            have hq : i / k < sd.length := Nat.div_lt_of_lt_mul (by rw [Nat.mul_comm]; exact hi)
            have hr : i % k < k := Nat.mod_lt _ hk
            rw [get_flatK _ _ _ _ (by simpa using hi)]
            have e1 : sd.toArray[i / k]! = sd[i / k] := by simp [hq]
            have hget := rowsA_get T2.flat hq hr
            rw [Nat.div_add_mod' i k, hx] at hget
            obtain ⟨v, hv, hrel⟩ := (T2.rel ρ μ sd[i / k]).get _ _ hget.symm
            rw [e1, List.getElem!_eq_getElem?_getD, hv]
            exact hrel
          · simpa [putCells] using hsz
          · rw [hsr]; exact hext
          · intro _; rw [hsr]; exact hfull
        · rw [upd_ne _ _ e] at hg
          obtain ⟨l2, o2, h3, h4, h5⟩ := hM.blk _ _ hg
          exact ⟨l2, o2, h3, by rw [hoth _ _ _ e hg h3]; exact h4, h5⟩
      · intro b1 b2 B1 B2 l1 l2 g1 g2 m1 m2 hne
        have : ∀ b' B', upd G b (some (.cells (rowsA eA sd) .fix)) b' = some B' → ∃ B'', G b' = some B'' := by
          intro b' B' h'
          by_cases e : b' = b
          · subst e; exact ⟨_, hG⟩
          · rw [upd_ne _ _ e] at h'; exact ⟨_, h'⟩
        obtain ⟨x1, y1⟩ := this _ _ g1
        obtain ⟨x2, y2⟩ := this _ _ g2
        exact hM.sep _ _ _ _ _ _ y1 y2 m1 m2 hne
      · intro b' l2 hm
        exact Nat.lt_of_lt_of_le (hM.bnd _ _ hm) sw_size
      · intro b' B' l2 hg hm
        by_cases e : b' = b
        · subst e; rw [hl] at hm; cases hm; exact .inr hown
        · rw [upd_ne _ _ e] at hg; exact hM.own _ _ _ hg hm
      · intro c' i v hv
        have hne : c' ≠ l.c := by rintro rfl; rw [hfr] at hv; cases hv
        obtain ⟨arr2, el, f, h3, h4⟩ := hM.fzw _ _ _ hv
        exact ⟨arr2, el, f, by rw [sw_other hne (Array.getElem?_eq_some_iff.1 h3).1]; exact h3, h4⟩
      · intro b' B' l2 n2 hg hm hlo i hi
        by_cases e : b' = b
        · subst e; rw [hl] at hm; cases hm; exact hfr i
        · rw [upd_ne _ _ e] at hg; exact hM.fzf _ _ _ _ hg hm hlo i hi
      · intro b' L2 l2 hg hm
        by_cases e : b' = b
        · subst e; rw [upd_same] at hg; cases hg
        · rw [upd_ne _ _ e] at hg
          rw [hoth _ _ _ e hg hm]
          exact hM.rof _ _ _ hg hm
      · show w0.drawn ≤ w.drawn + n
        have := hM.dr
        omega
    · intro b' B' h'
      by_cases e : b' = b
      · subst e; rw [T.get_set_same] at h'; rw [upd_same]; exact h'
      · rw [T.get_set_ne _ _ _ _ e] at h'; rw [upd_ne _ _ e]; exact hH _ _ h'
    · have e : b' ≠ b := by rintro rfl; rw [hb] at h'; cases h'
      rw [upd_ne _ _ e]
    · have e : b' ≠ b := by rintro rfl; rw [hb] at h'; cases h'
      rw [T.get_set_ne _ _ _ _ e]; exact h'
end
end Go.Sx
