/-
  PROVED: refuterlaw13.BranchAlgebra returns true for every three lists of integers, and the arguments read behind the call as before (card_holds : Rows.BranchAlgebraCardSaid). CONDITION: the package variables lexer.symbols and parser.reserved hold what the program text lays in them, which the card ties to that text.
-/
import Derived.Test.YtnjgidnmbodoaaaGreatDoorSum
import Derived.Test.YtnjgidnmbodoaaaGreatDoorMSum
import Derived.Test.YtnjgidnmbodoaaaGreatDoorRows
import Derived.WalkKit
import Derived.ProofKit
import Derived.OpenShut
import Derived.Handed
import Derived.LaidLaws
import Derived.Test.YtnjgidnmbodoaaaGreatDoorCards
import Derived.Test.YtnjgidnmbodoaaaGreatDoorTie
import Derived.SevenTiedAt
import Derived.ChangeVars
import Derived.JoinedOf
import Derived.RowKit
import Derived.RowKitTokens
import Derived.LaidHandle
import Derived.Stop.Joined
import Derived.Carry
set_option linter.unusedSimpArgs false
set_option linter.unusedVariables false
set_option linter.unusedSectionVars false
namespace Go.Proofs.YtnjgidnmbodoaaaGreatDoor.branchAlgebra
open Go.ChangeShapes Go.WideShapes Go.ChangeAt Go.RowKit

theorem own : ownKnob Tryz.prog.godebug = none := by kernel_rfl
theorem laidOut : laidOutB Tryz.prog = true := by kernel_rfl
/- the listed variables by their place -/
def nm (i : Nat) : String := (Rows.branchAlgebraRow.laid.map (·.1)).getD i ""
theorem gS : Tryz.prog.globalNamed (nm 0) = some 1 := by kernel_rfl
theorem gR : Tryz.prog.globalNamed (nm 1) = some 0 := by kernel_rfl
theorem tS : (Tryz.prog.globals[1]?).map (·.type) = some 240 := by kernel_rfl
theorem tR : (Tryz.prog.globals[0]?).map (·.type) = some 238 := by kernel_rfl
theorem uS : Tryz.prog.underlying 240 = some (.array 22 9) := by kernel_rfl
theorem uR : Tryz.prog.underlying 238 = some (.array 37 9) := by kernel_rfl
theorem u9 : Tryz.prog.underlying 9 = some .string := by kernel_rfl
theorem u22 : Tryz.prog.underlying 22 = some (.slice 3) := by kernel_rfl
theorem u3 : Tryz.prog.underlying 3 = some (.int .i64) := by kernel_rfl
theorem u4 : Tryz.prog.underlying 4 = some .bool := by kernel_rfl
theorem c3 : Tryz.prog.cellsOf 3 = 1 := by kernel_rfl
theorem c9 : Tryz.prog.cellsOf 9 = 1 := by kernel_rfl
theorem cS : Tryz.prog.cellsOf 240 = 22 := by kernel_rfl
theorem cR : Tryz.prog.cellsOf 238 = 37 := by kernel_rfl
theorem gN : Tryz.prog.globals.size = 2 := by kernel_rfl
theorem lS : (Rows.laid_refuter_lexer_symbols : DataW Unit) = Sx.txtData (Sx.textsOf Rows.laid_refuter_lexer_symbols) := by kernel_rfl
theorem lR : (Rows.laid_refuter_parser_reserved : DataW Unit) = Sx.txtData (Sx.textsOf Rows.laid_refuter_parser_reserved) := by kernel_rfl
theorem hS : Tb.g1 = (Sx.textsOf Rows.laid_refuter_lexer_symbols).map Sx.strAV := by kernel_rfl
theorem hR : Tb.g0 = (Sx.textsOf Rows.laid_refuter_parser_reserved).map Sx.strAV := by kernel_rfl

open Go.Sx in
theorem laid_of {W : World} (h : laidMet Tryz.prog Rows.branchAlgebraRow.laid W) : LaidW Tryz.prog Tb.heap0 ⟨W, zW W⟩ := by
  have h1 : TxtAt W 1 _ := txt_of_head gS tS uS u9 c9 cS lS h
  have h2 : TxtAt W 0 _ := txt_of_head gR tR uR u9 c9 cR lR (laidMet_rest h)
  refine ⟨?_, ?_⟩
  · obtain ⟨arr, e, f, hh, _⟩ := h1
    rw [gN]
    exact (Array.getElem?_eq_some_iff.1 hh).1
  · intro b B hb
    unfold Tb.heap0 at hb
    cases b with
    | z =>
      cases hb
      exact laid_at (b := .z) h2 (by rw [gN]; decide) (by rw [hR])
    | o k =>
      cases k with
      | z =>
        cases hb
        exact laid_at (b := .o .z) h1 (by rw [gN]; decide) (by rw [hS])
      | o k => have hb : T.get k .nil = some B := hb; rw [T.get_nil] at hb; cases hb
      | e k => have hb : T.get k .nil = some B := hb; rw [T.get_nil] at hb; cases hb
    | e k => have hb : T.get k .nil = some B := hb; rw [T.get_nil] at hb; cases hb

open Go.Sx in
theorem zW_cell {W : World} {b o : Nat} {v : Value} (h : W.cell? ⟨b, o, none⟩ = some v) : zW W b o = some v := by
  unfold zW
  unfold World.cell? at h
  split at h <;> simp_all

/- how a slice of integers that came in is seen -/
open Go.Sx in
def SeenAs (W : World) (v : Value) (l : List Int) : Prop := (v = .slice none 0 0 ∧ l = []) ∨ ∃ (a : Addr) (cap b o : Nat), v = .slice (some a) l.length cap ∧ l.length ≤ cap ∧ (cap = 0 ∨ a = ⟨b, o, none⟩) ∧ ∀ i (h : i < l.length), zW W b (o + i) = some (.int .i64 l[i])

open Go.Sx in
theorem seen_rel {W : World} {v : Value} {l : List Int} (hv : SeenAs W v l) : ∃ cl, IsR 1 Tb.eI cl l ∧ VRel (fun _ => 0) (gMu Tryz.prog Tb.heap0 (zW W)) cl v := by
  have hm : ∀ l : List Int, rowsA Tb.eI l = l.map I := fun l => by
    induction l with
    | nil => rfl
    | cons a l ih => rw [rowsA_cons, ih]; rfl
  rcases hv with ⟨rfl, rfl⟩ | ⟨ad, cap, b, o, rfl, hcap, had, hz⟩
  · exact ⟨.nils, .inl ⟨rfl, rfl⟩, .nils⟩
  · refine ⟨.sl (l.map I) l.length 1 .any, .inr (by rw [hm]), .sl _ _ _ _ cap b o ad (l.map fun n => Value.int .i64 n) ?_ (by simp) hcap had ?_ trivial⟩
    · refine VRels.of_get (by simp) fun i y hy => ?_
      simp at hy
      obtain ⟨n, hn, rfl⟩ := hy
      exact ⟨.int .i64 n, by simp [hn], .int _ _ _ rfl⟩
    · intro i y hy
      simp at hy
      obtain ⟨n, hn, rfl⟩ := hy
      obtain ⟨hi, rfl⟩ := List.getElem?_eq_some_iff.1 hn
      exact hz i hi
open Go.Sx in
theorem walk {W : World} {v u t : Value} {l m n : List Int} (hv : SeenAs W v l) (hu : SeenAs W u m) (ht : SeenAs W t n) (hin : Tb.inR l) (him : Tb.inR m) (hit : Tb.inR n) (hL : laidMet Tryz.prog Rows.branchAlgebraRow.laid W) :
    Calls Tryz.prog 4 #[v, u, t] W fun e w' => e = .returned (.bool true) ∧ Below W.heap.size W w' := by
  have hl := laid_of hL
  have hM := init_MRel (ρ := fun _ => 0) hl zW_spec (nx := k40.toNat) Tb.few
  have X := Tb.ctxB (ρ := fun _ => 0) _ hl
  obtain ⟨cl, hcl, hrel⟩ := seen_rel hv
  obtain ⟨cm, hcm, hrem⟩ := seen_rel hu
  obtain ⟨cn, hcn, hren⟩ := seen_rel ht
  have hc := Tb.law_alg hcl hcm hcn hin him hit Tb.heap0 k40
  refine (calls_of_CallA X hM (fun _ _ h => h) (args := #[v, u, t]) (.cons _ _ _ _ hrel (.cons _ _ _ _ hrem (.cons _ _ _ _ hren .nil))) (fun o h nx h1 => ⟨_, h1.1⟩) hc).mono ?_
  rintro e w' ⟨v, h', nx', u, μ, G, ⟨hv, _⟩, rfl, hr, _, hM2, _⟩
  cases hv
  cases hr
  exact ⟨rfl, hM2.below⟩
end Go.Proofs.YtnjgidnmbodoaaaGreatDoor.branchAlgebra
namespace Go.Proofs.YtnjgidnmbodoaaaGreatDoor.branchAlgebra
open Go.ChangeShapes Go.WideShapes Go.ChangeAt Go.RowKit

def strs (d : DataW Unit) : Array Value := ((Sx.textsOf d).map fun z => Value.string ⟨z.toArray⟩).toArray
/- a world that meets the condition -/
noncomputable def laidWorld (os : Os) : World :=
  let w0 := World.holding Tryz.prog os ⟨#[], #[], []⟩
  { w0 with heap := (w0.heap.modify 0 fun
      | .cells _ t frozen => .cells (strs Rows.laid_refuter_parser_reserved) t frozen
      | o => o).modify 1 fun
      | .cells _ t frozen => .cells (strs Rows.laid_refuter_lexer_symbols) t frozen
      | o => o }
theorem laidWorld_met (os : Os) (args : Array Value) : laidMet Tryz.prog Rows.branchAlgebraRow.laid ((laidWorld os).forCall (fun _ _ => 0) ⟨#[], args, []⟩).memory :=
  laidMet_of_run' 8 (by kernel_rfl) (by kernel_rfl)

theorem inR_of {zs : List Int} (h : ∀ n ∈ zs, (Lit.int .i64 n).wf = true) : Tb.inR zs := by
  intro n hn
  have h5 := h n hn
  have e1 : IntKind.i64.min = -9223372036854775808 := by decide
  have e2 : IntKind.i64.max = 9223372036854775807 := by decide
  simp [Lit.wf, e1, e2] at h5
  omega

/- a slice of integers that came in -/
theorem seen_of {W : World} {H : Type} {enc : TypeId × Value → H} {ad0 : Option Addr} {len cap : Nat} {d : DataW H} {p : List MemPlace} (h0 : DataW.Trod enc Tryz.prog W 0 (fun _ => true) true 22 (.slice ad0 len cap) d p) : ∃ l : List Int, Tb.inR l ∧ SeenAs W (.slice ad0 len cap) l := by
  obtain ⟨fuel, hf⟩ := h0
  rcases open_ints u22 u3 c3 hf with ⟨hcs, hx⟩ | ⟨a, len', cap', zs, hcs, _, hl, hm, hz, hx, hcell, hwz⟩
  · simp [Value.cells] at hcs
    obtain ⟨rfl, rfl, rfl⟩ := hcs
    exact ⟨[], fun n hn => by simp at hn, .inl ⟨rfl, rfl⟩⟩
  · simp [Value.cells] at hcs
    obtain ⟨rfl, rfl, rfl⟩ := hcs
    simp only [if_true] at hz
    obtain ⟨b, off, spot⟩ := a
    refine ⟨zs.take len, inR_of fun n hn => hwz n (List.mem_of_mem_take hn), .inr ⟨⟨b, off, spot⟩, cap, b, off, ?_, by simp; omega, ?_, ?_⟩⟩
    · rw [List.length_take, Nat.min_eq_left (by omega)]
    · by_cases hc : cap = 0
      · exact .inl hc
      · right
        have hspot : spot = none := by simpa [Addr.add] using World.cell?_spot (hcell 0 (by omega))
        subst hspot
        rfl
    · intro i hi
      have hi2 : i < len ∧ i < zs.length := by simp at hi; omega
      have hci := hcell i hi2.2
      have hspot : spot = none := by simpa [Addr.add] using World.cell?_spot (hcell 0 (by omega))
      subst hspot
      rw [add_plain] at hci
      have := zW_cell hci
      rw [this]
      simp [List.getD, List.getElem?_eq_getElem hi2.2]
set_option maxRecDepth 100000 in
theorem lifted (os : Os) (started : os.Started) (H : Type) (enc : TypeId × Value → H) :
    ReturnsInHanded {} Tryz.checked os 4 .any (fun w args => (Rows.branchAlgebraSpec.pre enc Tryz.prog Tryz.f4 [] false w args ∧ laidMet Tryz.prog Rows.branchAlgebraRow.laid w) ∧ sizedMet enc Tryz.prog Tryz.f4 (OpenSpec.ofChange Rows.branchAlgebraSpec) false w args)
      (Rows.branchAlgebraSpec.post enc Tryz.prog Tryz.f4 false true false false) := by
  refine returnsInHanded_of_change_and (C := Tryz.checked) (X := fun w _ => laidMet Tryz.prog Rows.branchAlgebraRow.laid w) (fun _ _ _ hh h => h.of_heap hh) own started (by kernel_rfl) Tryz.func4
    (ChangeSpec.witness_at (enc := enc) (C := Tryz.checked) (os := os) (X := fun w _ => laidMet Tryz.prog Rows.branchAlgebraRow.laid w) false (laidWorld os) #[.slice none 0 0, .slice none 0 0, .slice none 0 0] 8 rfl (by kernel_rfl) (by kernel_rfl) (by kernel_rfl) (by kernel_rfl) (by kernel_rfl) (laidWorld_met os _)) ?_
  intro W base args ds gs before hval0 hW _ _ hL _
  have hval : ∀ (j : Nat) t v, Tryz.f4.params[j]? = some t → args[j]? = some v → Value.okWide Tryz.prog W .any base t v := hval0
  have hW' := hW
  obtain ⟨p, q, hA0, hV, rfl, hfz, hnd⟩ := hW
  have hA : DataW.TrodAll enc Tryz.prog W 0 (fun _ => true) true Tryz.f4.params.toList args.toList ds p := hA0
  rw [Tryz.params4] at hA hval
  obtain ⟨v0, vs0, d0, ds0, p0, q0, hargs, rfl, rfl, h0, r0⟩ := trodAll_cons hA
  obtain ⟨v1, vs1, d1, ds1, p1, q1, rfl, rfl, rfl, h1, r1⟩ := trodAll_cons r0
  obtain ⟨v2, vs2, d2, ds2, p2, q2, rfl, rfl, rfl, h2, r2⟩ := trodAll_cons r1
  obtain ⟨rfl, rfl, rfl⟩ := trodAll_nil r2
  obtain rfl : args = #[v0, v1, v2] := by cases args; simp_all
  obtain ⟨rfl, rfl⟩ := trodVars_none hV
  obtain ⟨ad0, len, cap, rfl⟩ := okWide_slice u22 (hval 0 22 v0 rfl rfl)
  obtain ⟨ad1, len1, cap1, rfl⟩ := okWide_slice u22 (hval 1 22 v1 rfl rfl)
  obtain ⟨ad2, len2, cap2, rfl⟩ := okWide_slice u22 (hval 2 22 v2 rfl rfl)
  clear hA0 hval0
  simp only [List.append_nil] at hW'
  have hlt0 : ∀ y ∈ p0, y.block < W.heap.size := fun y hy => by simpa using hW'.lt y (by simp [hy])
  have hlt1 : ∀ y ∈ p1, y.block < W.heap.size := fun y hy => by simpa using hW'.lt y (by simp [hy])
  have hlt2 : ∀ y ∈ p2, y.block < W.heap.size := fun y hy => by simpa using hW'.lt y (by simp [hy])
  have hargs0 : ∀ (W' : World), Below W.heap.size W W' → DataW.Trod enc Tryz.prog W' 0 (fun b => decide (b < W.heap.size)) true 22 (.slice ad0 len cap) d0 p0 :=
    fun W' hn => Below.trod laidOut (by kernel_rfl) (of_decide_eq_true (by kernel_rfl)) h0 hn hlt0
  have hargs1 : ∀ (W' : World), Below W.heap.size W W' → DataW.Trod enc Tryz.prog W' 0 (fun b => decide (b < W.heap.size)) true 22 (.slice ad1 len1 cap1) d1 p1 :=
    fun W' hn => Below.trod laidOut (by kernel_rfl) (of_decide_eq_true (by kernel_rfl)) h1 hn hlt1
  have hargs2 : ∀ (W' : World), Below W.heap.size W W' → DataW.Trod enc Tryz.prog W' 0 (fun b => decide (b < W.heap.size)) true 22 (.slice ad2 len2 cap2) d2 p2 :=
    fun W' hn => Below.trod laidOut (by kernel_rfl) (of_decide_eq_true (by kernel_rfl)) h2 hn hlt2
  obtain ⟨l, hin, hs⟩ := seen_of h0
  obtain ⟨m, him, ht⟩ := seen_of h1
  obtain ⟨n, hit, hu⟩ := seen_of h2
  refine (walk hs ht hu hin him hit hL).mono fun e W' ⟨he, hg⟩ => ?_
  subst he
  refine ⟨_, rfl, _, _, _, [], p0 ++ (p1 ++ (p2 ++ [])), [], hW', ?_, ?_, ?_, hg.frame _, fun h => by cases h⟩
  · exact (trodAll_cons_mk (shut_bool u4 _) trodAll_mk0)
  · exact (trodAll_cons_mk (hargs0 _ hg) (trodAll_cons_mk (hargs1 _ hg) (trodAll_cons_mk (hargs2 _ hg) trodAll_mk0)))
  · rfl

theorem row_holds : Rows.BranchAlgebraSaid :=
  OpenClaim.holds_of_wide 4 Tryz.f4 rfl rfl rfl rfl rfl rfl rfl ⟨rfl, rfl, rfl, rfl, rfl⟩ rfl rfl rfl rfl rfl (by kernel_rfl) Tryz.func4 (by kernel_rfl)
    (of_decide_eq_true (by kernel_rfl)) (by unfold Func.isWrapper; first | (rw [if_pos (by decide +kernel)]; kernel_rfl) | (rw [if_neg (by decide +kernel)]; exact ⟨rfl, rfl⟩))
    (fun os started H enc _ => lifted os started H enc)

theorem card_holds : Rows.BranchAlgebraCardSaid :=
  Claim7.holds_tied_plain_at .later [] [.data, .data] true (true, "dee3fcd6560c97c13a8a2e3b7671ddefc622d7d324fce1e97149dbb018347407") true
    row_holds (fun _ h => by cases h) (by kernel_rfl) (fun _ h => by cases h) branchAlgebra_row_tie rfl ⟨rfl, rfl⟩ (by kernel_rfl) rfl
    (fun f fn hf hfn => by
      obtain rfl : f = 4 := Option.some.inj ((show Tryz.prog.funcNamed Rows.branchAlgebraRow.func = some 4 by kernel_rfl).symm.trans hf) |>.symm
      obtain rfl : fn = Tryz.f4 := (Option.some.inj (Tryz.func4.symm.trans hfn)).symm
      exact ⟨by kernel_rfl, fun j t ht => by
        rw [Tryz.params4] at ht
        have h3 : t = 22 := by
          rcases j with _ | _ | _ | j
          · exact (Option.some.inj ht).symm
          · exact (Option.some.inj ht).symm
          · exact (Option.some.inj ht).symm
          · simp at ht
        subst h3
        exact (show Tryz.prog.wantsStandIn 22 = false by kernel_rfl)⟩)
    (by kernel_rfl)
#print axioms card_holds
end Go.Proofs.YtnjgidnmbodoaaaGreatDoor.branchAlgebra
