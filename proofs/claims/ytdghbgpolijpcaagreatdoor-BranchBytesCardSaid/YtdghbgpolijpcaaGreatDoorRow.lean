/-
  PROVED: refuterlaw13.BranchBytes returns true for every list of integers, every byte slice, every integer and every byte, and the arguments read behind the call as before (card_holds : Rows.BranchBytesCardSaid). CONDITION: the package variables lexer.symbols and parser.reserved hold what the program text lays in them, which the card ties to that text.
-/
import Derived.Test.YtdghbgpolijpcaaGreatDoorSum
import Derived.Test.YtdghbgpolijpcaaGreatDoorMSum
import Derived.Test.YtdghbgpolijpcaaGreatDoorRows
import Derived.WalkKit
import Derived.ProofKit
import Derived.OpenShut
import Derived.Handed
import Derived.LaidLaws
import Derived.Test.YtdghbgpolijpcaaGreatDoorCards
import Derived.Test.YtdghbgpolijpcaaGreatDoorTie
import Derived.SevenTiedAt
import Derived.ChangeVars
import Derived.JoinedOf
import Derived.RowKit
import Derived.RowKitTokens
import Derived.LaidHandle
import Derived.Stop.Joined
import Derived.Carry
set_option linter.unusedSimpArgs false
set_option linter.unusedVariables false
set_option linter.unusedSectionVars false
namespace Go.Proofs.YtdghbgpolijpcaaGreatDoor.branchBytes
open Go.ChangeShapes Go.WideShapes Go.ChangeAt Go.RowKit

theorem own : ownKnob Tryz.prog.godebug = none := by kernel_rfl
theorem laidOut : laidOutB Tryz.prog = true := by kernel_rfl
/- the listed variables by their place -/
def nm (i : Nat) : String := (Rows.branchBytesRow.laid.map (·.1)).getD i ""
theorem gS : Tryz.prog.globalNamed (nm 0) = some 1 := by kernel_rfl
theorem gR : Tryz.prog.globalNamed (nm 1) = some 0 := by kernel_rfl
theorem tS : (Tryz.prog.globals[1]?).map (·.type) = some 240 := by kernel_rfl
theorem tR : (Tryz.prog.globals[0]?).map (·.type) = some 238 := by kernel_rfl
theorem uS : Tryz.prog.underlying 240 = some (.array 22 9) := by kernel_rfl
theorem uR : Tryz.prog.underlying 238 = some (.array 37 9) := by kernel_rfl
theorem u9 : Tryz.prog.underlying 9 = some .string := by kernel_rfl
theorem u22 : Tryz.prog.underlying 22 = some (.slice 3) := by kernel_rfl
theorem u3 : Tryz.prog.underlying 3 = some (.int .i64) := by kernel_rfl
theorem u36 : Tryz.prog.underlying 36 = some (.slice 5) := by kernel_rfl
theorem u5 : Tryz.prog.underlying 5 = some (.int .u8) := by kernel_rfl
theorem c5 : Tryz.prog.cellsOf 5 = 1 := by kernel_rfl
theorem u4 : Tryz.prog.underlying 4 = some .bool := by kernel_rfl
theorem c3 : Tryz.prog.cellsOf 3 = 1 := by kernel_rfl
theorem c9 : Tryz.prog.cellsOf 9 = 1 := by kernel_rfl
theorem cS : Tryz.prog.cellsOf 240 = 22 := by kernel_rfl
theorem cR : Tryz.prog.cellsOf 238 = 37 := by kernel_rfl
theorem gN : Tryz.prog.globals.size = 2 := by kernel_rfl
theorem lS : (Rows.laid_refuter_lexer_symbols : DataW Unit) = Sx.txtData (Sx.textsOf Rows.laid_refuter_lexer_symbols) := by kernel_rfl
theorem lR : (Rows.laid_refuter_parser_reserved : DataW Unit) = Sx.txtData (Sx.textsOf Rows.laid_refuter_parser_reserved) := by kernel_rfl
theorem hS : Tb.g1 = (Sx.textsOf Rows.laid_refuter_lexer_symbols).map Sx.strAV := by kernel_rfl
theorem hR : Tb.g0 = (Sx.textsOf Rows.laid_refuter_parser_reserved).map Sx.strAV := by kernel_rfl

open Go.Sx in
theorem laid_of {W : World} (h : laidMet Tryz.prog Rows.branchBytesRow.laid W) : LaidW Tryz.prog Tb.heap0 ⟨W, zW W⟩ := by
  have h1 : TxtAt W 1 _ := txt_of_head gS tS uS u9 c9 cS lS h
  have h2 : TxtAt W 0 _ := txt_of_head gR tR uR u9 c9 cR lR (laidMet_rest h)
  refine ⟨?_, ?_⟩
  · obtain ⟨arr, e, f, hh, _⟩ := h1
    rw [gN]
    exact (Array.getElem?_eq_some_iff.1 hh).1
  · intro b B hb
    unfold Tb.heap0 at hb
    cases b with
    | z =>
      cases hb
      exact laid_at (b := .z) h2 (by rw [gN]; decide) (by rw [hR])
    | o k =>
      cases k with
      | z =>
        cases hb
        exact laid_at (b := .o .z) h1 (by rw [gN]; decide) (by rw [hS])
      | o k => have hb : T.get k .nil = some B := hb; rw [T.get_nil] at hb; cases hb
      | e k => have hb : T.get k .nil = some B := hb; rw [T.get_nil] at hb; cases hb
    | e k => have hb : T.get k .nil = some B := hb; rw [T.get_nil] at hb; cases hb

open Go.Sx in
theorem zW_cell {W : World} {b o : Nat} {v : Value} (h : W.cell? ⟨b, o, none⟩ = some v) : zW W b o = some v := by
  unfold zW
  unfold World.cell? at h
  split at h <;> simp_all

/- how a slice of integers that came in is seen -/
open Go.Sx in
def SeenAs (W : World) (v : Value) (l : List Int) : Prop := (v = .slice none 0 0 ∧ l = []) ∨ ∃ (a : Addr) (cap b o : Nat), v = .slice (some a) l.length cap ∧ l.length ≤ cap ∧ (cap = 0 ∨ a = ⟨b, o, none⟩) ∧ ∀ i (h : i < l.length), zW W b (o + i) = some (.int .i64 l[i])

open Go.Sx in
theorem seen_rel {W : World} {v : Value} {l : List Int} (hv : SeenAs W v l) : ∃ cl, IsR 1 Tb.eI cl l ∧ VRel (fun _ => 0) (gMu Tryz.prog Tb.heap0 (zW W)) cl v := by
  have hm : ∀ l : List Int, rowsA Tb.eI l = l.map I := fun l => by
    induction l with
    | nil => rfl
    | cons a l ih => rw [rowsA_cons, ih]; rfl
  rcases hv with ⟨rfl, rfl⟩ | ⟨ad, cap, b, o, rfl, hcap, had, hz⟩
  · exact ⟨.nils, .inl ⟨rfl, rfl⟩, .nils⟩
  · refine ⟨.sl (l.map I) l.length 1 .any, .inr (by rw [hm]), .sl _ _ _ _ cap b o ad (l.map fun n => Value.int .i64 n) ?_ (by simp) hcap had ?_ trivial⟩
    · refine VRels.of_get (by simp) fun i y hy => ?_
      simp at hy
      obtain ⟨n, hn, rfl⟩ := hy
      exact ⟨.int .i64 n, by simp [hn], .int _ _ _ rfl⟩
    · intro i y hy
      simp at hy
      obtain ⟨n, hn, rfl⟩ := hy
      obtain ⟨hi, rfl⟩ := List.getElem?_eq_some_iff.1 hn
      exact hz i hi
/- how a slice of bytes that came in is seen -/
open Go.Sx in
def SeenY (W : World) (v : Value) (l : List Nat) : Prop := (v = .slice none 0 0 ∧ l = []) ∨ ∃ (a : Addr) (cap b o : Nat), v = .slice (some a) l.length cap ∧ l.length ≤ cap ∧ (cap = 0 ∨ a = ⟨b, o, none⟩) ∧ ∀ i (h : i < l.length), zW W b (o + i) = some (.int .u8 ((l[i] : Nat) : Int))
open Go.Sx in
theorem seenY_rel {W : World} {v : Value} {l : List Nat} (hv : SeenY W v l) : ∃ cl, IsR 1 Tb.eY cl l ∧ VRel (fun _ => 0) (gMu Tryz.prog Tb.heap0 (zW W)) cl v := by
  have hm : ∀ l : List Nat, rowsA Tb.eY l = l.map fun b : Nat => AV.int .u8 (.lit (b : Int)) := fun l => by
    induction l with
    | nil => rfl
    | cons a l ih => rw [rowsA_cons, ih]; rfl
  rcases hv with ⟨rfl, rfl⟩ | ⟨ad, cap, b, o, rfl, hcap, had, hz⟩
  · exact ⟨.nils, .inl ⟨rfl, rfl⟩, .nils⟩
  · refine ⟨.sl (l.map fun b : Nat => AV.int .u8 (.lit (b : Int))) l.length 1 .any, .inr (by rw [hm]), .sl _ _ _ _ cap b o ad (l.map fun n : Nat => Value.int .u8 (n : Int)) ?_ (by simp) hcap had ?_ trivial⟩
    · refine VRels.of_get (by simp) fun i y hy => ?_
      simp at hy
      obtain ⟨n, hn, rfl⟩ := hy
      exact ⟨.int .u8 (n : Int), by simp [hn], .int _ _ _ rfl⟩
    · intro i y hy
      simp at hy
      obtain ⟨n, hn, rfl⟩ := hy
      obtain ⟨hi, rfl⟩ := List.getElem?_eq_some_iff.1 hn
      exact hz i hi
open Go.Sx in
theorem walk {W : World} {v u : Value} {l : List Int} {m : List Nat} {a : Int} {y : Nat} (hv : SeenAs W v l) (hu : SeenY W u m) (hin : Tb.inR l) (him : ∀ b ∈ m, b < 256) (ha : -9223372036854775808 ≤ a ∧ a < 9223372036854775808) (hy : y < 256) (hL : laidMet Tryz.prog Rows.branchBytesRow.laid W) :
    Calls Tryz.prog 5 #[v, u, .int .i64 a, .int .u8 (y : Int)] W fun e w' => e = .returned (.bool true) ∧ Below W.heap.size W w' := by
  have hl := laid_of hL
  have hM := init_MRel (ρ := fun _ => 0) hl zW_spec (nx := k40.toNat) Tb.few
  have X := Tb.ctxB (ρ := fun _ => 0) _ hl
  obtain ⟨cl, hcl, hrel⟩ := seen_rel hv
  obtain ⟨cm, hcm, hrem⟩ := seenY_rel hu
  have hc := Tb.law_bytes hcl hin hcm him ha.1 ha.2 hy Tb.heap0 k40
  refine (calls_of_CallA X hM (fun _ _ h => h) (args := #[v, u, .int .i64 a, .int .u8 (y : Int)]) (.cons _ _ _ _ hrel (.cons _ _ _ _ hrem (.cons _ _ _ _ (.int _ _ _ rfl) (.cons _ _ _ _ (.int _ _ _ rfl) .nil)))) (fun o h nx h1 => ⟨_, h1.1⟩) hc).mono ?_
  rintro e w' ⟨v, h', nx', u, μ, G, ⟨hv, _⟩, rfl, hr, _, hM2, _⟩
  cases hv
  cases hr
  exact ⟨rfl, hM2.below⟩
end Go.Proofs.YtdghbgpolijpcaaGreatDoor.branchBytes
namespace Go.Proofs.YtdghbgpolijpcaaGreatDoor.branchBytes
open Go.ChangeShapes Go.WideShapes Go.ChangeAt Go.RowKit

def strs (d : DataW Unit) : Array Value := ((Sx.textsOf d).map fun z => Value.string ⟨z.toArray⟩).toArray
/- a world that meets the condition -/
noncomputable def laidWorld (os : Os) : World :=
  let w0 := World.holding Tryz.prog os ⟨#[], #[], []⟩
  { w0 with heap := (w0.heap.modify 0 fun
      | .cells _ t frozen => .cells (strs Rows.laid_refuter_parser_reserved) t frozen
      | o => o).modify 1 fun
      | .cells _ t frozen => .cells (strs Rows.laid_refuter_lexer_symbols) t frozen
      | o => o }
theorem laidWorld_met (os : Os) (args : Array Value) : laidMet Tryz.prog Rows.branchBytesRow.laid ((laidWorld os).forCall (fun _ _ => 0) ⟨#[], args, []⟩).memory :=
  laidMet_of_run' 8 (by kernel_rfl) (by kernel_rfl)

theorem inR_of {zs : List Int} (h : ∀ n ∈ zs, (Lit.int .i64 n).wf = true) : Tb.inR zs := by
  intro n hn
  have h5 := h n hn
  have e1 : IntKind.i64.min = -9223372036854775808 := by decide
  have e2 : IntKind.i64.max = 9223372036854775807 := by decide
  simp [Lit.wf, e1, e2] at h5
  omega

/- a slice of integers that came in -/
theorem seen_of {W : World} {H : Type} {enc : TypeId × Value → H} {ad0 : Option Addr} {len cap : Nat} {d : DataW H} {p : List MemPlace} (h0 : DataW.Trod enc Tryz.prog W 0 (fun _ => true) true 22 (.slice ad0 len cap) d p) : ∃ l : List Int, Tb.inR l ∧ SeenAs W (.slice ad0 len cap) l := by
  obtain ⟨fuel, hf⟩ := h0
  rcases open_ints u22 u3 c3 hf with ⟨hcs, hx⟩ | ⟨a, len', cap', zs, hcs, _, hl, hm, hz, hx, hcell, hwz⟩
  · simp [Value.cells] at hcs
    obtain ⟨rfl, rfl, rfl⟩ := hcs
    exact ⟨[], fun n hn => by simp at hn, .inl ⟨rfl, rfl⟩⟩
  · simp [Value.cells] at hcs
    obtain ⟨rfl, rfl, rfl⟩ := hcs
    simp only [if_true] at hz
    obtain ⟨b, off, spot⟩ := a
    refine ⟨zs.take len, inR_of fun n hn => hwz n (List.mem_of_mem_take hn), .inr ⟨⟨b, off, spot⟩, cap, b, off, ?_, by simp; omega, ?_, ?_⟩⟩
    · rw [List.length_take, Nat.min_eq_left (by omega)]
    · by_cases hc : cap = 0
      · exact .inl hc
      · right
        have hspot : spot = none := by simpa [Addr.add] using World.cell?_spot (hcell 0 (by omega))
        subst hspot
        rfl
    · intro i hi
      have hi2 : i < len ∧ i < zs.length := by simp at hi; omega
      have hci := hcell i hi2.2
      have hspot : spot = none := by simpa [Addr.add] using World.cell?_spot (hcell 0 (by omega))
      subst hspot
      rw [add_plain] at hci
      have := zW_cell hci
      rw [this]
      simp [List.getD, List.getElem?_eq_getElem hi2.2]
/- a slice of bytes that came in -/
theorem seenY_of {W : World} {H : Type} {enc : TypeId × Value → H} {ad0 : Option Addr} {len cap : Nat} {d : DataW H} {p : List MemPlace} (h0 : DataW.Trod enc Tryz.prog W 0 (fun _ => true) true 36 (.slice ad0 len cap) d p) : ∃ l : List Nat, (∀ b ∈ l, b < 256) ∧ SeenY W (.slice ad0 len cap) l := by
  obtain ⟨fuel, hf⟩ := h0
  rcases open_ints u36 u5 c5 hf with ⟨hcs, hx⟩ | ⟨a, len', cap', zs, hcs, _, hl, hm, hz, hx, hcell, hwz⟩
  · simp [Value.cells] at hcs
    obtain ⟨rfl, rfl, rfl⟩ := hcs
    exact ⟨[], fun n hn => by simp at hn, .inl ⟨rfl, rfl⟩⟩
  · simp [Value.cells] at hcs
    obtain ⟨rfl, rfl, rfl⟩ := hcs
    simp only [if_true] at hz
    obtain ⟨b, off, spot⟩ := a
    have hby : ∀ n ∈ zs, 0 ≤ n ∧ n < 256 := by
      intro n hn
      have h5 := hwz n hn
      have e1 : IntKind.u8.min = 0 := by decide
      have e2 : IntKind.u8.max = 255 := by decide
      simp [Lit.wf, e1, e2] at h5
      omega
    refine ⟨(zs.take len).map Int.toNat, fun n hn => ?_, .inr ⟨⟨b, off, spot⟩, cap, b, off, ?_, by simp; omega, ?_, ?_⟩⟩
    · obtain ⟨z, hz1, rfl⟩ := List.mem_map.1 hn
      have := hby z (List.mem_of_mem_take hz1)
      omega
    · rw [List.length_map, List.length_take, Nat.min_eq_left (by omega)]
    · by_cases hc : cap = 0
      · exact .inl hc
      · right
        have hspot : spot = none := by simpa [Addr.add] using World.cell?_spot (hcell 0 (by omega))
        subst hspot
        rfl
    · intro i hi
      have hi2 : i < len ∧ i < zs.length := by simp at hi; omega
      have hci := hcell i hi2.2
      have hspot : spot = none := by simpa [Addr.add] using World.cell?_spot (hcell 0 (by omega))
      subst hspot
      rw [add_plain] at hci
      have := zW_cell hci
      rw [this]
      have hb := hby zs[i] (List.getElem_mem hi2.2)
      have e : ((zs[i].toNat : Nat) : Int) = zs[i] := by omega
      simp [List.getD, List.getElem?_eq_getElem hi2.2]
      omega
theorem i64_of {n : Int} (h : (Lit.int .i64 n).wf = true) : -9223372036854775808 ≤ n ∧ n < 9223372036854775808 := by
  have e1 : IntKind.i64.min = -9223372036854775808 := by decide
  have e2 : IntKind.i64.max = 9223372036854775807 := by decide
  simp [Lit.wf, e1, e2] at h
  omega
theorem u8_of {n : Int} (h : (Lit.int .u8 n).wf = true) : ∃ y : Nat, n = y ∧ y < 256 := by
  have e1 : IntKind.u8.min = 0 := by decide
  have e2 : IntKind.u8.max = 255 := by decide
  simp [Lit.wf, e1, e2] at h
  exact ⟨n.toNat, by omega, by omega⟩
set_option maxRecDepth 100000 in
theorem lifted (os : Os) (started : os.Started) (H : Type) (enc : TypeId × Value → H) :
    ReturnsInHanded {} Tryz.checked os 5 .any (fun w args => (Rows.branchBytesSpec.pre enc Tryz.prog Tryz.f5 [] false w args ∧ laidMet Tryz.prog Rows.branchBytesRow.laid w) ∧ sizedMet enc Tryz.prog Tryz.f5 (OpenSpec.ofChange Rows.branchBytesSpec) false w args)
      (Rows.branchBytesSpec.post enc Tryz.prog Tryz.f5 false true false false) := by
  refine returnsInHanded_of_change_and (C := Tryz.checked) (X := fun w _ => laidMet Tryz.prog Rows.branchBytesRow.laid w) (fun _ _ _ hh h => h.of_heap hh) own started (by kernel_rfl) Tryz.func5
    (ChangeSpec.witness_at (enc := enc) (C := Tryz.checked) (os := os) (X := fun w _ => laidMet Tryz.prog Rows.branchBytesRow.laid w) false (laidWorld os) #[.slice none 0 0, .slice none 0 0, .int .i64 0, .int .u8 0] 8 rfl (by kernel_rfl) (by kernel_rfl) (by kernel_rfl) (by kernel_rfl) (by kernel_rfl) (laidWorld_met os _)) ?_
  intro W base args ds gs before hval0 hW _ _ hL _
  have hval : ∀ (j : Nat) t v, Tryz.f5.params[j]? = some t → args[j]? = some v → Value.okWide Tryz.prog W .any base t v := hval0
  have hW' := hW
  obtain ⟨p, q, hA0, hV, rfl, hfz, hnd⟩ := hW
  have hA : DataW.TrodAll enc Tryz.prog W 0 (fun _ => true) true Tryz.f5.params.toList args.toList ds p := hA0
  rw [Tryz.params5] at hA hval
  obtain ⟨v0, vs0, d0, ds0, p0, q0, hargs, rfl, rfl, h0, r0⟩ := trodAll_cons hA
  obtain ⟨v1, vs1, d1, ds1, p1, q1, rfl, rfl, rfl, h1, r1⟩ := trodAll_cons r0
  obtain ⟨v2, vs2, d2, ds2, p2, q2, rfl, rfl, rfl, h2, r2⟩ := trodAll_cons r1
  obtain ⟨v3, vs3, d3, ds3, p3, q3, rfl, rfl, rfl, h3, r3⟩ := trodAll_cons r2
  obtain ⟨rfl, rfl, rfl⟩ := trodAll_nil r3
  obtain rfl : args = #[v0, v1, v2, v3] := by cases args; simp_all
  obtain ⟨rfl, rfl⟩ := trodVars_none hV
  obtain ⟨ad0, len, cap, rfl⟩ := okWide_slice u22 (hval 0 22 v0 rfl rfl)
  obtain ⟨ad1, len1, cap1, rfl⟩ := okWide_slice u36 (hval 1 36 v1 rfl rfl)
  obtain ⟨a2, rfl, rfl, rfl, w2⟩ := open_int u3 (hval 2 3 v2 rfl rfl) h2
  obtain ⟨a3, rfl, rfl, rfl, w3⟩ := open_int u5 (hval 3 5 v3 rfl rfl) h3
  clear hA0 hval0
  simp only [List.append_nil] at hW'
  have hlt0 : ∀ y ∈ p0, y.block < W.heap.size := fun y hy => by simpa using hW'.lt y (by simp [hy])
  have hlt1 : ∀ y ∈ p1, y.block < W.heap.size := fun y hy => by simpa using hW'.lt y (by simp [hy])
  have hargs0 : ∀ (W' : World), Below W.heap.size W W' → DataW.Trod enc Tryz.prog W' 0 (fun b => decide (b < W.heap.size)) true 22 (.slice ad0 len cap) d0 p0 :=
    fun W' hn => Below.trod laidOut (by kernel_rfl) (of_decide_eq_true (by kernel_rfl)) h0 hn hlt0
  have hargs1 : ∀ (W' : World), Below W.heap.size W W' → DataW.Trod enc Tryz.prog W' 0 (fun b => decide (b < W.heap.size)) true 36 (.slice ad1 len1 cap1) d1 p1 :=
    fun W' hn => Below.trod laidOut (by kernel_rfl) (of_decide_eq_true (by kernel_rfl)) h1 hn hlt1
  obtain ⟨l, hin, hs⟩ := seen_of h0
  obtain ⟨m, him, ht⟩ := seenY_of h1
  obtain ⟨y, rfl, hy⟩ := u8_of w3
  refine (walk hs ht hin him (i64_of w2) hy hL).mono fun e W' ⟨he, hg⟩ => ?_
  subst he
  refine ⟨_, rfl, _, _, _, [], p0 ++ (p1 ++ ([] ++ ([] ++ []))), [], hW', ?_, ?_, ?_, hg.frame _, fun h => by cases h⟩
  · exact (trodAll_cons_mk (shut_bool u4 _) trodAll_mk0)
  · exact (trodAll_cons_mk (hargs0 _ hg) (trodAll_cons_mk (hargs1 _ hg) (trodAll_cons_mk (shut_int u3 w2) (trodAll_cons_mk (shut_int u5 w3) trodAll_mk0))))
  · rfl
theorem row_holds : Rows.BranchBytesSaid :=
  OpenClaim.holds_of_wide 5 Tryz.f5 rfl rfl rfl rfl rfl rfl rfl ⟨rfl, rfl, rfl, rfl, rfl⟩ rfl rfl rfl rfl rfl (by kernel_rfl) Tryz.func5 (by kernel_rfl)
    (of_decide_eq_true (by kernel_rfl)) (by unfold Func.isWrapper; first | (rw [if_pos (by decide +kernel)]; kernel_rfl) | (rw [if_neg (by decide +kernel)]; exact ⟨rfl, rfl⟩))
    (fun os started H enc _ => lifted os started H enc)

theorem card_holds : Rows.BranchBytesCardSaid :=
  Claim7.holds_tied_plain_at .later [] [.data, .data] true (true, "dee3fcd6560c97c13a8a2e3b7671ddefc622d7d324fce1e97149dbb018347407") true
    row_holds (fun _ h => by cases h) (by kernel_rfl) (fun _ h => by cases h) branchBytes_row_tie rfl ⟨rfl, rfl⟩ (by kernel_rfl) rfl
    (fun f fn hf hfn => by
      obtain rfl : f = 5 := Option.some.inj ((show Tryz.prog.funcNamed Rows.branchBytesRow.func = some 5 by kernel_rfl).symm.trans hf) |>.symm
      obtain rfl : fn = Tryz.f5 := (Option.some.inj (Tryz.func5.symm.trans hfn)).symm
      exact ⟨by kernel_rfl, fun j t ht => by
        rw [Tryz.params5] at ht
        have h3 : t = 22 ∨ t = 36 ∨ t = 3 ∨ t = 5 := by
          rcases j with _ | _ | _ | _ | j
          · exact .inl (Option.some.inj ht).symm
          · exact .inr (.inl (Option.some.inj ht).symm)
          · exact .inr (.inr (.inl (Option.some.inj ht).symm))
          · exact .inr (.inr (.inr (Option.some.inj ht).symm))
          · simp at ht
        rcases h3 with rfl | rfl | rfl | rfl
        · exact (show Tryz.prog.wantsStandIn 22 = false by kernel_rfl)
        · exact (show Tryz.prog.wantsStandIn 36 = false by kernel_rfl)
        · exact (show Tryz.prog.wantsStandIn 3 = false by kernel_rfl)
        · exact (show Tryz.prog.wantsStandIn 5 = false by kernel_rfl)⟩)
    (by kernel_rfl)
#print axioms card_holds
end Go.Proofs.YtdghbgpolijpcaaGreatDoor.branchBytes
