/-
  PROVED: refuterlaw12.EvalIntegers returns true for every two integers and every list of integers, and the arguments read behind the call as before (card_holds : Rows.EvalIntegersCardSaid). CONDITION: the package variables lexer.symbols and parser.reserved hold what the program text lays in them, which the card ties to that text.
-/
import Derived.Test.YthhjnogfljegnaaGreatDoorLMain
import Derived.Test.YthhjnogfljegnaaGreatDoorRunC
import Derived.Test.YthhjnogfljegnaaGreatDoorMSum
import Derived.Test.YthhjnogfljegnaaGreatDoorRows
import Derived.WalkKit
import Derived.ProofKit
import Derived.OpenShut
import Derived.Handed
import Derived.LaidLaws
import Derived.Test.YthhjnogfljegnaaGreatDoorCards
import Derived.Test.YthhjnogfljegnaaGreatDoorTie
import Derived.SevenTiedAt
import Derived.ChangeVars
import Derived.JoinedOf
import Derived.RowKit
import Derived.RowKitTokens
import Derived.LaidHandle
import Derived.Stop.Joined
import Derived.Carry
set_option linter.unusedSimpArgs false
set_option linter.unusedVariables false
set_option linter.unusedSectionVars false
namespace Tz
open Go.Sx Go
def lookT (f : Nat) (l : List AV) : List (Nat × List AV × AV) → Option AV
  | [] => none
  | (g, m, v) :: r => bif Nat.beq f g && AV.beqs l m then some v else lookT f l r
theorem sumT_look {f : Nat} {l : List AV} {v : AV} (h : T Blk) (nx : Key) : ∀ {tab : List (Nat × List AV × AV)}, lookT f l tab = some v → sumT tab f l h nx = some (v, h, nx)
  | [], hh => by cases hh
  | (g, m, u) :: r, hh => by
    unfold lookT at hh
    unfold sumT
    cases hb : (Nat.beq f g && AV.beqs l m) with
    | true => rw [hb] at hh; cases hh; rfl
    | false => rw [hb] at hh; exact sumT_look h nx hh
def offT (f : Nat) : List (Nat × List AV × AV) → Bool
  | [] => true
  | (g, _, _) :: r => bif Nat.beq f g then false else offT f r
theorem sumT_off {f : Nat} (l : List AV) (h : T Blk) (nx : Key) : ∀ {tab : List (Nat × List AV × AV)}, offT f tab = true → sumT tab f l h nx = none
  | [], _ => rfl
  | (g, m, u) :: r, hh => by
    unfold offT at hh
    unfold sumT
    cases hb : Nat.beq f g with
    | true => rw [hb] at hh; cases hh
    | false => rw [hb] at hh; exact sumT_off l h nx hh
noncomputable abbrev CL : Cfg := mkCfg fns tab
theorem fnL {f : Nat} {p : PFn} (hg : getFn CL f = some p) (ho : offT f tab = true) : Fn CL f p := ⟨hg, fun l h nx => sumT_off l h nx ho, rfl⟩
theorem stdE : Std CL := by
  constructor
  · rfl
  · exact fun _ => rfl
  all_goals exact fnL (by kernel_rfl) (by kernel_rfl)
theorem stdL : StdI CL := by
  constructor
  · exact stdE
  all_goals exact fnL (by kernel_rfl) (by kernel_rfl)
theorem knownL : Known CL := by
  constructor
  all_goals exact fun h nx => sumT_look h nx (by kernel_rfl)
end Tz
namespace Go.Proofs.YthhjnogfljegnaaGreatDoor.evalIntegers
open Go.ChangeShapes Go.WideShapes Go.ChangeAt Go.RowKit

theorem own : ownKnob Tryz.prog.godebug = none := by kernel_rfl
theorem laidOut : laidOutB Tryz.prog = true := by kernel_rfl
/- the listed variables by their place -/
def nm (i : Nat) : String := (Rows.evalIntegersRow.laid.map (·.1)).getD i ""
theorem gS : Tryz.prog.globalNamed (nm 0) = some 1 := by kernel_rfl
theorem gR : Tryz.prog.globalNamed (nm 1) = some 0 := by kernel_rfl
theorem tS : (Tryz.prog.globals[1]?).map (·.type) = some 321 := by kernel_rfl
theorem tR : (Tryz.prog.globals[0]?).map (·.type) = some 317 := by kernel_rfl
theorem uS : Tryz.prog.underlying 321 = some (.array 22 9) := by kernel_rfl
theorem uR : Tryz.prog.underlying 317 = some (.array 37 9) := by kernel_rfl
theorem u9 : Tryz.prog.underlying 9 = some .string := by kernel_rfl
theorem u22 : Tryz.prog.underlying 22 = some (.slice 3) := by kernel_rfl
theorem u3 : Tryz.prog.underlying 3 = some (.int .i64) := by kernel_rfl
theorem u4 : Tryz.prog.underlying 4 = some .bool := by kernel_rfl
theorem c3 : Tryz.prog.cellsOf 3 = 1 := by kernel_rfl
theorem c9 : Tryz.prog.cellsOf 9 = 1 := by kernel_rfl
theorem cS : Tryz.prog.cellsOf 321 = 22 := by kernel_rfl
theorem cR : Tryz.prog.cellsOf 317 = 37 := by kernel_rfl
theorem gN : Tryz.prog.globals.size = 2 := by kernel_rfl
theorem lS : (Rows.laid_refuter_lexer_symbols : DataW Unit) = Sx.txtData (Sx.textsOf Rows.laid_refuter_lexer_symbols) := by kernel_rfl
theorem lR : (Rows.laid_refuter_parser_reserved : DataW Unit) = Sx.txtData (Sx.textsOf Rows.laid_refuter_parser_reserved) := by kernel_rfl
theorem hS : Tz.g1 = (Sx.textsOf Rows.laid_refuter_lexer_symbols).map Sx.strAV := by kernel_rfl
theorem hR : Tz.g0 = (Sx.textsOf Rows.laid_refuter_parser_reserved).map Sx.strAV := by kernel_rfl

open Go.Sx in
theorem laid_of {W : World} (h : laidMet Tryz.prog Rows.evalIntegersRow.laid W) : LaidW Tryz.prog Tz.heap0 ⟨W, zW W⟩ := by
  have h1 : TxtAt W 1 _ := txt_of_head gS tS uS u9 c9 cS lS h
  have h2 : TxtAt W 0 _ := txt_of_head gR tR uR u9 c9 cR lR (laidMet_rest h)
  refine ⟨?_, ?_⟩
  · obtain ⟨arr, e, f, hh, _⟩ := h1
    rw [gN]
    exact (Array.getElem?_eq_some_iff.1 hh).1
  · intro b B hb
    unfold Tz.heap0 at hb
    cases b with
    | z =>
      cases hb
      exact laid_at (b := .z) h2 (by rw [gN]; decide) (by rw [hR])
    | o k =>
      cases k with
      | z =>
        cases hb
        exact laid_at (b := .o .z) h1 (by rw [gN]; decide) (by rw [hS])
      | o k => have hb : T.get k .nil = some B := hb; rw [T.get_nil] at hb; cases hb
      | e k => have hb : T.get k .nil = some B := hb; rw [T.get_nil] at hb; cases hb
    | e k => have hb : T.get k .nil = some B := hb; rw [T.get_nil] at hb; cases hb

open Go.Sx in
theorem zW_cell {W : World} {b o : Nat} {v : Value} (h : W.cell? ⟨b, o, none⟩ = some v) : zW W b o = some v := by
  unfold zW
  unfold World.cell? at h
  split at h <;> simp_all

/- how a slice of integers that came in is seen -/
open Go.Sx in
def SeenAs (W : World) (v : Value) (l : List Int) : Prop := (v = .slice none 0 0 ∧ l = []) ∨ ∃ (a : Addr) (cap b o : Nat), v = .slice (some a) l.length cap ∧ l.length ≤ cap ∧ (cap = 0 ∨ a = ⟨b, o, none⟩) ∧ ∀ i (h : i < l.length), zW W b (o + i) = some (.int .i64 l[i])

open Go.Sx in
theorem walk {W : World} {v : Value} {l : List Int} (hv : SeenAs W v l) (hin : Tz.inR l) (a x : Int) (hL : laidMet Tryz.prog Rows.evalIntegersRow.laid W) :
    Calls Tryz.prog 9 #[.int .i64 a, .int .i64 x, v] W fun e w' => e = .returned (.bool true) ∧ Below W.heap.size W w' := by
  have hl := laid_of hL
  have hM := init_MRel (ρ := fun _ => 0) hl zW_spec (nx := k40.toNat) Tz.few
  have X := ctx_of Tz.fns_build Tz.fns_ok Tz.mix (Tz.tab_ok (fun _ => 0)) _ hl
  have hseen : ∃ cl, Tz.IsNs cl l ∧ VRel (fun _ => 0) (gMu Tryz.prog Tz.heap0 (zW W)) cl v := by
    rcases hv with ⟨rfl, rfl⟩ | ⟨ad, cap, b, o, rfl, hcap, had, hz⟩
    · exact ⟨.nils, .inl ⟨rfl, rfl⟩, .nils⟩
    · refine ⟨.sl (l.map I) l.length 1 .any, .inr rfl, .sl _ _ _ _ cap b o ad (l.map fun n => Value.int .i64 n) ?_ (by simp) hcap had ?_ trivial⟩
      · refine VRels.of_get (by simp) fun i y hy => ?_
        simp at hy
        obtain ⟨n, hn, rfl⟩ := hy
        exact ⟨.int .i64 n, by simp [hn], .int _ _ _ rfl⟩
      · intro i y hy
        simp at hy
        obtain ⟨n, hn, rfl⟩ := hy
        obtain ⟨hi, rfl⟩ := List.getElem?_eq_some_iff.1 hn
        exact hz i hi
  obtain ⟨cl, hcl, hrel⟩ := hseen
  have hc := Tz.ints_ok Tz.stdL Tz.knownL hcl hin a x Tz.heap0 k40
  refine (calls_of_CallA X hM (fun _ _ h => h) (args := #[.int .i64 a, .int .i64 x, v])
    (.cons _ _ _ _ (.int _ _ _ rfl) (.cons _ _ _ _ (.int _ _ _ rfl) (.cons _ _ _ _ hrel .nil))) (fun o h nx h1 => ⟨_, h1⟩) hc).mono ?_
  rintro e w' ⟨v, h', nx', u, μ, G, hv, rfl, hr, _, hM2, _⟩
  cases hv
  cases hr
  exact ⟨rfl, hM2.below⟩
end Go.Proofs.YthhjnogfljegnaaGreatDoor.evalIntegers
namespace Go.Proofs.YthhjnogfljegnaaGreatDoor.evalIntegers
open Go.ChangeShapes Go.WideShapes Go.ChangeAt Go.RowKit

def strs (d : DataW Unit) : Array Value := ((Sx.textsOf d).map fun z => Value.string ⟨z.toArray⟩).toArray
/- a world that meets the condition -/
noncomputable def laidWorld (os : Os) : World :=
  let w0 := World.holding Tryz.prog os ⟨#[], #[], []⟩
  { w0 with heap := (w0.heap.modify 0 fun
      | .cells _ t frozen => .cells (strs Rows.laid_refuter_parser_reserved) t frozen
      | o => o).modify 1 fun
      | .cells _ t frozen => .cells (strs Rows.laid_refuter_lexer_symbols) t frozen
      | o => o }
theorem laidWorld_met (os : Os) (args : Array Value) : laidMet Tryz.prog Rows.evalIntegersRow.laid ((laidWorld os).forCall (fun _ _ => 0) ⟨#[], args, []⟩).memory :=
  laidMet_of_run' 8 (by kernel_rfl) (by kernel_rfl)

theorem inR_of {zs : List Int} (h : ∀ n ∈ zs, (Lit.int .i64 n).wf = true) : Tz.inR zs := by
  intro n hn
  have h5 := h n hn
  have e1 : IntKind.i64.min = -9223372036854775808 := by decide
  have e2 : IntKind.i64.max = 9223372036854775807 := by decide
  simp [Lit.wf, e1, e2] at h5
  omega

set_option maxRecDepth 100000 in
theorem lifted (os : Os) (started : os.Started) (H : Type) (enc : TypeId × Value → H) :
    ReturnsInHanded {} Tryz.checked os 9 .any (fun w args => (Rows.evalIntegersSpec.pre enc Tryz.prog Tryz.f9 [] false w args ∧ laidMet Tryz.prog Rows.evalIntegersRow.laid w) ∧ sizedMet enc Tryz.prog Tryz.f9 (OpenSpec.ofChange Rows.evalIntegersSpec) false w args)
      (Rows.evalIntegersSpec.post enc Tryz.prog Tryz.f9 false true false false) := by
  refine returnsInHanded_of_change_and (C := Tryz.checked) (X := fun w _ => laidMet Tryz.prog Rows.evalIntegersRow.laid w) (fun _ _ _ hh h => h.of_heap hh) own started (by kernel_rfl) Tryz.func9
    (ChangeSpec.witness_at (enc := enc) (C := Tryz.checked) (os := os) (X := fun w _ => laidMet Tryz.prog Rows.evalIntegersRow.laid w) false (laidWorld os) #[.int .i64 0, .int .i64 0, .slice none 0 0] 8 rfl (by kernel_rfl) (by kernel_rfl) (by kernel_rfl) (by kernel_rfl) (by kernel_rfl) (laidWorld_met os _)) ?_
  intro W base args ds gs before hval0 hW _ _ hL _
  have hval : ∀ (j : Nat) t v, Tryz.f9.params[j]? = some t → args[j]? = some v → Value.okWide Tryz.prog W .any base t v := hval0
  have hW' := hW
  obtain ⟨p, q, hA0, hV, rfl, hfz, hnd⟩ := hW
  have hA : DataW.TrodAll enc Tryz.prog W 0 (fun _ => true) true Tryz.f9.params.toList args.toList ds p := hA0
  rw [Tryz.params9] at hA hval
  obtain ⟨v0, vs0, d0, ds0, p0, q0, hargs, rfl, rfl, h0, r0⟩ := trodAll_cons hA
  obtain ⟨v1, vs1, d1, ds1, p1, q1, rfl, rfl, rfl, h1, r1⟩ := trodAll_cons r0
  obtain ⟨v2, vs2, d2, ds2, p2, q2, rfl, rfl, rfl, h2, r2⟩ := trodAll_cons r1
  obtain ⟨rfl, rfl, rfl⟩ := trodAll_nil r2
  obtain rfl : args = #[v0, v1, v2] := by cases args; simp_all
  obtain ⟨rfl, rfl⟩ := trodVars_none hV
  obtain ⟨ad0, len, cap, rfl⟩ := okWide_slice u22 (hval 2 22 v2 rfl rfl)
  obtain ⟨a1, rfl, rfl, rfl, w1⟩ := open_int u3 (hval 0 3 v0 rfl rfl) h0
  obtain ⟨a2, rfl, rfl, rfl, w2⟩ := open_int u3 (hval 1 3 v1 rfl rfl) h1
  clear hA0 hval0
  simp only [List.append_nil, List.nil_append] at hW'
  have h0k := h2
  obtain ⟨fuel, hf⟩ := h2
  have hlt : ∀ y ∈ p2, y.block < W.heap.size := fun y hy => by simpa using hW'.lt y (by simp [hy])
  have hargs0 : ∀ (W' : World), Below W.heap.size W W' → DataW.Trod enc Tryz.prog W' 0 (fun b => decide (b < W.heap.size)) true 22 (.slice ad0 len cap) d2 p2 :=
    fun W' hn => Below.trod laidOut (by kernel_rfl) (of_decide_eq_true (by kernel_rfl)) h0k hn hlt
  have hseen : ∃ l : List Int, Tz.inR l ∧ SeenAs W (.slice ad0 len cap) l := by
    rcases open_ints u22 u3 c3 hf with ⟨hcs, hx⟩ | ⟨a, len', cap', zs, hcs, _, hl, hm, hz, hx, hcell, hwz⟩
    · simp [Value.cells] at hcs
      obtain ⟨rfl, rfl, rfl⟩ := hcs
      exact ⟨[], fun n hn => by simp at hn, .inl ⟨rfl, rfl⟩⟩
    · simp [Value.cells] at hcs
      obtain ⟨rfl, rfl, rfl⟩ := hcs
      simp only [if_true] at hz
      obtain ⟨b, off, spot⟩ := a
      refine ⟨zs.take len, inR_of fun n hn => hwz n (List.mem_of_mem_take hn), .inr ⟨⟨b, off, spot⟩, cap, b, off, ?_, by simp; omega, ?_, ?_⟩⟩
      · rw [List.length_take, Nat.min_eq_left (by omega)]
      · by_cases hc : cap = 0
        · exact .inl hc
        · right
          have hspot : spot = none := by simpa [Addr.add] using World.cell?_spot (hcell 0 (by omega))
          subst hspot
          rfl
      · intro i hi
        have hi2 : i < len ∧ i < zs.length := by simp at hi; omega
        have hci := hcell i hi2.2
        have hspot : spot = none := by simpa [Addr.add] using World.cell?_spot (hcell 0 (by omega))
        subst hspot
        rw [add_plain] at hci
        have := zW_cell hci
        rw [this]
        simp [List.getD, List.getElem?_eq_getElem hi2.2]
  obtain ⟨l, hin, hs⟩ := hseen
  refine (walk hs hin a1 a2 hL).mono fun e W' ⟨he, hg⟩ => ?_
  subst he
  refine ⟨_, rfl, _, _, _, [], [] ++ ([] ++ (p2 ++ [])), [], hW', ?_, ?_, ?_, hg.frame _, fun h => by cases h⟩
  · exact (trodAll_cons_mk (shut_bool u4 _) trodAll_mk0)
  · exact (trodAll_cons_mk (shut_int u3 w1) (trodAll_cons_mk (shut_int u3 w2) (trodAll_cons_mk (hargs0 _ hg) trodAll_mk0)))
  · rfl

theorem row_holds : Rows.EvalIntegersSaid :=
  OpenClaim.holds_of_wide 9 Tryz.f9 rfl rfl rfl rfl rfl rfl rfl ⟨rfl, rfl, rfl, rfl, rfl⟩ rfl rfl rfl rfl rfl (by kernel_rfl) Tryz.func9 (by kernel_rfl)
    (of_decide_eq_true (by kernel_rfl)) (by unfold Func.isWrapper; first | (rw [if_pos (by decide +kernel)]; kernel_rfl) | (rw [if_neg (by decide +kernel)]; exact ⟨rfl, rfl⟩))
    (fun os started H enc _ => lifted os started H enc)

theorem card_holds : Rows.EvalIntegersCardSaid :=
  Claim7.holds_tied_plain_at .later [] [.data, .data] true (true, "d25650f0cffee949eb912449aea1ed643ff1c5c28f62661d74f4a44b811d4dfb") true
    row_holds (fun _ h => by cases h) (by kernel_rfl) (fun _ h => by cases h) evalIntegers_row_tie rfl ⟨rfl, rfl⟩ (by kernel_rfl) rfl
    (fun f fn hf hfn => by
      obtain rfl : f = 9 := Option.some.inj ((show Tryz.prog.funcNamed Rows.evalIntegersRow.func = some 9 by kernel_rfl).symm.trans hf) |>.symm
      obtain rfl : fn = Tryz.f9 := (Option.some.inj (Tryz.func9.symm.trans hfn)).symm
      exact ⟨by kernel_rfl, fun j t ht => by
        rw [Tryz.params9] at ht
        have h3 : t = 22 ∨ t = 3 := by
          rcases j with _ | _ | _ | j
          · exact .inr (Option.some.inj ht).symm
          · exact .inr (Option.some.inj ht).symm
          · exact .inl (Option.some.inj ht).symm
          · simp at ht
        rcases h3 with rfl | rfl
        · exact (show Tryz.prog.wantsStandIn 22 = false by kernel_rfl)
        · exact (show Tryz.prog.wantsStandIn 3 = false by kernel_rfl)⟩)
    (by kernel_rfl)
#print axioms card_holds
end Go.Proofs.YthhjnogfljegnaaGreatDoor.evalIntegers
