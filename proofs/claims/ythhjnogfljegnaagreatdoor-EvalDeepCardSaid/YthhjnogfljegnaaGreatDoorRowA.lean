/-
 PROVED: refuterlaw12.EvalDeep returns true for every two integers (card_holds : Rows.EvalDeepCardSaid). CONDITION: the package variables lexer.symbols and parser.reserved hold what the program text lays in them, which the card ties to that text.
-/
import Derived.Test.YthhjnogfljegnaaGreatDoorLA
import Derived.Test.YthhjnogfljegnaaGreatDoorRunG
import Derived.Test.YthhjnogfljegnaaGreatDoorMSum
import Derived.Test.YthhjnogfljegnaaGreatDoorRows
import Derived.WalkKit
import Derived.ProofKit
import Derived.OpenShut
import Derived.Handed
import Derived.LaidLaws
import Derived.Test.YthhjnogfljegnaaGreatDoorCards
import Derived.Test.YthhjnogfljegnaaGreatDoorTie
import Derived.SevenTiedAt
import Derived.ChangeVars
import Derived.JoinedOf
import Derived.RowKit
import Derived.RowKitTokens
import Derived.LaidHandle
import Derived.Stop.Joined
import Derived.Carry
set_option linter.unusedSimpArgs false
set_option linter.unusedVariables false
set_option linter.unusedSectionVars false
namespace Tz
open Go.Sx Go
def lookT (f : Nat) (l : List AV) : List (Nat × List AV × AV) → Option AV
 | [] => none
 | (g, m, v) :: r => bif Nat.beq f g && AV.beqs l m then some v else lookT f l r
theorem sumT_look {f : Nat} {l : List AV} {v : AV} (h : T Blk) (nx : Key) : ∀ {tab : List (Nat × List AV × AV)}, lookT f l tab = some v → sumT tab f l h nx = some (v, h, nx)
 | [], hh => by cases hh
 | (g, m, u) :: r, hh => by
  unfold lookT at hh
  unfold sumT
  cases hb : (Nat.beq f g && AV.beqs l m) with
  | true => rw [hb] at hh; cases hh; rfl
  | false => rw [hb] at hh; exact sumT_look h nx hh
def offT (f : Nat) : List (Nat × List AV × AV) → Bool
 | [] => true
 | (g, _, _) :: r => bif Nat.beq f g then false else offT f r
theorem sumT_off {f : Nat} (l : List AV) (h : T Blk) (nx : Key) : ∀ {tab : List (Nat × List AV × AV)}, offT f tab = true → sumT tab f l h nx = none
 | [], _ => rfl
 | (g, m, u) :: r, hh => by
  unfold offT at hh
  unfold sumT
  cases hb : Nat.beq f g with
  | true => rw [hb] at hh; cases hh
  | false => rw [hb] at hh; exact sumT_off l h nx hh
noncomputable abbrev CL : Cfg := mkCfg fnsX tab
theorem fnL {f : Nat} {p : PFn} (hg : getFn CL f = some p) (ho : offT f tab = true) : Fn CL f p := ⟨hg, fun l h nx => sumT_off l h nx ho, rfl⟩
theorem stdE : Std CL := by
 constructor
 ·rfl
 ·exact fun _ => rfl
 all_goals exact fnL (by kernel_rfl) (by kernel_rfl)
theorem knownL : KnownD CL := by
 constructor
 all_goals exact fun h nx => sumT_look h nx (by kernel_rfl)
end Tz
namespace Go.Proofs.YthhjnogfljegnaaGreatDoor.evalDeep
open Go.ChangeShapes Go.WideShapes Go.ChangeAt Go.RowKit
theorem own : ownKnob Tryz.prog.godebug = none := by kernel_rfl
def nm (i : Nat) : String := (Rows.evalDeepRow.laid.map (·.1)).getD i ""
theorem gS : Tryz.prog.globalNamed (nm 0) = some 1 := by kernel_rfl
theorem gR : Tryz.prog.globalNamed (nm 1) = some 0 := by kernel_rfl
theorem tS : (Tryz.prog.globals[1]?).map (·.type) = some 321 := by kernel_rfl
theorem tR : (Tryz.prog.globals[0]?).map (·.type) = some 317 := by kernel_rfl
theorem uS : Tryz.prog.underlying 321 = some (.array 22 9) := by kernel_rfl
theorem uR : Tryz.prog.underlying 317 = some (.array 37 9) := by kernel_rfl
theorem u9 : Tryz.prog.underlying 9 = some .string := by kernel_rfl
theorem u3 : Tryz.prog.underlying 3 = some (.int .i64) := by kernel_rfl
theorem u4 : Tryz.prog.underlying 4 = some .bool := by kernel_rfl
theorem c3 : Tryz.prog.cellsOf 3 = 1 := by kernel_rfl
theorem c9 : Tryz.prog.cellsOf 9 = 1 := by kernel_rfl
theorem cS : Tryz.prog.cellsOf 321 = 22 := by kernel_rfl
theorem cR : Tryz.prog.cellsOf 317 = 37 := by kernel_rfl
theorem gN : Tryz.prog.globals.size = 2 := by kernel_rfl
theorem lS : (Rows.laid_refuter_lexer_symbols : DataW Unit) = Sx.txtData (Sx.textsOf Rows.laid_refuter_lexer_symbols) := by kernel_rfl
theorem lR : (Rows.laid_refuter_parser_reserved : DataW Unit) = Sx.txtData (Sx.textsOf Rows.laid_refuter_parser_reserved) := by kernel_rfl
theorem hS : Tz.g1 = (Sx.textsOf Rows.laid_refuter_lexer_symbols).map Sx.strAV := by kernel_rfl
theorem hR : Tz.g0 = (Sx.textsOf Rows.laid_refuter_parser_reserved).map Sx.strAV := by kernel_rfl
open Go.Sx in
theorem laid_of {W : World} (h : laidMet Tryz.prog Rows.evalDeepRow.laid W) : LaidW Tryz.prog Tz.heap0 ⟨W, zW W⟩ := by
 have h1 : TxtAt W 1 _ := txt_of_head gS tS uS u9 c9 cS lS h
 have h2 : TxtAt W 0 _ := txt_of_head gR tR uR u9 c9 cR lR (laidMet_rest h)
 refine ⟨?_, ?_⟩
 ·obtain ⟨arr, e, f, hh, _⟩ := h1
  rw [gN]
  exact (Array.getElem?_eq_some_iff.1 hh).1
 ·intro b B hb
  unfold Tz.heap0 at hb
  cases b with
  | z =>
   cases hb
   exact laid_at (b := .z) h2 (by rw [gN]; decide) (by rw [hR])
  | o k =>
   cases k with
   | z =>
    cases hb
    exact laid_at (b := .o .z) h1 (by rw [gN]; decide) (by rw [hS])
   | o k => have hb : T.get k .nil = some B := hb; rw [T.get_nil] at hb; cases hb
   | e k => have hb : T.get k .nil = some B := hb; rw [T.get_nil] at hb; cases hb
  | e k => have hb : T.get k .nil = some B := hb; rw [T.get_nil] at hb; cases hb
open Go.Sx in
theorem walk {W : World} (a x : Int) (ha : -9223372036854775808 ≤ a ∧ a < 9223372036854775808) (hx : -9223372036854775808 ≤ x ∧ x < 9223372036854775808) (hL : laidMet Tryz.prog Rows.evalDeepRow.laid W) :
  Calls Tryz.prog 10 #[.int .i64 a, .int .i64 x] W fun e w' => e = .returned (.bool true) ∧ Below W.heap.size W w' := by
 have hl := laid_of hL
 have hM := init_MRel (ρ := fun _ => 0) hl zW_spec (nx := k40.toNat) Tz.few
 have X := ctx_of Tz.fns_build Tz.fns_ok Tz.mix (Tz.tab_ok (fun _ => 0)) _ hl
 have hc := Tz.deep_ok Tz.stdE Tz.knownL a x ha hx Tz.heap0 k40
 refine (calls_of_CallA X hM (fun _ _ h => h) (args := #[.int .i64 a, .int .i64 x])
  (.cons _ _ _ _ (.int _ _ _ rfl) (.cons _ _ _ _ (.int _ _ _ rfl) .nil)) (fun o h nx h1 => ⟨_, h1⟩) hc).mono ?_
 rintro e w' ⟨v, h', nx', u, μ, G, hv, rfl, hr, _, hM2, _⟩
 cases hv
 cases hr
 exact ⟨rfl, hM2.below⟩
end Go.Proofs.YthhjnogfljegnaaGreatDoor.evalDeep
namespace Go.Proofs.YthhjnogfljegnaaGreatDoor.evalDeep
open Go.ChangeShapes Go.WideShapes Go.ChangeAt Go.RowKit
def strs (d : DataW Unit) : Array Value := ((Sx.textsOf d).map fun z => Value.string ⟨z.toArray⟩).toArray
noncomputable def laidWorld (os : Os) : World :=
 let w0 := World.holding Tryz.prog os ⟨#[], #[], []⟩
 { w0 with heap := (w0.heap.modify 0 fun
   | .cells _ t frozen => .cells (strs Rows.laid_refuter_parser_reserved) t frozen
   | o => o).modify 1 fun
   | .cells _ t frozen => .cells (strs Rows.laid_refuter_lexer_symbols) t frozen
   | o => o }
theorem laidWorld_met (os : Os) (args : Array Value) : laidMet Tryz.prog Rows.evalDeepRow.laid ((laidWorld os).forCall (fun _ _ => 0) ⟨#[], args, []⟩).memory :=
 laidMet_of_run' 8 (by kernel_rfl) (by kernel_rfl)
theorem inR_of {n : Int} (h5 : (Lit.int .i64 n).wf = true) : -9223372036854775808 ≤ n ∧ n < 9223372036854775808 := by
 have e1 : IntKind.i64.min = -9223372036854775808 := by decide
 have e2 : IntKind.i64.max = 9223372036854775807 := by decide
 simp [Lit.wf, e1, e2] at h5
 omega
set_option maxRecDepth 100000 in
theorem lifted (os : Os) (started : os.Started) (H : Type) (enc : TypeId × Value → H) :
  ReturnsInHanded {} Tryz.checked os 10 .any (fun w args => (Rows.evalDeepSpec.pre enc Tryz.prog Tryz.f10 [] false w args ∧ laidMet Tryz.prog Rows.evalDeepRow.laid w) ∧ sizedMet enc Tryz.prog Tryz.f10 (OpenSpec.ofChange Rows.evalDeepSpec) false w args)
   (Rows.evalDeepSpec.post enc Tryz.prog Tryz.f10 false true false false) := by
 refine returnsInHanded_of_change_and (C := Tryz.checked) (X := fun w _ => laidMet Tryz.prog Rows.evalDeepRow.laid w) (fun _ _ _ hh h => h.of_heap hh) own started (by kernel_rfl) Tryz.func10
  (ChangeSpec.witness_at (enc := enc) (C := Tryz.checked) (os := os) (X := fun w _ => laidMet Tryz.prog Rows.evalDeepRow.laid w) false (laidWorld os) #[.int .i64 0, .int .i64 0] 8 rfl (by kernel_rfl) (by kernel_rfl) (by kernel_rfl) (by kernel_rfl) (by kernel_rfl) (laidWorld_met os _)) ?_
 intro W base args ds gs before hval0 hW _ _ hL _
 have hval : ∀ (j : Nat) t v, Tryz.f10.params[j]? = some t → args[j]? = some v → Value.okWide Tryz.prog W .any base t v := hval0
 have hW' := hW
 obtain ⟨p, q, hA0, hV, rfl, hfz, hnd⟩ := hW
 have hA : DataW.TrodAll enc Tryz.prog W 0 (fun _ => true) true Tryz.f10.params.toList args.toList ds p := hA0
 rw [Tryz.params10] at hA hval
 obtain ⟨v0, vs0, d0, ds0, p0, q0, hargs, rfl, rfl, h0, r0⟩ := trodAll_cons hA
 obtain ⟨v1, vs1, d1, ds1, p1, q1, rfl, rfl, rfl, h1, r1⟩ := trodAll_cons r0
 obtain ⟨rfl, rfl, rfl⟩ := trodAll_nil r1
 obtain rfl : args = #[v0, v1] := by cases args; simp_all
 obtain ⟨rfl, rfl⟩ := trodVars_none hV
 obtain ⟨a1, rfl, rfl, rfl, w1⟩ := open_int u3 (hval 0 3 v0 rfl rfl) h0
 obtain ⟨a2, rfl, rfl, rfl, w2⟩ := open_int u3 (hval 1 3 v1 rfl rfl) h1
 clear hA0 hval0
 simp only [List.append_nil] at hW'
 refine (walk a1 a2 (inR_of w1) (inR_of w2) hL).mono fun e W' ⟨he, hg⟩ => ?_
 subst he
 refine ⟨_, rfl, _, _, _, [], [] ++ ([] ++ []), [], hW', ?_, ?_, ?_, hg.frame _, fun h => by cases h⟩
 ·exact (trodAll_cons_mk (shut_bool u4 _) trodAll_mk0)
 ·exact (trodAll_cons_mk (shut_int u3 w1) (trodAll_cons_mk (shut_int u3 w2) trodAll_mk0))
 ·rfl
end Go.Proofs.YthhjnogfljegnaaGreatDoor.evalDeep
