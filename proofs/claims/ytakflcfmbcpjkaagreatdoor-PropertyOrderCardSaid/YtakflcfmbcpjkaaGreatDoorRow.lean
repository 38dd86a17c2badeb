/-
  PROVED: refuterlaw22.PropertyOrder returns true for every six integers, and the arguments read behind the call as before (card_holds : Rows.PropertyOrderCardSaid). CONDITION: the package variables lexer.symbols and parser.reserved hold what the program text lays in them, which the card ties to that text.
-/
import Derived.Test.YtakflcfmbcpjkaaGreatDoorWalks
import Derived.Test.YtakflcfmbcpjkaaGreatDoorRuns
import Derived.Test.YtakflcfmbcpjkaaGreatDoorMSum
import Derived.Test.YtakflcfmbcpjkaaGreatDoorRows
import Derived.WalkKit
import Derived.ProofKit
import Derived.OpenShut
import Derived.Handed
import Derived.LaidLaws
import Derived.Test.YtakflcfmbcpjkaaGreatDoorCards
import Derived.Test.YtakflcfmbcpjkaaGreatDoorTie
import Derived.SevenTiedAt
import Derived.ChangeVars
import Derived.JoinedOf
import Derived.RowKit
import Derived.RowKitTokens
import Derived.LaidHandle
import Derived.Stop.Joined
set_option linter.unusedSimpArgs false
set_option linter.unusedVariables false
set_option linter.unusedSectionVars false
namespace Go.Proofs.YtakflcfmbcpjkaaGreatDoor.propertyOrder
open Go.ChangeShapes Go.WideShapes Go.ChangeAt Go.RowKit

theorem own : ownKnob Tryz.prog.godebug = none := by kernel_rfl
/- the listed variables by their place -/
def nm (i : Nat) : String := (Rows.propertyOrderRow.laid.map (·.1)).getD i ""
theorem gS : Tryz.prog.globalNamed (nm 0) = some 1 := by kernel_rfl
theorem gR : Tryz.prog.globalNamed (nm 1) = some 0 := by kernel_rfl
theorem tS : (Tryz.prog.globals[1]?).map (·.type) = some 229 := by kernel_rfl
theorem tR : (Tryz.prog.globals[0]?).map (·.type) = some 223 := by kernel_rfl
theorem uS : Tryz.prog.underlying 229 = some (.array 22 9) := by kernel_rfl
theorem uR : Tryz.prog.underlying 223 = some (.array 37 9) := by kernel_rfl
theorem u9 : Tryz.prog.underlying 9 = some .string := by kernel_rfl
theorem c9 : Tryz.prog.cellsOf 9 = 1 := by kernel_rfl
theorem cS : Tryz.prog.cellsOf 229 = 22 := by kernel_rfl
theorem cR : Tryz.prog.cellsOf 223 = 37 := by kernel_rfl
theorem gN : Tryz.prog.globals.size = 2 := by kernel_rfl
theorem lS : (Rows.laid_refuter_lexer_symbols : DataW Unit) = Sx.txtData (Sx.textsOf Rows.laid_refuter_lexer_symbols) := by kernel_rfl
theorem lR : (Rows.laid_refuter_parser_reserved : DataW Unit) = Sx.txtData (Sx.textsOf Rows.laid_refuter_parser_reserved) := by kernel_rfl
theorem hS : Tw.g1 = (Sx.textsOf Rows.laid_refuter_lexer_symbols).map Sx.strAV := by kernel_rfl
theorem hR : Tw.g0 = (Sx.textsOf Rows.laid_refuter_parser_reserved).map Sx.strAV := by kernel_rfl

open Go.Sx in
theorem laid_of {W : World} (h : laidMet Tryz.prog Rows.propertyOrderRow.laid W) : LaidW Tryz.prog Tw.heap0 ⟨W, zW W⟩ := by
  have h1 : TxtAt W 1 _ := txt_of_head gS tS uS u9 c9 cS lS h
  have h2 : TxtAt W 0 _ := txt_of_head gR tR uR u9 c9 cR lR (laidMet_rest h)
  refine ⟨?_, ?_⟩
  · obtain ⟨arr, e, f, hh, _⟩ := h1
    rw [gN]
    exact (Array.getElem?_eq_some_iff.1 hh).1
  · intro b B hb
    unfold Tw.heap0 at hb
    cases b with
    | z =>
      cases hb
      exact laid_at (b := .z) h2 (by rw [gN]; decide) (by rw [hR])
    | o k =>
      cases k with
      | z =>
        cases hb
        exact laid_at (b := .o .z) h1 (by rw [gN]; decide) (by rw [hS])
      | o k => have hb : T.get k .nil = some B := hb; rw [T.get_nil] at hb; cases hb
      | e k => have hb : T.get k .nil = some B := hb; rw [T.get_nil] at hb; cases hb
    | e k => have hb : T.get k .nil = some B := hb; rw [T.get_nil] at hb; cases hb

open Go.Sx in
theorem std : Tw.Std (mkCfg Tw.fns [(8, [], .bool true)]) := by
  refine ⟨rfl, rfl, fun _ => rfl, fun _ => rfl, ?_⟩
  intro f l h nx hf
  show sumT _ f l h nx = none
  unfold sumT
  have e : Nat.beq f 8 = false := by
    cases hb : Nat.beq f 8 with
    | false => rfl
    | true => exact absurd (Nat.eq_of_beq_eq_true hb) hf
  rw [e]
  rfl

open Go.Sx in
theorem walk (a b c x y k : Int) (W : World) (hL : laidMet Tryz.prog Rows.propertyOrderRow.laid W) :
    Calls Tryz.prog 3 #[.int .i64 a, .int .i64 b, .int .i64 c, .int .i64 x, .int .i64 y, .int .i64 k] W fun e w' => e = .returned (.bool true) ∧ Below W.heap.size W w' := by
  have hl := laid_of hL
  have hM := init_MRel (ρ := fun _ => 0) hl zW_spec (nx := k40.toNat) Tw.few
  have X := ctx_of Tw.fns_build Tw.fns_ok Tw.mix (Tw.tab3 (fun _ => 0)) _ hl
  have h8 : ∀ h nx, CallA (mkCfg Tw.fns [(8, [], .bool true)]) 8 [] h nx (fun o h' nx' => o = .ret (.bool true)) := fun h nx => .inl ⟨.bool true, h, nx, rfl, rfl⟩
  have hc := Tw.order_ok std h8 a b c x y k Tw.heap0 k40
  refine (calls_of_CallA X hM (fun _ _ h => h) (args := #[.int .i64 a, .int .i64 b, .int .i64 c, .int .i64 x, .int .i64 y, .int .i64 k])
    (.cons _ _ _ _ (.int _ _ _ rfl) (.cons _ _ _ _ (.int _ _ _ rfl) (.cons _ _ _ _ (.int _ _ _ rfl) (.cons _ _ _ _ (.int _ _ _ rfl) (.cons _ _ _ _ (.int _ _ _ rfl) (.cons _ _ _ _ (.int _ _ _ rfl) .nil)))))) (fun o h nx h1 => ⟨_, h1⟩) hc).mono ?_
  rintro e w' ⟨v, h', nx', u, μ, G, hv, rfl, hr, _, hM2, _⟩
  cases hv
  cases hr
  exact ⟨rfl, hM2.below⟩
end Go.Proofs.YtakflcfmbcpjkaaGreatDoor.propertyOrder
namespace Go.Proofs.YtakflcfmbcpjkaaGreatDoor.propertyOrder
open Go.ChangeShapes Go.WideShapes Go.ChangeAt Go.RowKit

def strs (d : DataW Unit) : Array Value := ((Sx.textsOf d).map fun z => Value.string ⟨z.toArray⟩).toArray
/- a world that meets the condition -/
noncomputable def laidWorld (os : Os) : World :=
  let w0 := World.holding Tryz.prog os ⟨#[], #[], []⟩
  { w0 with heap := (w0.heap.modify 0 fun
      | .cells _ t frozen => .cells (strs Rows.laid_refuter_parser_reserved) t frozen
      | o => o).modify 1 fun
      | .cells _ t frozen => .cells (strs Rows.laid_refuter_lexer_symbols) t frozen
      | o => o }
theorem laidWorld_met (os : Os) (args : Array Value) : laidMet Tryz.prog Rows.propertyOrderRow.laid ((laidWorld os).forCall (fun _ _ => 0) ⟨#[], args, []⟩).memory :=
  laidMet_of_run' 8 (by kernel_rfl) (by kernel_rfl)

set_option maxRecDepth 100000 in
theorem lifted (os : Os) (started : os.Started) (H : Type) (enc : TypeId × Value → H) :
    ReturnsInHanded {} Tryz.checked os 3 .any (fun w args => (Rows.propertyOrderSpec.pre enc Tryz.prog Tryz.f3 [] false w args ∧ laidMet Tryz.prog Rows.propertyOrderRow.laid w) ∧ sizedMet enc Tryz.prog Tryz.f3 (OpenSpec.ofChange Rows.propertyOrderSpec) false w args)
      (Rows.propertyOrderSpec.post enc Tryz.prog Tryz.f3 false true false false) := by
  refine returnsInHanded_of_change_and (C := Tryz.checked) (X := fun w _ => laidMet Tryz.prog Rows.propertyOrderRow.laid w) (fun _ _ _ hh h => h.of_heap hh) own started (by kernel_rfl) Tryz.func3
    (ChangeSpec.witness_at (enc := enc) (C := Tryz.checked) (os := os) (X := fun w _ => laidMet Tryz.prog Rows.propertyOrderRow.laid w) false (laidWorld os) #[.int .i64 0, .int .i64 0, .int .i64 0, .int .i64 0, .int .i64 0, .int .i64 0] 8 rfl (by kernel_rfl) (by kernel_rfl) (by kernel_rfl) (by kernel_rfl) (by kernel_rfl) (laidWorld_met os _)) ?_
  intro W base args ds gs before hval0 hW _ _ hL _
  have hval : ∀ (j : Nat) t v, Tryz.f3.params[j]? = some t → args[j]? = some v → Value.okWide Tryz.prog W .any base t v := hval0
  have hW' := hW
  obtain ⟨p, q, hA0, hV, rfl, hfz, hnd⟩ := hW
  have hA : DataW.TrodAll enc Tryz.prog W 0 (fun _ => true) true Tryz.f3.params.toList args.toList ds p := hA0
  rw [Tryz.params3] at hA hval
  obtain ⟨v0, vs0, d0, ds0, p0, q0, hargs, rfl, rfl, h0, r0⟩ := trodAll_cons hA
  obtain ⟨v1, vs1, d1, ds1, p1, q1, rfl, rfl, rfl, h1, r1⟩ := trodAll_cons r0
  obtain ⟨v2, vs2, d2, ds2, p2, q2, rfl, rfl, rfl, h2, r2⟩ := trodAll_cons r1
  obtain ⟨v3, vs3, d3, ds3, p3, q3, rfl, rfl, rfl, h3, r3⟩ := trodAll_cons r2
  obtain ⟨v4, vs4, d4, ds4, p4, q4, rfl, rfl, rfl, h4, r4⟩ := trodAll_cons r3
  obtain ⟨v5, vs5, d5, ds5, p5, q5, rfl, rfl, rfl, h5, r5⟩ := trodAll_cons r4
  obtain ⟨rfl, rfl, rfl⟩ := trodAll_nil r5
  obtain rfl : args = #[v0, v1, v2, v3, v4, v5] := by cases args; simp_all
  obtain ⟨rfl, rfl⟩ := trodVars_none hV
  obtain ⟨a0, rfl, rfl, rfl, w0⟩ := open_int Tryz.underlying3 (hval 0 3 v0 rfl rfl) h0
  obtain ⟨a1, rfl, rfl, rfl, w1⟩ := open_int Tryz.underlying3 (hval 1 3 v1 rfl rfl) h1
  obtain ⟨a2, rfl, rfl, rfl, w2⟩ := open_int Tryz.underlying3 (hval 2 3 v2 rfl rfl) h2
  obtain ⟨a3, rfl, rfl, rfl, w3⟩ := open_int Tryz.underlying3 (hval 3 3 v3 rfl rfl) h3
  obtain ⟨a4, rfl, rfl, rfl, w4⟩ := open_int Tryz.underlying3 (hval 4 3 v4 rfl rfl) h4
  obtain ⟨a5, rfl, rfl, rfl, w5⟩ := open_int Tryz.underlying3 (hval 5 3 v5 rfl rfl) h5
  clear hA0 hval0
  simp only [List.append_nil] at hW'
  refine (walk a0 a1 a2 a3 a4 a5 W hL).mono fun e W' ⟨he, hg⟩ => ?_
  subst he
  refine ⟨_, rfl, _, _, _, [], [], [], hW', ?_, ?_, ?_, hg.frame _, fun h => by cases h⟩
  · exact (trodAll_cons_mk (shut_bool Tryz.underlying4 _) trodAll_mk0)
  · exact (trodAll_cons_mk (shut_int Tryz.underlying3 w0) (trodAll_cons_mk (shut_int Tryz.underlying3 w1) (trodAll_cons_mk (shut_int Tryz.underlying3 w2) (trodAll_cons_mk (shut_int Tryz.underlying3 w3) (trodAll_cons_mk (shut_int Tryz.underlying3 w4) (trodAll_cons_mk (shut_int Tryz.underlying3 w5) trodAll_mk0))))))
  · rfl

theorem row_holds : Rows.PropertyOrderSaid :=
  OpenClaim.holds_of_wide 3 Tryz.f3 rfl rfl rfl rfl rfl rfl rfl ⟨rfl, rfl, rfl, rfl, rfl⟩ rfl rfl rfl rfl rfl (by kernel_rfl) Tryz.func3 (by kernel_rfl)
    (of_decide_eq_true (by kernel_rfl)) (by unfold Func.isWrapper; first | (rw [if_pos (by decide +kernel)]; kernel_rfl) | (rw [if_neg (by decide +kernel)]; exact ⟨rfl, rfl⟩))
    (fun os started H enc _ => lifted os started H enc)

theorem card_holds : Rows.PropertyOrderCardSaid :=
  Claim7.holds_tied_plain_at .later [] [.data, .data] true (true, "78ff96ca9700393c023c9c9bcb3e55d8bdc9b35aa5e487b01625b623fa7ccedf") true
    row_holds (fun _ h => by cases h) (by kernel_rfl) (fun _ h => by cases h) propertyOrder_row_tie rfl ⟨rfl, rfl⟩ (by kernel_rfl) rfl
    (fun f fn hf hfn => by
      obtain rfl : f = 3 := Option.some.inj ((show Tryz.prog.funcNamed Rows.propertyOrderRow.func = some 3 by kernel_rfl).symm.trans hf) |>.symm
      obtain rfl : fn = Tryz.f3 := (Option.some.inj (Tryz.func3.symm.trans hfn)).symm
      exact ⟨by kernel_rfl, fun j t ht => by
        rw [Tryz.params3] at ht
        have h3 : t = 3 := by
          rcases j with _ | _ | _ | _ | _ | _ | j
          all_goals first | exact (Option.some.inj ht).symm | simp at ht
        subst h3
        exact (show Tryz.prog.wantsStandIn 3 = false by kernel_rfl)⟩)
    (by kernel_rfl)
#print axioms card_holds
end Go.Proofs.YtakflcfmbcpjkaaGreatDoor.propertyOrder
