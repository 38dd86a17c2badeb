/-
  DERIVED. GIVEN WITH THE SEED: THE CARDS: each row of YthhjnogfljegnaaGreatDoorRows.lean that lists a variable, with what it lists TIED to the program's text (the seventh form; the later family's looks); each row that meets fmt, with fmt's text TOLD by the authors' own Lean function (tested against real Go, not proved from fmt's source: count such statements apart). THE CARD IS WHAT COUNTS. Prove the row's statement (the work); the ties are given (YthhjnogfljegnaaGreatDoorTie.lean); close each card by the builder's one call (the guide's Derived/Test/ToyasCard.lean, 'card_holds'). Laid BY PROGRAM, IN A SANDBOX (cutbox-door.mjs). By AI agents, Wed Nov 11 2026. No macro, syntax, notation, axiom, sorry.
-/
import Derived.Test.YthhjnogfljegnaaGreatDoorRows
import GoSem.ClaimSeven
namespace Go.Proofs.YthhjnogfljegnaaGreatDoor
namespace Rows

/-- THE TIED CARD OF 'refuterlaw12.EvalExprs'. -/
def evalExprsCard : Claim7 := { stood := { row := evalExprsRow, standIns := [], harness := (true, "d25650f0cffee949eb912449aea1ed643ff1c5c28f62661d74f4a44b811d4dfb"), looks := true }, kinds := [], alts := [], laidByText := true, laidKinds := [.data, .data], laidTests := true, laidLooks := .later }
def EvalExprsCardSaid : Prop := Claim7.holds Tryz.pinned (.plain (OpenSpec.ofChange evalExprsSpec)) evalExprsCard

/-- THE TIED CARD OF 'refuterlaw12.EvalAny'. -/
def evalAnyCard : Claim7 := { stood := { row := evalAnyRow, standIns := [], harness := (true, "d25650f0cffee949eb912449aea1ed643ff1c5c28f62661d74f4a44b811d4dfb"), looks := true }, kinds := [], alts := [], laidByText := true, laidKinds := [.data, .data], laidTests := true, laidLooks := .later }
def EvalAnyCardSaid : Prop := Claim7.holds Tryz.pinned (.plain (OpenSpec.ofChange evalAnySpec)) evalAnyCard

/-- THE TIED CARD OF 'refuterlaw12.EvalFuel'. -/
def evalFuelCard : Claim7 := { stood := { row := evalFuelRow, standIns := [], harness := (true, "d25650f0cffee949eb912449aea1ed643ff1c5c28f62661d74f4a44b811d4dfb"), looks := true }, kinds := [], alts := [], laidByText := true, laidKinds := [.data, .data], laidTests := true, laidLooks := .later }
def EvalFuelCardSaid : Prop := Claim7.holds Tryz.pinned (.plain (OpenSpec.ofChange evalFuelSpec)) evalFuelCard

/-- THE TIED CARD OF 'refuterlaw12.EvalLists'. -/
def evalListsCard : Claim7 := { stood := { row := evalListsRow, standIns := [], harness := (true, "d25650f0cffee949eb912449aea1ed643ff1c5c28f62661d74f4a44b811d4dfb"), looks := true }, kinds := [], alts := [], laidByText := true, laidKinds := [.data, .data], laidTests := true, laidLooks := .later }
def EvalListsCardSaid : Prop := Claim7.holds Tryz.pinned (.plain (OpenSpec.ofChange evalListsSpec)) evalListsCard

/-- THE TIED CARD OF 'refuterlaw12.EvalFlips'. -/
def evalFlipsCard : Claim7 := { stood := { row := evalFlipsRow, standIns := [], harness := (true, "d25650f0cffee949eb912449aea1ed643ff1c5c28f62661d74f4a44b811d4dfb"), looks := true }, kinds := [], alts := [], laidByText := true, laidKinds := [.data, .data], laidTests := true, laidLooks := .later }
def EvalFlipsCardSaid : Prop := Claim7.holds Tryz.pinned (.plain (OpenSpec.ofChange evalFlipsSpec)) evalFlipsCard

/-- THE TIED CARD OF 'refuterlaw12.EvalCalls'. -/
def evalCallsCard : Claim7 := { stood := { row := evalCallsRow, standIns := [], harness := (true, "d25650f0cffee949eb912449aea1ed643ff1c5c28f62661d74f4a44b811d4dfb"), looks := true }, kinds := [], alts := [], laidByText := true, laidKinds := [.data, .data], laidTests := true, laidLooks := .later }
def EvalCallsCardSaid : Prop := Claim7.holds Tryz.pinned (.plain (OpenSpec.ofChange evalCallsSpec)) evalCallsCard

/-- THE TIED CARD OF 'refuterlaw12.EvalIntegers'. -/
def evalIntegersCard : Claim7 := { stood := { row := evalIntegersRow, standIns := [], harness := (true, "d25650f0cffee949eb912449aea1ed643ff1c5c28f62661d74f4a44b811d4dfb"), looks := true }, kinds := [], alts := [], laidByText := true, laidKinds := [.data, .data], laidTests := true, laidLooks := .later }
def EvalIntegersCardSaid : Prop := Claim7.holds Tryz.pinned (.plain (OpenSpec.ofChange evalIntegersSpec)) evalIntegersCard

/-- THE TIED CARD OF 'refuterlaw12.EvalDeep'. -/
def evalDeepCard : Claim7 := { stood := { row := evalDeepRow, standIns := [], harness := (true, "d25650f0cffee949eb912449aea1ed643ff1c5c28f62661d74f4a44b811d4dfb"), looks := true }, kinds := [], alts := [], laidByText := true, laidKinds := [.data, .data], laidTests := true, laidLooks := .later }
def EvalDeepCardSaid : Prop := Claim7.holds Tryz.pinned (.plain (OpenSpec.ofChange evalDeepSpec)) evalDeepCard

/-- THE SECOND FORM's CARD OF 'refuterlaw12.EvalExprs'. -/
def evalExprsUptoCard : Claim7 := { stood := { row := evalExprsUptoRow, standIns := [], harness := (true, "d25650f0cffee949eb912449aea1ed643ff1c5c28f62661d74f4a44b811d4dfb"), looks := true }, kinds := [], alts := [], laidByText := true, laidKinds := [.data, .data], laidTests := true, laidLooks := .later }
def EvalExprsUptoCardSaid : Prop := Claim7.holds Tryz.pinned (.plain (OpenSpec.upto evalExprsSpec)) evalExprsUptoCard

/-- THE SECOND FORM's CARD OF 'refuterlaw12.EvalAny'. -/
def evalAnyUptoCard : Claim7 := { stood := { row := evalAnyUptoRow, standIns := [], harness := (true, "d25650f0cffee949eb912449aea1ed643ff1c5c28f62661d74f4a44b811d4dfb"), looks := true }, kinds := [], alts := [], laidByText := true, laidKinds := [.data, .data], laidTests := true, laidLooks := .later }
def EvalAnyUptoCardSaid : Prop := Claim7.holds Tryz.pinned (.plain (OpenSpec.upto evalAnySpec)) evalAnyUptoCard

/-- THE SECOND FORM's CARD OF 'refuterlaw12.EvalFuel'. -/
def evalFuelUptoCard : Claim7 := { stood := { row := evalFuelUptoRow, standIns := [], harness := (true, "d25650f0cffee949eb912449aea1ed643ff1c5c28f62661d74f4a44b811d4dfb"), looks := true }, kinds := [], alts := [], laidByText := true, laidKinds := [.data, .data], laidTests := true, laidLooks := .later }
def EvalFuelUptoCardSaid : Prop := Claim7.holds Tryz.pinned (.plain (OpenSpec.upto evalFuelSpec)) evalFuelUptoCard

/-- THE SECOND FORM's CARD OF 'refuterlaw12.EvalLists'. -/
def evalListsUptoCard : Claim7 := { stood := { row := evalListsUptoRow, standIns := [], harness := (true, "d25650f0cffee949eb912449aea1ed643ff1c5c28f62661d74f4a44b811d4dfb"), looks := true }, kinds := [], alts := [], laidByText := true, laidKinds := [.data, .data], laidTests := true, laidLooks := .later }
def EvalListsUptoCardSaid : Prop := Claim7.holds Tryz.pinned (.plain (OpenSpec.upto evalListsSpec)) evalListsUptoCard

/-- THE SECOND FORM's CARD OF 'refuterlaw12.EvalFlips'. -/
def evalFlipsUptoCard : Claim7 := { stood := { row := evalFlipsUptoRow, standIns := [], harness := (true, "d25650f0cffee949eb912449aea1ed643ff1c5c28f62661d74f4a44b811d4dfb"), looks := true }, kinds := [], alts := [], laidByText := true, laidKinds := [.data, .data], laidTests := true, laidLooks := .later }
def EvalFlipsUptoCardSaid : Prop := Claim7.holds Tryz.pinned (.plain (OpenSpec.upto evalFlipsSpec)) evalFlipsUptoCard

/-- THE SECOND FORM's CARD OF 'refuterlaw12.EvalCalls'. -/
def evalCallsUptoCard : Claim7 := { stood := { row := evalCallsUptoRow, standIns := [], harness := (true, "d25650f0cffee949eb912449aea1ed643ff1c5c28f62661d74f4a44b811d4dfb"), looks := true }, kinds := [], alts := [], laidByText := true, laidKinds := [.data, .data], laidTests := true, laidLooks := .later }
def EvalCallsUptoCardSaid : Prop := Claim7.holds Tryz.pinned (.plain (OpenSpec.upto evalCallsSpec)) evalCallsUptoCard

/-- THE SECOND FORM's CARD OF 'refuterlaw12.EvalIntegers'. -/
def evalIntegersUptoCard : Claim7 := { stood := { row := evalIntegersUptoRow, standIns := [], harness := (true, "d25650f0cffee949eb912449aea1ed643ff1c5c28f62661d74f4a44b811d4dfb"), looks := true }, kinds := [], alts := [], laidByText := true, laidKinds := [.data, .data], laidTests := true, laidLooks := .later }
def EvalIntegersUptoCardSaid : Prop := Claim7.holds Tryz.pinned (.plain (OpenSpec.upto evalIntegersSpec)) evalIntegersUptoCard

/-- THE SECOND FORM's CARD OF 'refuterlaw12.EvalDeep'. -/
def evalDeepUptoCard : Claim7 := { stood := { row := evalDeepUptoRow, standIns := [], harness := (true, "d25650f0cffee949eb912449aea1ed643ff1c5c28f62661d74f4a44b811d4dfb"), looks := true }, kinds := [], alts := [], laidByText := true, laidKinds := [.data, .data], laidTests := true, laidLooks := .later }
def EvalDeepUptoCardSaid : Prop := Claim7.holds Tryz.pinned (.plain (OpenSpec.upto evalDeepSpec)) evalDeepUptoCard
end Rows
end Go.Proofs.YthhjnogfljegnaaGreatDoor
