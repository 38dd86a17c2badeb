/-
  DERIVED. GIVEN WITH THE SEED: THE CARDS: each row of YtdghbgpolijpcaaGreatDoorRows.lean that lists a variable, with what it lists TIED to the program's text (the seventh form; the later family's looks); each row that meets fmt, with fmt's text TOLD by the authors' own Lean function (tested against real Go, not proved from fmt's source: count such statements apart). THE CARD IS WHAT COUNTS. Prove the row's statement (the work); the ties are given (YtdghbgpolijpcaaGreatDoorTie.lean); close each card by the builder's one call (the guide's Derived/Test/ToyasCard.lean, 'card_holds'). Laid BY PROGRAM, IN A SANDBOX (cutbox-door.mjs). By AI agents, Wed Nov 11 2026. No macro, syntax, notation, axiom, sorry.
-/
import Derived.Test.YtdghbgpolijpcaaGreatDoorRows
import GoSem.ClaimSeven
namespace Go.Proofs.YtdghbgpolijpcaaGreatDoor
namespace Rows

/-- THE TIED CARD OF 'refuterlaw13.BranchSets'. -/
def branchSetsCard : Claim7 := { stood := { row := branchSetsRow, standIns := [], harness := (true, "dee3fcd6560c97c13a8a2e3b7671ddefc622d7d324fce1e97149dbb018347407"), looks := true }, kinds := [], alts := [], laidByText := true, laidKinds := [.data, .data], laidTests := true, laidLooks := .later }
def BranchSetsCardSaid : Prop := Claim7.holds Tryz.pinned (.plain (OpenSpec.ofChange branchSetsSpec)) branchSetsCard

/-- THE TIED CARD OF 'refuterlaw13.BranchAlgebra'. -/
def branchAlgebraCard : Claim7 := { stood := { row := branchAlgebraRow, standIns := [], harness := (true, "dee3fcd6560c97c13a8a2e3b7671ddefc622d7d324fce1e97149dbb018347407"), looks := true }, kinds := [], alts := [], laidByText := true, laidKinds := [.data, .data], laidTests := true, laidLooks := .later }
def BranchAlgebraCardSaid : Prop := Claim7.holds Tryz.pinned (.plain (OpenSpec.ofChange branchAlgebraSpec)) branchAlgebraCard

/-- THE TIED CARD OF 'refuterlaw13.BranchBytes'. -/
def branchBytesCard : Claim7 := { stood := { row := branchBytesRow, standIns := [], harness := (true, "dee3fcd6560c97c13a8a2e3b7671ddefc622d7d324fce1e97149dbb018347407"), looks := true }, kinds := [], alts := [], laidByText := true, laidKinds := [.data, .data], laidTests := true, laidLooks := .later }
def BranchBytesCardSaid : Prop := Claim7.holds Tryz.pinned (.plain (OpenSpec.ofChange branchBytesSpec)) branchBytesCard

/-- THE SECOND FORM's CARD OF 'refuterlaw13.BranchSets'. -/
def branchSetsUptoCard : Claim7 := { stood := { row := branchSetsUptoRow, standIns := [], harness := (true, "dee3fcd6560c97c13a8a2e3b7671ddefc622d7d324fce1e97149dbb018347407"), looks := true }, kinds := [], alts := [], laidByText := true, laidKinds := [.data, .data], laidTests := true, laidLooks := .later }
def BranchSetsUptoCardSaid : Prop := Claim7.holds Tryz.pinned (.plain (OpenSpec.upto branchSetsSpec)) branchSetsUptoCard

/-- THE SECOND FORM's CARD OF 'refuterlaw13.BranchAlgebra'. -/
def branchAlgebraUptoCard : Claim7 := { stood := { row := branchAlgebraUptoRow, standIns := [], harness := (true, "dee3fcd6560c97c13a8a2e3b7671ddefc622d7d324fce1e97149dbb018347407"), looks := true }, kinds := [], alts := [], laidByText := true, laidKinds := [.data, .data], laidTests := true, laidLooks := .later }
def BranchAlgebraUptoCardSaid : Prop := Claim7.holds Tryz.pinned (.plain (OpenSpec.upto branchAlgebraSpec)) branchAlgebraUptoCard

/-- THE SECOND FORM's CARD OF 'refuterlaw13.BranchBytes'. -/
def branchBytesUptoCard : Claim7 := { stood := { row := branchBytesUptoRow, standIns := [], harness := (true, "dee3fcd6560c97c13a8a2e3b7671ddefc622d7d324fce1e97149dbb018347407"), looks := true }, kinds := [], alts := [], laidByText := true, laidKinds := [.data, .data], laidTests := true, laidLooks := .later }
def BranchBytesUptoCardSaid : Prop := Claim7.holds Tryz.pinned (.plain (OpenSpec.upto branchBytesSpec)) branchBytesUptoCard
end Rows
end Go.Proofs.YtdghbgpolijpcaaGreatDoor
