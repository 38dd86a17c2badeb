/-
  DERIVED. GIVEN WITH THE SEED: THE CARDS: each row of YtmdpbiocakjlkaaGreatDoorRows.lean that lists a variable, with what it lists TIED to the program's text (the seventh form; the later family's looks); each row that meets fmt, with fmt's text TOLD by the authors' own Lean function (tested against real Go, not proved from fmt's source: count such statements apart). THE CARD IS WHAT COUNTS. Prove the row's statement (the work); the ties are given (YtmdpbiocakjlkaaGreatDoorTie.lean); close each card by the builder's one call (the guide's Derived/Test/ToyasCard.lean, 'card_holds'). Laid BY PROGRAM, IN A SANDBOX (cutbox-door.mjs). By AI agents, Wed Nov 11 2026. No macro, syntax, notation, axiom, sorry.
-/
import Derived.Test.YtmdpbiocakjlkaaGreatDoorRows
import GoSem.ClaimSeven
namespace Go.Proofs.YtmdpbiocakjlkaaGreatDoor
namespace Rows

/-- THE TIED CARD OF 'refuterlaw13.BranchPairs'. -/
def branchPairsCard : Claim7 := { stood := { row := branchPairsRow, standIns := [], harness := (true, "2fffbcb02179eb85bbc685ba3396894e62340571fcdbceb503b181bd3b8cd58d"), looks := true }, kinds := [], alts := [], laidByText := true, laidKinds := [.data, .data], laidTests := true, laidLooks := .later }
def BranchPairsCardSaid : Prop := Claim7.holds Tryz.pinned (.plain (OpenSpec.ofChange branchPairsSpec)) branchPairsCard

/-- THE TIED CARD OF 'refuterlaw13.BranchLists'. -/
def branchListsCard : Claim7 := { stood := { row := branchListsRow, standIns := [], harness := (true, "2fffbcb02179eb85bbc685ba3396894e62340571fcdbceb503b181bd3b8cd58d"), looks := true }, kinds := [], alts := [], laidByText := true, laidKinds := [.data, .data], laidTests := true, laidLooks := .later }
def BranchListsCardSaid : Prop := Claim7.holds Tryz.pinned (.plain (OpenSpec.ofChange branchListsSpec)) branchListsCard

/-- THE TIED CARD OF 'refuterlaw13.BranchReach'. -/
def branchReachCard : Claim7 := { stood := { row := branchReachRow, standIns := [], harness := (true, "2fffbcb02179eb85bbc685ba3396894e62340571fcdbceb503b181bd3b8cd58d"), looks := true }, kinds := [], alts := [], laidByText := true, laidKinds := [.data, .data], laidTests := true, laidLooks := .later }
def BranchReachCardSaid : Prop := Claim7.holds Tryz.pinned (.plain (OpenSpec.ofChange branchReachSpec)) branchReachCard

/-- THE TIED CARD OF 'refuterlaw13.BranchGrows'. -/
def branchGrowsCard : Claim7 := { stood := { row := branchGrowsRow, standIns := [], harness := (true, "2fffbcb02179eb85bbc685ba3396894e62340571fcdbceb503b181bd3b8cd58d"), looks := true }, kinds := [], alts := [], laidByText := true, laidKinds := [.data, .data], laidTests := true, laidLooks := .later }
def BranchGrowsCardSaid : Prop := Claim7.holds Tryz.pinned (.plain (OpenSpec.ofChange branchGrowsSpec)) branchGrowsCard

/-- THE SECOND FORM's CARD OF 'refuterlaw13.BranchPairs'. -/
def branchPairsUptoCard : Claim7 := { stood := { row := branchPairsUptoRow, standIns := [], harness := (true, "2fffbcb02179eb85bbc685ba3396894e62340571fcdbceb503b181bd3b8cd58d"), looks := true }, kinds := [], alts := [], laidByText := true, laidKinds := [.data, .data], laidTests := true, laidLooks := .later }
def BranchPairsUptoCardSaid : Prop := Claim7.holds Tryz.pinned (.plain (OpenSpec.upto branchPairsSpec)) branchPairsUptoCard

/-- THE SECOND FORM's CARD OF 'refuterlaw13.BranchLists'. -/
def branchListsUptoCard : Claim7 := { stood := { row := branchListsUptoRow, standIns := [], harness := (true, "2fffbcb02179eb85bbc685ba3396894e62340571fcdbceb503b181bd3b8cd58d"), looks := true }, kinds := [], alts := [], laidByText := true, laidKinds := [.data, .data], laidTests := true, laidLooks := .later }
def BranchListsUptoCardSaid : Prop := Claim7.holds Tryz.pinned (.plain (OpenSpec.upto branchListsSpec)) branchListsUptoCard

/-- THE SECOND FORM's CARD OF 'refuterlaw13.BranchReach'. -/
def branchReachUptoCard : Claim7 := { stood := { row := branchReachUptoRow, standIns := [], harness := (true, "2fffbcb02179eb85bbc685ba3396894e62340571fcdbceb503b181bd3b8cd58d"), looks := true }, kinds := [], alts := [], laidByText := true, laidKinds := [.data, .data], laidTests := true, laidLooks := .later }
def BranchReachUptoCardSaid : Prop := Claim7.holds Tryz.pinned (.plain (OpenSpec.upto branchReachSpec)) branchReachUptoCard

/-- THE SECOND FORM's CARD OF 'refuterlaw13.BranchGrows'. -/
def branchGrowsUptoCard : Claim7 := { stood := { row := branchGrowsUptoRow, standIns := [], harness := (true, "2fffbcb02179eb85bbc685ba3396894e62340571fcdbceb503b181bd3b8cd58d"), looks := true }, kinds := [], alts := [], laidByText := true, laidKinds := [.data, .data], laidTests := true, laidLooks := .later }
def BranchGrowsUptoCardSaid : Prop := Claim7.holds Tryz.pinned (.plain (OpenSpec.upto branchGrowsSpec)) branchGrowsUptoCard
end Rows
end Go.Proofs.YtmdpbiocakjlkaaGreatDoor
