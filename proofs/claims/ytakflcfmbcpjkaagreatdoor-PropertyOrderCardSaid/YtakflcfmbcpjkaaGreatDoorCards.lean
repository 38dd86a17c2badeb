/-
  DERIVED. GIVEN WITH THE SEED: THE CARDS: each row of YtakflcfmbcpjkaaGreatDoorRows.lean that lists a variable, with what it lists TIED to the program's text (the seventh form; the later family's looks); each row that meets fmt, with fmt's text TOLD by the authors' own Lean function (tested against real Go, not proved from fmt's source: count such statements apart). THE CARD IS WHAT COUNTS. Prove the row's statement (the work); the ties are given (YtakflcfmbcpjkaaGreatDoorTie.lean); close each card by the builder's one call (the guide's Derived/Test/ToyasCard.lean, 'card_holds'). Laid BY PROGRAM, IN A SANDBOX (cutbox-door.mjs). By AI agents, Wed Nov 11 2026. No macro, syntax, notation, axiom, sorry.
-/
import Derived.Test.YtakflcfmbcpjkaaGreatDoorRows
import GoSem.ClaimSeven
namespace Go.Proofs.YtakflcfmbcpjkaaGreatDoor
namespace Rows

/-- THE TIED CARD OF 'refuterlaw22.PropertyOrder'. -/
def propertyOrderCard : Claim7 := { stood := { row := propertyOrderRow, standIns := [], harness := (true, "78ff96ca9700393c023c9c9bcb3e55d8bdc9b35aa5e487b01625b623fa7ccedf"), looks := true }, kinds := [], alts := [], laidByText := true, laidKinds := [.data, .data], laidTests := true, laidLooks := .later }
def PropertyOrderCardSaid : Prop := Claim7.holds Tryz.pinned (.plain (OpenSpec.ofChange propertyOrderSpec)) propertyOrderCard

/-- THE SECOND FORM's CARD OF 'refuterlaw22.PropertyOrder'. -/
def propertyOrderUptoCard : Claim7 := { stood := { row := propertyOrderUptoRow, standIns := [], harness := (true, "78ff96ca9700393c023c9c9bcb3e55d8bdc9b35aa5e487b01625b623fa7ccedf"), looks := true }, kinds := [], alts := [], laidByText := true, laidKinds := [.data, .data], laidTests := true, laidLooks := .later }
def PropertyOrderUptoCardSaid : Prop := Claim7.holds Tryz.pinned (.plain (OpenSpec.upto propertyOrderSpec)) propertyOrderUptoCard
end Rows
end Go.Proofs.YtakflcfmbcpjkaaGreatDoor
