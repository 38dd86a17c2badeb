/-
  NARROWER THAN 'FOR EVERY INPUT', by the rows' own cells (each row's printed sentence says how): BranchPairs: laid · BranchLists: laid · BranchReach: laid · BranchGrows: laid.
  DERIVED. THE GIVEN ROWS OF THIS SEAT. 4 by the template 'for every input the law returns true; each argument reads behind the call as it read before'; 0 by the template 'total and deterministic' (their statements: YtmdpbiocakjlkaaGreatDoorTotals.lean).
  GIVEN WITH THE SEED: the statements are not yours to turn. If you find one false, say at which input.
  Laid BY PROGRAM, IN A SANDBOX (cutbox-rows.mjs): the forced cells as the released guide's own fill.sh prints them over the translation 8b71192e1987663d… (all of the seat's roots in one cut). By AI agents, Wed Nov 11 2026. No macro, syntax, notation, axiom, sorry.
-/
import Derived.Test.YtmdpbiocakjlkaaGreatDoorChecked
import GoSem.Claim
import GoSem.ClaimJoined
import GoSem.ClaimMapViews
import Derived.JoinedTies
import Derived.KernelRfl
namespace Go.Proofs.YtmdpbiocakjlkaaGreatDoor
/- THE CELL 'sum', in the pinned program and in every row, IS THE sha256 OF THE DUMP (.gsa) THAT YtmdpbiocakjlkaaGreatDoorProg.lean LOADS. Nothing in Lean hashes anything: it is a label: what it is worth is what the hold of that sum in a sandbox is worth. -/
noncomputable def Tryz.pinned : Pinned := { name := "ytmdpbiocakjlkaagreatdoor", sum := "8b71192e1987663d7e1f113a50bc0eff62e4d45ab609277d4dfbbdb8aaacf526", checked := Tryz.checked }
namespace Rows
def none {H : Type} : Left H := { results := [], args := [] }

/- WHAT THE LISTED PACKAGE-LEVEL VARIABLES READ AS WHEN THE CALL BEGINS. Each datum BY PROGRAM (the guide's laid-datum.mjs) off the statement by which the dump's own 'gosem.cut.vars' lays the variable. In a bare row this is a premise. The card (YtmdpbiocakjlkaaGreatDoorCards.lean) ties it to the program's text. -/
def laid_refuter_lexer_symbols {H : Type} : DataW H := .agg [.lit (.string [45, 62]), .lit (.string [60, 45]), .lit (.string [60, 61]), .lit (.string [61, 61]), .lit (.string [33, 61]), .lit (.string [46, 46]), .lit (.string [40]), .lit (.string [41]), .lit (.string [91]), .lit (.string [93]), .lit (.string [123]), .lit (.string [125]), .lit (.string [44]), .lit (.string [59]), .lit (.string [58]), .lit (.string [61]), .lit (.string [60]), .lit (.string [43]), .lit (.string [45]), .lit (.string [42]), .lit (.string [47]), .lit (.string [124])]
def laid_refuter_parser_reserved {H : Type} : DataW H := .agg [.lit (.string [97, 110, 100]), .lit (.string [98, 111, 111, 108]), .lit (.string [99, 104, 101, 99, 107]), .lit (.string [99, 108, 97, 105, 109]), .lit (.string [99, 108, 97, 115, 115]), .lit (.string [99, 111, 109, 109, 97, 110, 100]), .lit (.string [101, 108, 115, 101]), .lit (.string [102, 97, 108, 115, 101]), .lit (.string [102, 117, 110]), .lit (.string [103, 101, 110]), .lit (.string [105, 102]), .lit (.string [105, 110]), .lit (.string [105, 110, 116]), .lit (.string [108, 101, 116]), .lit (.string [108, 105, 115, 116]), .lit (.string [109, 97, 107, 101]), .lit (.string [109, 97, 116, 99, 104]), .lit (.string [109, 111, 100, 101, 108]), .lit (.string [110, 101, 120, 116]), .lit (.string [110, 111, 116]), .lit (.string [111, 102]), .lit (.string [111, 110, 101]), .lit (.string [111, 112]), .lit (.string [111, 114]), .lit (.string [112, 105, 99, 107]), .lit (.string [112, 111, 115, 116]), .lit (.string [112, 114, 101]), .lit (.string [112, 114, 111, 112]), .lit (.string [114, 101, 99, 111, 118, 101, 114]), .lit (.string [114, 101, 115, 117, 108, 116]), .lit (.string [114, 101, 116, 117, 114, 110]), .lit (.string [115, 116, 101, 112]), .lit (.string [115, 121, 115, 116, 101, 109]), .lit (.string [116, 104, 101, 110]), .lit (.string [116, 114, 117, 101]), .lit (.string [116, 121, 112, 101]), .lit (.string [119, 104, 101, 114, 101])]

/-- 'refuterlaw13.BranchPairs': WHATEVER THE INPUT: true; the input reads as it did. -/
def branchPairsSpec : ChangeSpec := { name := "branchPairs", fn := fun _ => fun
  | [d1, d2] => { results := [.lit (.bool true)], args := [d1, d2] }
  | _ => none }
def branchPairsRow : OpenClaim := { program := "ytmdpbiocakjlkaagreatdoor", sum := "8b71192e1987663d7e1f113a50bc0eff62e4d45ab609277d4dfbbdb8aaacf526", func := "refuter/refuterlaw13.BranchPairs", spec := "branchPairs", unfollowed := true, recurses := true, named := ["refuter/lexer.symbols", "refuter/parser.reserved"], plainKeys := false, apart := false, laid := [("refuter/lexer.symbols", laid_refuter_lexer_symbols), ("refuter/parser.reserved", laid_refuter_parser_reserved)] }
def BranchPairsSaid : Prop := branchPairsRow.holds Tryz.pinned (OpenSpec.ofChange branchPairsSpec)

/-- ITS FALSE NEIGHBOUR: 'it returns false'. Refute it at one input. -/
def branchPairsWrong : ChangeSpec := { name := "branchPairs", fn := fun _ => fun
  | [d1, d2] => { results := [.lit (.bool false)], args := [d1, d2] }
  | _ => none }
def BranchPairsWrongFalsely : Prop := branchPairsRow.holds Tryz.pinned (OpenSpec.ofChange branchPairsWrong)

/-- 'refuterlaw13.BranchLists': WHATEVER THE INPUT: true; the input reads as it did. -/
def branchListsSpec : ChangeSpec := { name := "branchLists", fn := fun _ => fun
  | [d1, d2] => { results := [.lit (.bool true)], args := [d1, d2] }
  | _ => none }
def branchListsRow : OpenClaim := { program := "ytmdpbiocakjlkaagreatdoor", sum := "8b71192e1987663d7e1f113a50bc0eff62e4d45ab609277d4dfbbdb8aaacf526", func := "refuter/refuterlaw13.BranchLists", spec := "branchLists", unfollowed := true, recurses := true, named := ["refuter/lexer.symbols", "refuter/parser.reserved"], plainKeys := false, apart := false, laid := [("refuter/lexer.symbols", laid_refuter_lexer_symbols), ("refuter/parser.reserved", laid_refuter_parser_reserved)] }
def BranchListsSaid : Prop := branchListsRow.holds Tryz.pinned (OpenSpec.ofChange branchListsSpec)

/-- ITS FALSE NEIGHBOUR: 'it returns false'. Refute it at one input. -/
def branchListsWrong : ChangeSpec := { name := "branchLists", fn := fun _ => fun
  | [d1, d2] => { results := [.lit (.bool false)], args := [d1, d2] }
  | _ => none }
def BranchListsWrongFalsely : Prop := branchListsRow.holds Tryz.pinned (OpenSpec.ofChange branchListsWrong)

/-- 'refuterlaw13.BranchReach': WHATEVER THE INPUT: true; the input reads as it did. -/
def branchReachSpec : ChangeSpec := { name := "branchReach", fn := fun _ => fun
  | [d1, d2, d3] => { results := [.lit (.bool true)], args := [d1, d2, d3] }
  | _ => none }
def branchReachRow : OpenClaim := { program := "ytmdpbiocakjlkaagreatdoor", sum := "8b71192e1987663d7e1f113a50bc0eff62e4d45ab609277d4dfbbdb8aaacf526", func := "refuter/refuterlaw13.BranchReach", spec := "branchReach", unfollowed := true, recurses := true, named := ["refuter/lexer.symbols", "refuter/parser.reserved"], plainKeys := false, apart := false, laid := [("refuter/lexer.symbols", laid_refuter_lexer_symbols), ("refuter/parser.reserved", laid_refuter_parser_reserved)] }
def BranchReachSaid : Prop := branchReachRow.holds Tryz.pinned (OpenSpec.ofChange branchReachSpec)

/-- ITS FALSE NEIGHBOUR: 'it returns false'. Refute it at one input. -/
def branchReachWrong : ChangeSpec := { name := "branchReach", fn := fun _ => fun
  | [d1, d2, d3] => { results := [.lit (.bool false)], args := [d1, d2, d3] }
  | _ => none }
def BranchReachWrongFalsely : Prop := branchReachRow.holds Tryz.pinned (OpenSpec.ofChange branchReachWrong)

/-- 'refuterlaw13.BranchGrows': WHATEVER THE INPUT: true; the input reads as it did. -/
def branchGrowsSpec : ChangeSpec := { name := "branchGrows", fn := fun _ => fun
  | [d1, d2] => { results := [.lit (.bool true)], args := [d1, d2] }
  | _ => none }
def branchGrowsRow : OpenClaim := { program := "ytmdpbiocakjlkaagreatdoor", sum := "8b71192e1987663d7e1f113a50bc0eff62e4d45ab609277d4dfbbdb8aaacf526", func := "refuter/refuterlaw13.BranchGrows", spec := "branchGrows", unfollowed := true, recurses := true, named := ["refuter/lexer.symbols", "refuter/parser.reserved"], plainKeys := false, apart := false, laid := [("refuter/lexer.symbols", laid_refuter_lexer_symbols), ("refuter/parser.reserved", laid_refuter_parser_reserved)] }
def BranchGrowsSaid : Prop := branchGrowsRow.holds Tryz.pinned (OpenSpec.ofChange branchGrowsSpec)

/-- ITS FALSE NEIGHBOUR: 'it returns false'. Refute it at one input. -/
def branchGrowsWrong : ChangeSpec := { name := "branchGrows", fn := fun _ => fun
  | [d1, d2] => { results := [.lit (.bool false)], args := [d1, d2] }
  | _ => none }
def BranchGrowsWrongFalsely : Prop := branchGrowsRow.holds Tryz.pinned (OpenSpec.ofChange branchGrowsWrong)

/- THE SECOND FORM. 'bulk': how many values and letters a reading holds, each counted each time it is reached (what is shared counts as often as it is met; a slice's spare places count too). A statement '..UptoSaid' is the law's where the arguments, and the package variables that the reading takes, are together of bulk at most 1048576: NARROWER than '..Said'. Prove '..Said' where nothing that the law and all that it calls make is longer than what came in: it says more and counts as full. Else prove '..UptoSaid'. A law counts once. -/
mutual
def uptoBulk {H : Type} : DataW H → Nat
  | .lit (.string bytes) => bytes.length + 1
  | .lit _ => 1
  | .nil => 1
  | .ptr d => uptoBulk d + 1
  | .slice elems spare => uptoBulkAll elems + uptoBulkAll spare + 1
  | .agg parts => uptoBulkAll parts + 1
  | .iface _ d => uptoBulk d + 1
  | .map entries => uptoBulkEntries entries + 1
  | .held _ => 1
def uptoBulkAll {H : Type} : List (DataW H) → Nat
  | [] => 0
  | d :: r => uptoBulk d + uptoBulkAll r
def uptoBulkEntries {H : Type} : List (Lit × DataW H) → Nat
  | [] => 0
  | x :: r => uptoBulkEntry x + uptoBulkEntries r
def uptoBulkEntry {H : Type} : Lit × DataW H → Nat
  | (.string bytes, d) => bytes.length + uptoBulk d + 1
  | (_, d) => uptoBulk d + 1
 end
def uptoSmall : (H : Type) → List (DataW H) → Bool := fun _ ds => decide (uptoBulkAll ds ≤ 1048576)
def OpenSpec.upto (s : _root_.Go.ChangeSpec) : _root_.Go.OpenSpec := { _root_.Go.OpenSpec.ofChange s with cond := some uptoSmall }

/-- 'refuterlaw13.BranchPairs', WHERE WHAT IT READS IS OF BULK AT MOST 1048576: true; the input reads as it did. -/
def branchPairsUptoRow : OpenClaim := { program := "ytmdpbiocakjlkaagreatdoor", sum := "8b71192e1987663d7e1f113a50bc0eff62e4d45ab609277d4dfbbdb8aaacf526", func := "refuter/refuterlaw13.BranchPairs", spec := "branchPairs", unfollowed := true, recurses := true, named := ["refuter/lexer.symbols", "refuter/parser.reserved"], plainKeys := false, apart := false, laid := [("refuter/lexer.symbols", laid_refuter_lexer_symbols), ("refuter/parser.reserved", laid_refuter_parser_reserved)], narrowed := true }
def BranchPairsUptoSaid : Prop := branchPairsUptoRow.holds Tryz.pinned (OpenSpec.upto branchPairsSpec)

/-- 'refuterlaw13.BranchLists', WHERE WHAT IT READS IS OF BULK AT MOST 1048576: true; the input reads as it did. -/
def branchListsUptoRow : OpenClaim := { program := "ytmdpbiocakjlkaagreatdoor", sum := "8b71192e1987663d7e1f113a50bc0eff62e4d45ab609277d4dfbbdb8aaacf526", func := "refuter/refuterlaw13.BranchLists", spec := "branchLists", unfollowed := true, recurses := true, named := ["refuter/lexer.symbols", "refuter/parser.reserved"], plainKeys := false, apart := false, laid := [("refuter/lexer.symbols", laid_refuter_lexer_symbols), ("refuter/parser.reserved", laid_refuter_parser_reserved)], narrowed := true }
def BranchListsUptoSaid : Prop := branchListsUptoRow.holds Tryz.pinned (OpenSpec.upto branchListsSpec)

/-- 'refuterlaw13.BranchReach', WHERE WHAT IT READS IS OF BULK AT MOST 1048576: true; the input reads as it did. -/
def branchReachUptoRow : OpenClaim := { program := "ytmdpbiocakjlkaagreatdoor", sum := "8b71192e1987663d7e1f113a50bc0eff62e4d45ab609277d4dfbbdb8aaacf526", func := "refuter/refuterlaw13.BranchReach", spec := "branchReach", unfollowed := true, recurses := true, named := ["refuter/lexer.symbols", "refuter/parser.reserved"], plainKeys := false, apart := false, laid := [("refuter/lexer.symbols", laid_refuter_lexer_symbols), ("refuter/parser.reserved", laid_refuter_parser_reserved)], narrowed := true }
def BranchReachUptoSaid : Prop := branchReachUptoRow.holds Tryz.pinned (OpenSpec.upto branchReachSpec)

/-- 'refuterlaw13.BranchGrows', WHERE WHAT IT READS IS OF BULK AT MOST 1048576: true; the input reads as it did. -/
def branchGrowsUptoRow : OpenClaim := { program := "ytmdpbiocakjlkaagreatdoor", sum := "8b71192e1987663d7e1f113a50bc0eff62e4d45ab609277d4dfbbdb8aaacf526", func := "refuter/refuterlaw13.BranchGrows", spec := "branchGrows", unfollowed := true, recurses := true, named := ["refuter/lexer.symbols", "refuter/parser.reserved"], plainKeys := false, apart := false, laid := [("refuter/lexer.symbols", laid_refuter_lexer_symbols), ("refuter/parser.reserved", laid_refuter_parser_reserved)], narrowed := true }
def BranchGrowsUptoSaid : Prop := branchGrowsUptoRow.holds Tryz.pinned (OpenSpec.upto branchGrowsSpec)

end Rows
end Go.Proofs.YtmdpbiocakjlkaaGreatDoor
