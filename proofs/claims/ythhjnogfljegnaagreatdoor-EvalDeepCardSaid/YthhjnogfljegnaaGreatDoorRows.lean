/-
  NARROWER THAN 'FOR EVERY INPUT', by the rows' own cells (each row's printed sentence says how): EvalExprs: laid · EvalAny: laid · EvalFuel: laid · EvalLists: laid · EvalFlips: laid · EvalCalls: laid · EvalIntegers: laid · EvalDeep: laid.
  DERIVED. THE GIVEN ROWS OF THIS SEAT. 8 by the template 'for every input the law returns true; each argument reads behind the call as it read before'; 0 by the template 'total and deterministic' (their statements: YthhjnogfljegnaaGreatDoorTotals.lean).
  GIVEN WITH THE SEED: the statements are not yours to turn. If you find one false, say at which input.
  Laid BY PROGRAM, IN A SANDBOX (cutbox-rows.mjs): the forced cells as the released guide's own fill.sh prints them over the translation 8b849fff39dc7bcf… (all of the seat's roots in one cut). By AI agents, Wed Nov 11 2026. No macro, syntax, notation, axiom, sorry.
-/
import Derived.Test.YthhjnogfljegnaaGreatDoorChecked
import GoSem.Claim
import GoSem.ClaimJoined
import GoSem.ClaimMapViews
import Derived.JoinedTies
import Derived.KernelRfl
namespace Go.Proofs.YthhjnogfljegnaaGreatDoor
/- THE CELL 'sum', in the pinned program and in every row, IS THE sha256 OF THE DUMP (.gsa) THAT YthhjnogfljegnaaGreatDoorProg.lean LOADS. Nothing in Lean hashes anything: it is a label: what it is worth is what the hold of that sum in a sandbox is worth. -/
noncomputable def Tryz.pinned : Pinned := { name := "ythhjnogfljegnaagreatdoor", sum := "8b849fff39dc7bcf81d136eac623bc279bdc76dbff44a5d5f7914f13537fce90", checked := Tryz.checked }
namespace Rows
def none {H : Type} : Left H := { results := [], args := [] }

/- WHAT THE LISTED PACKAGE-LEVEL VARIABLES READ AS WHEN THE CALL BEGINS. Each datum BY PROGRAM (the guide's laid-datum.mjs) off the statement by which the dump's own 'gosem.cut.vars' lays the variable. In a bare row this is a premise. The card (YthhjnogfljegnaaGreatDoorCards.lean) ties it to the program's text. -/
def laid_refuter_lexer_symbols {H : Type} : DataW H := .agg [.lit (.string [45, 62]), .lit (.string [60, 45]), .lit (.string [60, 61]), .lit (.string [61, 61]), .lit (.string [33, 61]), .lit (.string [46, 46]), .lit (.string [40]), .lit (.string [41]), .lit (.string [91]), .lit (.string [93]), .lit (.string [123]), .lit (.string [125]), .lit (.string [44]), .lit (.string [59]), .lit (.string [58]), .lit (.string [61]), .lit (.string [60]), .lit (.string [43]), .lit (.string [45]), .lit (.string [42]), .lit (.string [47]), .lit (.string [124])]
def laid_refuter_parser_reserved {H : Type} : DataW H := .agg [.lit (.string [97, 110, 100]), .lit (.string [98, 111, 111, 108]), .lit (.string [99, 104, 101, 99, 107]), .lit (.string [99, 108, 97, 105, 109]), .lit (.string [99, 108, 97, 115, 115]), .lit (.string [99, 111, 109, 109, 97, 110, 100]), .lit (.string [101, 108, 115, 101]), .lit (.string [102, 97, 108, 115, 101]), .lit (.string [102, 117, 110]), .lit (.string [103, 101, 110]), .lit (.string [105, 102]), .lit (.string [105, 110]), .lit (.string [105, 110, 116]), .lit (.string [108, 101, 116]), .lit (.string [108, 105, 115, 116]), .lit (.string [109, 97, 107, 101]), .lit (.string [109, 97, 116, 99, 104]), .lit (.string [109, 111, 100, 101, 108]), .lit (.string [110, 101, 120, 116]), .lit (.string [110, 111, 116]), .lit (.string [111, 102]), .lit (.string [111, 110, 101]), .lit (.string [111, 112]), .lit (.string [111, 114]), .lit (.string [112, 105, 99, 107]), .lit (.string [112, 111, 115, 116]), .lit (.string [112, 114, 101]), .lit (.string [112, 114, 111, 112]), .lit (.string [114, 101, 99, 111, 118, 101, 114]), .lit (.string [114, 101, 115, 117, 108, 116]), .lit (.string [114, 101, 116, 117, 114, 110]), .lit (.string [115, 116, 101, 112]), .lit (.string [115, 121, 115, 116, 101, 109]), .lit (.string [116, 104, 101, 110]), .lit (.string [116, 114, 117, 101]), .lit (.string [116, 121, 112, 101]), .lit (.string [119, 104, 101, 114, 101])]

/-- 'refuterlaw12.EvalExprs': WHATEVER THE INPUT: true; the input reads as it did. -/
def evalExprsSpec : ChangeSpec := { name := "evalExprs", fn := fun _ => fun
  | [d1, d2, d3, d4, d5, d6, d7] => { results := [.lit (.bool true)], args := [d1, d2, d3, d4, d5, d6, d7] }
  | _ => none }
def evalExprsRow : OpenClaim := { program := "ythhjnogfljegnaagreatdoor", sum := "8b849fff39dc7bcf81d136eac623bc279bdc76dbff44a5d5f7914f13537fce90", func := "refuter/refuterlaw12.EvalExprs", spec := "evalExprs", unfollowed := true, recurses := true, named := ["refuter/lexer.symbols", "refuter/parser.reserved"], apart := false, laid := [("refuter/lexer.symbols", laid_refuter_lexer_symbols), ("refuter/parser.reserved", laid_refuter_parser_reserved)] }
def EvalExprsSaid : Prop := evalExprsRow.holds Tryz.pinned (OpenSpec.ofChange evalExprsSpec)

/-- ITS FALSE NEIGHBOUR: 'it returns false'. Refute it at one input. -/
def evalExprsWrong : ChangeSpec := { name := "evalExprs", fn := fun _ => fun
  | [d1, d2, d3, d4, d5, d6, d7] => { results := [.lit (.bool false)], args := [d1, d2, d3, d4, d5, d6, d7] }
  | _ => none }
def EvalExprsWrongFalsely : Prop := evalExprsRow.holds Tryz.pinned (OpenSpec.ofChange evalExprsWrong)

/-- 'refuterlaw12.EvalAny': WHATEVER THE INPUT: true; the input reads as it did. -/
def evalAnySpec : ChangeSpec := { name := "evalAny", fn := fun _ => fun
  | [d1, d2, d3, d4, d5] => { results := [.lit (.bool true)], args := [d1, d2, d3, d4, d5] }
  | _ => none }
def evalAnyRow : OpenClaim := { program := "ythhjnogfljegnaagreatdoor", sum := "8b849fff39dc7bcf81d136eac623bc279bdc76dbff44a5d5f7914f13537fce90", func := "refuter/refuterlaw12.EvalAny", spec := "evalAny", unfollowed := true, recurses := true, named := ["refuter/lexer.symbols", "refuter/parser.reserved"], apart := false, laid := [("refuter/lexer.symbols", laid_refuter_lexer_symbols), ("refuter/parser.reserved", laid_refuter_parser_reserved)] }
def EvalAnySaid : Prop := evalAnyRow.holds Tryz.pinned (OpenSpec.ofChange evalAnySpec)

/-- ITS FALSE NEIGHBOUR: 'it returns false'. Refute it at one input. -/
def evalAnyWrong : ChangeSpec := { name := "evalAny", fn := fun _ => fun
  | [d1, d2, d3, d4, d5] => { results := [.lit (.bool false)], args := [d1, d2, d3, d4, d5] }
  | _ => none }
def EvalAnyWrongFalsely : Prop := evalAnyRow.holds Tryz.pinned (OpenSpec.ofChange evalAnyWrong)

/-- 'refuterlaw12.EvalFuel': WHATEVER THE INPUT: true; the input reads as it did. -/
def evalFuelSpec : ChangeSpec := { name := "evalFuel", fn := fun _ => fun
  | [d1, d2, d3, d4] => { results := [.lit (.bool true)], args := [d1, d2, d3, d4] }
  | _ => none }
def evalFuelRow : OpenClaim := { program := "ythhjnogfljegnaagreatdoor", sum := "8b849fff39dc7bcf81d136eac623bc279bdc76dbff44a5d5f7914f13537fce90", func := "refuter/refuterlaw12.EvalFuel", spec := "evalFuel", unfollowed := true, recurses := true, named := ["refuter/lexer.symbols", "refuter/parser.reserved"], apart := false, laid := [("refuter/lexer.symbols", laid_refuter_lexer_symbols), ("refuter/parser.reserved", laid_refuter_parser_reserved)] }
def EvalFuelSaid : Prop := evalFuelRow.holds Tryz.pinned (OpenSpec.ofChange evalFuelSpec)

/-- ITS FALSE NEIGHBOUR: 'it returns false'. Refute it at one input. -/
def evalFuelWrong : ChangeSpec := { name := "evalFuel", fn := fun _ => fun
  | [d1, d2, d3, d4] => { results := [.lit (.bool false)], args := [d1, d2, d3, d4] }
  | _ => none }
def EvalFuelWrongFalsely : Prop := evalFuelRow.holds Tryz.pinned (OpenSpec.ofChange evalFuelWrong)

/-- 'refuterlaw12.EvalLists': WHATEVER THE INPUT: true; the input reads as it did. -/
def evalListsSpec : ChangeSpec := { name := "evalLists", fn := fun _ => fun
  | [d1, d2, d3] => { results := [.lit (.bool true)], args := [d1, d2, d3] }
  | _ => none }
def evalListsRow : OpenClaim := { program := "ythhjnogfljegnaagreatdoor", sum := "8b849fff39dc7bcf81d136eac623bc279bdc76dbff44a5d5f7914f13537fce90", func := "refuter/refuterlaw12.EvalLists", spec := "evalLists", unfollowed := true, recurses := true, named := ["refuter/lexer.symbols", "refuter/parser.reserved"], apart := false, laid := [("refuter/lexer.symbols", laid_refuter_lexer_symbols), ("refuter/parser.reserved", laid_refuter_parser_reserved)] }
def EvalListsSaid : Prop := evalListsRow.holds Tryz.pinned (OpenSpec.ofChange evalListsSpec)

/-- ITS FALSE NEIGHBOUR: 'it returns false'. Refute it at one input. -/
def evalListsWrong : ChangeSpec := { name := "evalLists", fn := fun _ => fun
  | [d1, d2, d3] => { results := [.lit (.bool false)], args := [d1, d2, d3] }
  | _ => none }
def EvalListsWrongFalsely : Prop := evalListsRow.holds Tryz.pinned (OpenSpec.ofChange evalListsWrong)

/-- 'refuterlaw12.EvalFlips': WHATEVER THE INPUT: true; the input reads as it did. -/
def evalFlipsSpec : ChangeSpec := { name := "evalFlips", fn := fun _ => fun
  | [d1, d2, d3, d4, d5, d6, d7] => { results := [.lit (.bool true)], args := [d1, d2, d3, d4, d5, d6, d7] }
  | _ => none }
def evalFlipsRow : OpenClaim := { program := "ythhjnogfljegnaagreatdoor", sum := "8b849fff39dc7bcf81d136eac623bc279bdc76dbff44a5d5f7914f13537fce90", func := "refuter/refuterlaw12.EvalFlips", spec := "evalFlips", unfollowed := true, recurses := true, named := ["refuter/lexer.symbols", "refuter/parser.reserved"], apart := false, laid := [("refuter/lexer.symbols", laid_refuter_lexer_symbols), ("refuter/parser.reserved", laid_refuter_parser_reserved)] }
def EvalFlipsSaid : Prop := evalFlipsRow.holds Tryz.pinned (OpenSpec.ofChange evalFlipsSpec)

/-- ITS FALSE NEIGHBOUR: 'it returns false'. Refute it at one input. -/
def evalFlipsWrong : ChangeSpec := { name := "evalFlips", fn := fun _ => fun
  | [d1, d2, d3, d4, d5, d6, d7] => { results := [.lit (.bool false)], args := [d1, d2, d3, d4, d5, d6, d7] }
  | _ => none }
def EvalFlipsWrongFalsely : Prop := evalFlipsRow.holds Tryz.pinned (OpenSpec.ofChange evalFlipsWrong)

/-- 'refuterlaw12.EvalCalls': WHATEVER THE INPUT: true; the input reads as it did. -/
def evalCallsSpec : ChangeSpec := { name := "evalCalls", fn := fun _ => fun
  | [d1, d2, d3, d4, d5] => { results := [.lit (.bool true)], args := [d1, d2, d3, d4, d5] }
  | _ => none }
def evalCallsRow : OpenClaim := { program := "ythhjnogfljegnaagreatdoor", sum := "8b849fff39dc7bcf81d136eac623bc279bdc76dbff44a5d5f7914f13537fce90", func := "refuter/refuterlaw12.EvalCalls", spec := "evalCalls", unfollowed := true, recurses := true, named := ["refuter/lexer.symbols", "refuter/parser.reserved"], apart := false, laid := [("refuter/lexer.symbols", laid_refuter_lexer_symbols), ("refuter/parser.reserved", laid_refuter_parser_reserved)] }
def EvalCallsSaid : Prop := evalCallsRow.holds Tryz.pinned (OpenSpec.ofChange evalCallsSpec)

/-- ITS FALSE NEIGHBOUR: 'it returns false'. Refute it at one input. -/
def evalCallsWrong : ChangeSpec := { name := "evalCalls", fn := fun _ => fun
  | [d1, d2, d3, d4, d5] => { results := [.lit (.bool false)], args := [d1, d2, d3, d4, d5] }
  | _ => none }
def EvalCallsWrongFalsely : Prop := evalCallsRow.holds Tryz.pinned (OpenSpec.ofChange evalCallsWrong)

/-- 'refuterlaw12.EvalIntegers': WHATEVER THE INPUT: true; the input reads as it did. -/
def evalIntegersSpec : ChangeSpec := { name := "evalIntegers", fn := fun _ => fun
  | [d1, d2, d3] => { results := [.lit (.bool true)], args := [d1, d2, d3] }
  | _ => none }
def evalIntegersRow : OpenClaim := { program := "ythhjnogfljegnaagreatdoor", sum := "8b849fff39dc7bcf81d136eac623bc279bdc76dbff44a5d5f7914f13537fce90", func := "refuter/refuterlaw12.EvalIntegers", spec := "evalIntegers", unfollowed := true, recurses := true, named := ["refuter/lexer.symbols", "refuter/parser.reserved"], apart := false, laid := [("refuter/lexer.symbols", laid_refuter_lexer_symbols), ("refuter/parser.reserved", laid_refuter_parser_reserved)] }
def EvalIntegersSaid : Prop := evalIntegersRow.holds Tryz.pinned (OpenSpec.ofChange evalIntegersSpec)

/-- ITS FALSE NEIGHBOUR: 'it returns false'. Refute it at one input. -/
def evalIntegersWrong : ChangeSpec := { name := "evalIntegers", fn := fun _ => fun
  | [d1, d2, d3] => { results := [.lit (.bool false)], args := [d1, d2, d3] }
  | _ => none }
def EvalIntegersWrongFalsely : Prop := evalIntegersRow.holds Tryz.pinned (OpenSpec.ofChange evalIntegersWrong)

/-- 'refuterlaw12.EvalDeep': WHATEVER THE INPUT: true; the input reads as it did. -/
def evalDeepSpec : ChangeSpec := { name := "evalDeep", fn := fun _ => fun
  | [d1, d2] => { results := [.lit (.bool true)], args := [d1, d2] }
  | _ => none }
def evalDeepRow : OpenClaim := { program := "ythhjnogfljegnaagreatdoor", sum := "8b849fff39dc7bcf81d136eac623bc279bdc76dbff44a5d5f7914f13537fce90", func := "refuter/refuterlaw12.EvalDeep", spec := "evalDeep", unfollowed := true, recurses := true, named := ["refuter/lexer.symbols", "refuter/parser.reserved"], apart := false, laid := [("refuter/lexer.symbols", laid_refuter_lexer_symbols), ("refuter/parser.reserved", laid_refuter_parser_reserved)] }
def EvalDeepSaid : Prop := evalDeepRow.holds Tryz.pinned (OpenSpec.ofChange evalDeepSpec)

/-- ITS FALSE NEIGHBOUR: 'it returns false'. Refute it at one input. -/
def evalDeepWrong : ChangeSpec := { name := "evalDeep", fn := fun _ => fun
  | [d1, d2] => { results := [.lit (.bool false)], args := [d1, d2] }
  | _ => none }
def EvalDeepWrongFalsely : Prop := evalDeepRow.holds Tryz.pinned (OpenSpec.ofChange evalDeepWrong)

/- THE SECOND FORM. 'bulk': how many values and letters a reading holds, each counted each time it is reached (what is shared counts as often as it is met; a slice's spare places count too). A statement '..UptoSaid' is the law's where the arguments, and the package variables that the reading takes, are together of bulk at most 1048576: NARROWER than '..Said'. Prove '..Said' where nothing that the law and all that it calls make is longer than what came in: it says more and counts as full. Else prove '..UptoSaid'. A law counts once. -/
mutual
def uptoBulk {H : Type} : DataW H → Nat
  | .lit (.string bytes) => bytes.length + 1
  | .lit _ => 1
  | .nil => 1
  | .ptr d => uptoBulk d + 1
  | .slice elems spare => uptoBulkAll elems + uptoBulkAll spare + 1
  | .agg parts => uptoBulkAll parts + 1
  | .iface _ d => uptoBulk d + 1
  | .map entries => uptoBulkEntries entries + 1
  | .held _ => 1
def uptoBulkAll {H : Type} : List (DataW H) → Nat
  | [] => 0
  | d :: r => uptoBulk d + uptoBulkAll r
def uptoBulkEntries {H : Type} : List (Lit × DataW H) → Nat
  | [] => 0
  | x :: r => uptoBulkEntry x + uptoBulkEntries r
def uptoBulkEntry {H : Type} : Lit × DataW H → Nat
  | (.string bytes, d) => bytes.length + uptoBulk d + 1
  | (_, d) => uptoBulk d + 1
 end
def uptoSmall : (H : Type) → List (DataW H) → Bool := fun _ ds => decide (uptoBulkAll ds ≤ 1048576)
def OpenSpec.upto (s : _root_.Go.ChangeSpec) : _root_.Go.OpenSpec := { _root_.Go.OpenSpec.ofChange s with cond := some uptoSmall }

/-- 'refuterlaw12.EvalExprs', WHERE WHAT IT READS IS OF BULK AT MOST 1048576: true; the input reads as it did. -/
def evalExprsUptoRow : OpenClaim := { program := "ythhjnogfljegnaagreatdoor", sum := "8b849fff39dc7bcf81d136eac623bc279bdc76dbff44a5d5f7914f13537fce90", func := "refuter/refuterlaw12.EvalExprs", spec := "evalExprs", unfollowed := true, recurses := true, named := ["refuter/lexer.symbols", "refuter/parser.reserved"], apart := false, laid := [("refuter/lexer.symbols", laid_refuter_lexer_symbols), ("refuter/parser.reserved", laid_refuter_parser_reserved)], narrowed := true }
def EvalExprsUptoSaid : Prop := evalExprsUptoRow.holds Tryz.pinned (OpenSpec.upto evalExprsSpec)

/-- 'refuterlaw12.EvalAny', WHERE WHAT IT READS IS OF BULK AT MOST 1048576: true; the input reads as it did. -/
def evalAnyUptoRow : OpenClaim := { program := "ythhjnogfljegnaagreatdoor", sum := "8b849fff39dc7bcf81d136eac623bc279bdc76dbff44a5d5f7914f13537fce90", func := "refuter/refuterlaw12.EvalAny", spec := "evalAny", unfollowed := true, recurses := true, named := ["refuter/lexer.symbols", "refuter/parser.reserved"], apart := false, laid := [("refuter/lexer.symbols", laid_refuter_lexer_symbols), ("refuter/parser.reserved", laid_refuter_parser_reserved)], narrowed := true }
def EvalAnyUptoSaid : Prop := evalAnyUptoRow.holds Tryz.pinned (OpenSpec.upto evalAnySpec)

/-- 'refuterlaw12.EvalFuel', WHERE WHAT IT READS IS OF BULK AT MOST 1048576: true; the input reads as it did. -/
def evalFuelUptoRow : OpenClaim := { program := "ythhjnogfljegnaagreatdoor", sum := "8b849fff39dc7bcf81d136eac623bc279bdc76dbff44a5d5f7914f13537fce90", func := "refuter/refuterlaw12.EvalFuel", spec := "evalFuel", unfollowed := true, recurses := true, named := ["refuter/lexer.symbols", "refuter/parser.reserved"], apart := false, laid := [("refuter/lexer.symbols", laid_refuter_lexer_symbols), ("refuter/parser.reserved", laid_refuter_parser_reserved)], narrowed := true }
def EvalFuelUptoSaid : Prop := evalFuelUptoRow.holds Tryz.pinned (OpenSpec.upto evalFuelSpec)

/-- 'refuterlaw12.EvalLists', WHERE WHAT IT READS IS OF BULK AT MOST 1048576: true; the input reads as it did. -/
def evalListsUptoRow : OpenClaim := { program := "ythhjnogfljegnaagreatdoor", sum := "8b849fff39dc7bcf81d136eac623bc279bdc76dbff44a5d5f7914f13537fce90", func := "refuter/refuterlaw12.EvalLists", spec := "evalLists", unfollowed := true, recurses := true, named := ["refuter/lexer.symbols", "refuter/parser.reserved"], apart := false, laid := [("refuter/lexer.symbols", laid_refuter_lexer_symbols), ("refuter/parser.reserved", laid_refuter_parser_reserved)], narrowed := true }
def EvalListsUptoSaid : Prop := evalListsUptoRow.holds Tryz.pinned (OpenSpec.upto evalListsSpec)

/-- 'refuterlaw12.EvalFlips', WHERE WHAT IT READS IS OF BULK AT MOST 1048576: true; the input reads as it did. -/
def evalFlipsUptoRow : OpenClaim := { program := "ythhjnogfljegnaagreatdoor", sum := "8b849fff39dc7bcf81d136eac623bc279bdc76dbff44a5d5f7914f13537fce90", func := "refuter/refuterlaw12.EvalFlips", spec := "evalFlips", unfollowed := true, recurses := true, named := ["refuter/lexer.symbols", "refuter/parser.reserved"], apart := false, laid := [("refuter/lexer.symbols", laid_refuter_lexer_symbols), ("refuter/parser.reserved", laid_refuter_parser_reserved)], narrowed := true }
def EvalFlipsUptoSaid : Prop := evalFlipsUptoRow.holds Tryz.pinned (OpenSpec.upto evalFlipsSpec)

/-- 'refuterlaw12.EvalCalls', WHERE WHAT IT READS IS OF BULK AT MOST 1048576: true; the input reads as it did. -/
def evalCallsUptoRow : OpenClaim := { program := "ythhjnogfljegnaagreatdoor", sum := "8b849fff39dc7bcf81d136eac623bc279bdc76dbff44a5d5f7914f13537fce90", func := "refuter/refuterlaw12.EvalCalls", spec := "evalCalls", unfollowed := true, recurses := true, named := ["refuter/lexer.symbols", "refuter/parser.reserved"], apart := false, laid := [("refuter/lexer.symbols", laid_refuter_lexer_symbols), ("refuter/parser.reserved", laid_refuter_parser_reserved)], narrowed := true }
def EvalCallsUptoSaid : Prop := evalCallsUptoRow.holds Tryz.pinned (OpenSpec.upto evalCallsSpec)

/-- 'refuterlaw12.EvalIntegers', WHERE WHAT IT READS IS OF BULK AT MOST 1048576: true; the input reads as it did. -/
def evalIntegersUptoRow : OpenClaim := { program := "ythhjnogfljegnaagreatdoor", sum := "8b849fff39dc7bcf81d136eac623bc279bdc76dbff44a5d5f7914f13537fce90", func := "refuter/refuterlaw12.EvalIntegers", spec := "evalIntegers", unfollowed := true, recurses := true, named := ["refuter/lexer.symbols", "refuter/parser.reserved"], apart := false, laid := [("refuter/lexer.symbols", laid_refuter_lexer_symbols), ("refuter/parser.reserved", laid_refuter_parser_reserved)], narrowed := true }
def EvalIntegersUptoSaid : Prop := evalIntegersUptoRow.holds Tryz.pinned (OpenSpec.upto evalIntegersSpec)

/-- 'refuterlaw12.EvalDeep', WHERE WHAT IT READS IS OF BULK AT MOST 1048576: true; the input reads as it did. -/
def evalDeepUptoRow : OpenClaim := { program := "ythhjnogfljegnaagreatdoor", sum := "8b849fff39dc7bcf81d136eac623bc279bdc76dbff44a5d5f7914f13537fce90", func := "refuter/refuterlaw12.EvalDeep", spec := "evalDeep", unfollowed := true, recurses := true, named := ["refuter/lexer.symbols", "refuter/parser.reserved"], apart := false, laid := [("refuter/lexer.symbols", laid_refuter_lexer_symbols), ("refuter/parser.reserved", laid_refuter_parser_reserved)], narrowed := true }
def EvalDeepUptoSaid : Prop := evalDeepUptoRow.holds Tryz.pinned (OpenSpec.upto evalDeepSpec)

end Rows
end Go.Proofs.YthhjnogfljegnaaGreatDoor
