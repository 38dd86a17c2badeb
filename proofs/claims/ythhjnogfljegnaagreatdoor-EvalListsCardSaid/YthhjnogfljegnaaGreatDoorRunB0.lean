/-
  SV: closed runs. No condition.
-/
import Derived.Test.YthhjnogfljegnaaGreatDoorRunA
import Derived.KernelRfl
set_option linter.unusedSimpArgs false
set_option linter.unusedVariables false
set_option linter.unusedSectionVars false
namespace Tz
open Go.Sx Go Go.Proofs
def vT0 : AV := (.tuple [(.sl [(I 0), (I 0), (I 0), (.str 4 1702521203), (I 3), (I 4), (I 0), (.str 1 40), (I 0), (I 5), (I 0), (.str 4 1701536116), (I 3), (I 9), (I 0), (.str 1 40), (I 0), (I 10), (I 0), (.str 1 118), (I 3), (I 11), (I 0), (.str 1 44), (I 0), (I 13), (I 0), (.str 1 105), (I 3), (I 14), (I 0), (.str 1 41), (I 3), (I 15), (I 0), (.str 1 41), (I 3), (I 17), (I 0), (.str 1 43), (I 0), (I 19), (I 0), (.str 4 1702521203), (I 3), (I 23), (I 0), (.str 1 40), (I 0), (I 24), (I 0), (.str 4 1886351972), (I 3), (I 28), (I 0), (.str 1 40), (I 0), (I 29), (I 0), (.str 1 118), (I 3), (I 30), (I 0), (.str 1 44), (I 0), (I 32), (I 0), (.str 1 105), (I 3), (I 33), (I 0), (.str 1 41), (I 3), (I 34), (I 0), (.str 1 41), (I 3), (I 36), (I 0), (.str 2 15677), (I 0), (I 39), (I 0), (.str 4 1702521203), (I 3), (I 43), (I 0), (.str 1 40), (I 0), (I 44), (I 0), (.str 1 118), (I 3), (I 45), (I 0), (.str 1 41)] 24 4 .any), (I 0), (I 0)])
theorem run_tok0 : outV (runA (mkCfg fns []) 200000 ⟨enterFr n_lexer_Tokens lexer_Tokens [tx0], [], heap0, k40⟩) = some (n_lexer_Tokens, vT0) := by kernel_rfl
theorem okTok0 (ρ : Nat → Int) : TabOk Tryz.prog ρ heap0 ((n_lexer_Tokens, [tx0], vT0) :: tRes) := tab_cons fns_build fns_ok mix (show TabOk _ _ _ [] from trivial) (okRes ρ) ok_lexer_Tokens (by kernel_rfl) (by kernel_rfl) few run_tok0
theorem run_par0 : outV (runA (mkCfg fns ((n_lexer_Tokens, [tx0], vT0) :: tRes)) 200000 ⟨enterFr n_parser_ParseExpr parser_ParseExpr [tx0], [], heap0, k40⟩) = some (n_parser_ParseExpr, vP0) := by kernel_rfl
theorem addP0 {ρ : Nat → Int} {tab : List (Nat × List AV × AV)} (h : TabOk Tryz.prog ρ heap0 tab) : TabOk Tryz.prog ρ heap0 ((n_parser_ParseExpr, [tx0], vP0) :: tab) := tab_cons fns_build fns_ok mix (okTok0 ρ) h ok_parser_ParseExpr (by kernel_rfl) (by kernel_rfl) few run_par0
def vT1 : AV := (.tuple [(.sl [(I 0), (I 0), (I 0), (.str 2 29793), (I 3), (I 2), (I 0), (.str 1 40), (I 0), (I 3), (I 0), (.str 4 1752397168), (I 3), (I 7), (I 0), (.str 1 40), (I 0), (I 8), (I 0), (.str 1 118), (I 3), (I 9), (I 0), (.str 1 44), (I 0), (I 11), (I 0), (.str 1 120), (I 3), (I 12), (I 0), (.str 1 41), (I 3), (I 13), (I 0), (.str 1 44), (I 0), (I 15), (I 0), (.str 4 1702521203), (I 3), (I 19), (I 0), (.str 1 40), (I 0), (I 20), (I 0), (.str 1 118), (I 3), (I 21), (I 0), (.str 1 41), (I 3), (I 22), (I 0), (.str 1 41), (I 3), (I 24), (I 0), (.str 2 15677), (I 0), (I 27), (I 0), (.str 1 120)] 16 4 .any), (I 0), (I 0)])
theorem run_tok1 : outV (runA (mkCfg fns []) 200000 ⟨enterFr n_lexer_Tokens lexer_Tokens [tx1], [], heap0, k40⟩) = some (n_lexer_Tokens, vT1) := by kernel_rfl
theorem okTok1 (ρ : Nat → Int) : TabOk Tryz.prog ρ heap0 ((n_lexer_Tokens, [tx1], vT1) :: tRes) := tab_cons fns_build fns_ok mix (show TabOk _ _ _ [] from trivial) (okRes ρ) ok_lexer_Tokens (by kernel_rfl) (by kernel_rfl) few run_tok1
theorem run_par1 : outV (runA (mkCfg fns ((n_lexer_Tokens, [tx1], vT1) :: tRes)) 200000 ⟨enterFr n_parser_ParseExpr parser_ParseExpr [tx1], [], heap0, k40⟩) = some (n_parser_ParseExpr, vP1) := by kernel_rfl
theorem addP1 {ρ : Nat → Int} {tab : List (Nat × List AV × AV)} (h : TabOk Tryz.prog ρ heap0 tab) : TabOk Tryz.prog ρ heap0 ((n_parser_ParseExpr, [tx1], vP1) :: tab) := tab_cons fns_build fns_ok mix (okTok1 ρ) h ok_parser_ParseExpr (by kernel_rfl) (by kernel_rfl) few run_par1
end Tz
