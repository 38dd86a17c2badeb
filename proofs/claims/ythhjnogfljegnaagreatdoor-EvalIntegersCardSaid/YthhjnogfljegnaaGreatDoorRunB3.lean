/-
  SV: closed runs. No condition.
-/
import Derived.Test.YthhjnogfljegnaaGreatDoorRunA
import Derived.KernelRfl
set_option linter.unusedSimpArgs false
set_option linter.unusedVariables false
set_option linter.unusedSectionVars false
namespace Tz
open Go.Sx Go Go.Proofs
def vT5 : AV := (.tuple [(.sl [(I 0), (I 0), (I 0), (.str 3 7889261), (I 3), (I 3), (I 0), (.str 1 40), (I 0), (I 4), (I 0), (.str 1 105), (I 3), (I 5), (I 0), (.str 1 44), (I 0), (I 7), (I 0), (.str 1 120), (I 3), (I 8), (I 0), (.str 1 41), (I 3), (I 10), (I 0), (.str 1 43), (I 0), (I 12), (I 0), (.str 3 7235949), (I 3), (I 15), (I 0), (.str 1 40), (I 0), (I 16), (I 0), (.str 1 105), (I 3), (I 17), (I 0), (.str 1 44), (I 0), (I 19), (I 0), (.str 1 120), (I 3), (I 20), (I 0), (.str 1 41), (I 3), (I 22), (I 0), (.str 2 15677), (I 0), (I 25), (I 0), (.str 1 105), (I 3), (I 27), (I 0), (.str 1 43), (I 0), (I 29), (I 0), (.str 1 120)] 17 4 .any), (I 0), (I 0)])
theorem run_tok5 : outV (runA (mkCfg fns []) 200000 ⟨enterFr n_lexer_Tokens lexer_Tokens [tx5], [], heap0, k40⟩) = some (n_lexer_Tokens, vT5) := by kernel_rfl
theorem okTok5 (ρ : Nat → Int) : TabOk Tryz.prog ρ heap0 ((n_lexer_Tokens, [tx5], vT5) :: tRes) := tab_cons fns_build fns_ok mix (show TabOk _ _ _ [] from trivial) (okRes ρ) ok_lexer_Tokens (by kernel_rfl) (by kernel_rfl) few run_tok5
theorem run_par5 : outV (runA (mkCfg fns ((n_lexer_Tokens, [tx5], vT5) :: tRes)) 200000 ⟨enterFr n_parser_ParseExpr parser_ParseExpr [tx5], [], heap0, k40⟩) = some (n_parser_ParseExpr, vP5) := by kernel_rfl
theorem addP5 {ρ : Nat → Int} {tab : List (Nat × List AV × AV)} (h : TabOk Tryz.prog ρ heap0 tab) : TabOk Tryz.prog ρ heap0 ((n_parser_ParseExpr, [tx5], vP5) :: tab) := tab_cons fns_build fns_ok mix (okTok5 ρ) h ok_parser_ParseExpr (by kernel_rfl) (by kernel_rfl) few run_par5
end Tz
