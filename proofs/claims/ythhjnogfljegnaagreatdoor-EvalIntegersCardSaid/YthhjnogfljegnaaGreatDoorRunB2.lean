/-
  SV: closed runs. No condition.
-/
import Derived.Test.YthhjnogfljegnaaGreatDoorRunA
import Derived.KernelRfl
set_option linter.unusedSimpArgs false
set_option linter.unusedVariables false
set_option linter.unusedSectionVars false
namespace Tz
open Go.Sx Go Go.Proofs
def vT4 : AV := (.tuple [(.sl [(I 3), (I 0), (I 0), (.str 1 40), (I 0), (I 1), (I 0), (.str 1 105), (I 3), (I 3), (I 0), (.str 2 15676), (I 0), (I 6), (I 0), (.str 1 120), (I 3), (I 7), (I 0), (.str 1 41), (I 3), (I 9), (I 0), (.str 2 15677), (I 3), (I 12), (I 0), (.str 1 40), (I 0), (I 13), (I 0), (.str 1 105), (I 3), (I 15), (I 0), (.str 1 60), (I 0), (I 17), (I 0), (.str 1 120), (I 0), (I 19), (I 0), (.str 2 29295), (I 0), (I 22), (I 0), (.str 1 105), (I 3), (I 24), (I 0), (.str 2 15677), (I 0), (I 27), (I 0), (.str 1 120), (I 3), (I 28), (I 0), (.str 1 41)] 15 4 .any), (I 0), (I 0)])
theorem run_tok4 : outV (runA (mkCfg fns []) 200000 ⟨enterFr n_lexer_Tokens lexer_Tokens [tx4], [], heap0, k40⟩) = some (n_lexer_Tokens, vT4) := by kernel_rfl
theorem okTok4 (ρ : Nat → Int) : TabOk Tryz.prog ρ heap0 ((n_lexer_Tokens, [tx4], vT4) :: tRes) := tab_cons fns_build fns_ok mix (show TabOk _ _ _ [] from trivial) (okRes ρ) ok_lexer_Tokens (by kernel_rfl) (by kernel_rfl) few run_tok4
theorem run_par4 : outV (runA (mkCfg fns ((n_lexer_Tokens, [tx4], vT4) :: tRes)) 200000 ⟨enterFr n_parser_ParseExpr parser_ParseExpr [tx4], [], heap0, k40⟩) = some (n_parser_ParseExpr, vP4) := by kernel_rfl
theorem addP4 {ρ : Nat → Int} {tab : List (Nat × List AV × AV)} (h : TabOk Tryz.prog ρ heap0 tab) : TabOk Tryz.prog ρ heap0 ((n_parser_ParseExpr, [tx4], vP4) :: tab) := tab_cons fns_build fns_ok mix (okTok4 ρ) h ok_parser_ParseExpr (by kernel_rfl) (by kernel_rfl) few run_par4
end Tz
