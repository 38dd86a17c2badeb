/-
  SV: closed runs. No condition.
-/
import Derived.Test.YthhjnogfljegnaaGreatDoorRunA
import Derived.KernelRfl
set_option linter.unusedSimpArgs false
set_option linter.unusedVariables false
set_option linter.unusedSectionVars false
namespace Tz
open Go.Sx Go Go.Proofs
def vT7 : AV := (.tuple [(.sl [(I 0), (I 0), (I 0), (.str 2 26217), (I 2), (I 3), (I 1), (.str 1 49), (I 3), (I 5), (I 0), (.str 1 60), (I 2), (I 7), (I 2), (.str 1 50), (I 0), (I 9), (I 0), (.str 4 1852139636), (I 0), (I 14), (I 0), (.str 2 29793), (I 3), (I 16), (I 0), (.str 1 40), (I 3), (I 17), (I 0), (.str 1 91), (I 2), (I 18), (I 5), (.str 1 53), (I 3), (I 19), (I 0), (.str 1 44), (I 2), (I 21), (I 6), (.str 1 54), (I 3), (I 22), (I 0), (.str 1 93), (I 3), (I 23), (I 0), (.str 1 44), (I 2), (I 25), (I 1), (.str 1 49), (I 3), (I 26), (I 0), (.str 1 41), (I 0), (I 28), (I 0), (.str 4 1702063205), (I 2), (I 33), (I 0), (.str 1 48)] 17 4 .any), (I 0), (I 0)])
theorem run_tok7 : outV (runA (mkCfg fns []) 200000 ⟨enterFr n_lexer_Tokens lexer_Tokens [tx7], [], heap0, k40⟩) = some (n_lexer_Tokens, vT7) := by kernel_rfl
theorem okTok7 (ρ : Nat → Int) : TabOk Tryz.prog ρ heap0 ((n_lexer_Tokens, [tx7], vT7) :: tRes) := tab_cons fns_build fns_ok mix (show TabOk _ _ _ [] from trivial) (okRes ρ) ok_lexer_Tokens (by kernel_rfl) (by kernel_rfl) few run_tok7
theorem run_par7 : outV (runA (mkCfg fns ((n_lexer_Tokens, [tx7], vT7) :: tRes)) 200000 ⟨enterFr n_parser_ParseExpr parser_ParseExpr [tx7], [], heap0, k40⟩) = some (n_parser_ParseExpr, vP7) := by kernel_rfl
theorem addP7 {ρ : Nat → Int} {tab : List (Nat × List AV × AV)} (h : TabOk Tryz.prog ρ heap0 tab) : TabOk Tryz.prog ρ heap0 ((n_parser_ParseExpr, [tx7], vP7) :: tab) := tab_cons fns_build fns_ok mix (okTok7 ρ) h ok_parser_ParseExpr (by kernel_rfl) (by kernel_rfl) few run_par7
end Tz
