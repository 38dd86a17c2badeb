/-
  SV: closed runs. No condition.
-/
import Derived.Test.YthhjnogfljegnaaGreatDoorRunA
import Derived.KernelRfl
set_option linter.unusedSimpArgs false
set_option linter.unusedVariables false
set_option linter.unusedSectionVars false
namespace Tz
open Go.Sx Go Go.Proofs
def vT3 : AV := (.tuple [(.sl [(I 3), (I 0), (I 0), (.str 1 40), (I 0), (I 1), (I 0), (.str 1 105), (I 3), (I 3), (I 0), (.str 1 60), (I 0), (I 5), (I 0), (.str 1 120), (I 0), (I 7), (I 0), (.str 2 29295), (I 0), (I 10), (I 0), (.str 1 120), (I 3), (I 12), (I 0), (.str 2 15676), (I 0), (I 15), (I 0), (.str 1 105), (I 3), (I 16), (I 0), (.str 1 41), (I 0), (I 18), (I 0), (.str 3 6581857), (I 0), (I 22), (I 0), (.str 3 7630702), (I 3), (I 26), (I 0), (.str 1 40), (I 0), (I 27), (I 0), (.str 1 105), (I 3), (I 29), (I 0), (.str 1 60), (I 0), (I 31), (I 0), (.str 1 120), (I 0), (I 33), (I 0), (.str 3 6581857), (I 0), (I 37), (I 0), (.str 1 120), (I 3), (I 39), (I 0), (.str 2 15676), (I 0), (I 42), (I 0), (.str 1 105), (I 3), (I 43), (I 0), (.str 1 41)] 20 4 .any), (I 0), (I 0)])
theorem run_tok3 : outV (runA (mkCfg fns []) 200000 ⟨enterFr n_lexer_Tokens lexer_Tokens [tx3], [], heap0, k40⟩) = some (n_lexer_Tokens, vT3) := by kernel_rfl
theorem okTok3 (ρ : Nat → Int) : TabOk Tryz.prog ρ heap0 ((n_lexer_Tokens, [tx3], vT3) :: tRes) := tab_cons fns_build fns_ok mix (show TabOk _ _ _ [] from trivial) (okRes ρ) ok_lexer_Tokens (by kernel_rfl) (by kernel_rfl) few run_tok3
theorem run_par3 : outV (runA (mkCfg fns ((n_lexer_Tokens, [tx3], vT3) :: tRes)) 200000 ⟨enterFr n_parser_ParseExpr parser_ParseExpr [tx3], [], heap0, k40⟩) = some (n_parser_ParseExpr, vP3) := by kernel_rfl
theorem addP3 {ρ : Nat → Int} {tab : List (Nat × List AV × AV)} (h : TabOk Tryz.prog ρ heap0 tab) : TabOk Tryz.prog ρ heap0 ((n_parser_ParseExpr, [tx3], vP3) :: tab) := tab_cons fns_build fns_ok mix (okTok3 ρ) h ok_parser_ParseExpr (by kernel_rfl) (by kernel_rfl) few run_par3
end Tz
