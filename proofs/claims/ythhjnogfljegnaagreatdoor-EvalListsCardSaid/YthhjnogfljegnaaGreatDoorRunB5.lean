/-
  SV: closed runs. No condition.
-/
import Derived.Test.YthhjnogfljegnaaGreatDoorRunA
import Derived.KernelRfl
set_option linter.unusedSimpArgs false
set_option linter.unusedVariables false
set_option linter.unusedSectionVars false
namespace Tz
open Go.Sx Go Go.Proofs
def vT13 : AV := (.tuple [(.sl [(I 0), (I 0), (I 0), (.str 2 29793), (I 3), (I 2), (I 0), (.str 1 40), (I 3), (I 3), (I 0), (.str 1 91), (I 2), (I 4), (I 5), (.str 1 53), (I 3), (I 5), (I 0), (.str 1 93), (I 3), (I 6), (I 0), (.str 1 44), (I 2), (I 8), (I 1), (.str 1 49), (I 3), (I 9), (I 0), (.str 1 41)] 8 4 .any), (I 0), (I 0)])
theorem run_tok13 : outV (runA (mkCfg fns []) 200000 ⟨enterFr n_lexer_Tokens lexer_Tokens [tx13], [], heap0, k40⟩) = some (n_lexer_Tokens, vT13) := by kernel_rfl
theorem okTok13 (ρ : Nat → Int) : TabOk Tryz.prog ρ heap0 ((n_lexer_Tokens, [tx13], vT13) :: tRes) := tab_cons fns_build fns_ok mix (show TabOk _ _ _ [] from trivial) (okRes ρ) ok_lexer_Tokens (by kernel_rfl) (by kernel_rfl) few run_tok13
theorem run_par13 : outV (runA (mkCfg fns ((n_lexer_Tokens, [tx13], vT13) :: tRes)) 200000 ⟨enterFr n_parser_ParseExpr parser_ParseExpr [tx13], [], heap0, k40⟩) = some (n_parser_ParseExpr, vP13) := by kernel_rfl
theorem addP13 {ρ : Nat → Int} {tab : List (Nat × List AV × AV)} (h : TabOk Tryz.prog ρ heap0 tab) : TabOk Tryz.prog ρ heap0 ((n_parser_ParseExpr, [tx13], vP13) :: tab) := tab_cons fns_build fns_ok mix (okTok13 ρ) h ok_parser_ParseExpr (by kernel_rfl) (by kernel_rfl) few run_par13
def vT14 : AV := (.tuple [(.sl [(I 2), (I 0), (I 1), (.str 1 49), (I 3), (I 2), (I 0), (.str 1 43), (I 0), (I 4), (I 0), (.str 4 1702195828)] 3 4 .any), (I 0), (I 0)])
theorem run_tok14 : outV (runA (mkCfg fns []) 200000 ⟨enterFr n_lexer_Tokens lexer_Tokens [tx14], [], heap0, k40⟩) = some (n_lexer_Tokens, vT14) := by kernel_rfl
theorem okTok14 (ρ : Nat → Int) : TabOk Tryz.prog ρ heap0 ((n_lexer_Tokens, [tx14], vT14) :: tRes) := tab_cons fns_build fns_ok mix (show TabOk _ _ _ [] from trivial) (okRes ρ) ok_lexer_Tokens (by kernel_rfl) (by kernel_rfl) few run_tok14
theorem run_par14 : outV (runA (mkCfg fns ((n_lexer_Tokens, [tx14], vT14) :: tRes)) 200000 ⟨enterFr n_parser_ParseExpr parser_ParseExpr [tx14], [], heap0, k40⟩) = some (n_parser_ParseExpr, vP14) := by kernel_rfl
theorem addP14 {ρ : Nat → Int} {tab : List (Nat × List AV × AV)} (h : TabOk Tryz.prog ρ heap0 tab) : TabOk Tryz.prog ρ heap0 ((n_parser_ParseExpr, [tx14], vP14) :: tab) := tab_cons fns_build fns_ok mix (okTok14 ρ) h ok_parser_ParseExpr (by kernel_rfl) (by kernel_rfl) few run_par14
def vT15 : AV := (.tuple [(.sl [(I 0), (I 0), (I 0), (.str 3 7889261), (I 3), (I 3), (I 0), (.str 1 40), (I 2), (I 4), (I 1), (.str 1 49), (I 3), (I 5), (I 0), (.str 1 44), (I 2), (I 7), (I 2), (.str 1 50), (I 3), (I 8), (I 0), (.str 1 41)] 6 4 .any), (I 0), (I 0)])
theorem run_tok15 : outV (runA (mkCfg fns []) 200000 ⟨enterFr n_lexer_Tokens lexer_Tokens [tx15], [], heap0, k40⟩) = some (n_lexer_Tokens, vT15) := by kernel_rfl
theorem okTok15 (ρ : Nat → Int) : TabOk Tryz.prog ρ heap0 ((n_lexer_Tokens, [tx15], vT15) :: tRes) := tab_cons fns_build fns_ok mix (show TabOk _ _ _ [] from trivial) (okRes ρ) ok_lexer_Tokens (by kernel_rfl) (by kernel_rfl) few run_tok15
theorem run_par15 : outV (runA (mkCfg fns ((n_lexer_Tokens, [tx15], vT15) :: tRes)) 200000 ⟨enterFr n_parser_ParseExpr parser_ParseExpr [tx15], [], heap0, k40⟩) = some (n_parser_ParseExpr, vP15) := by kernel_rfl
theorem addP15 {ρ : Nat → Int} {tab : List (Nat × List AV × AV)} (h : TabOk Tryz.prog ρ heap0 tab) : TabOk Tryz.prog ρ heap0 ((n_parser_ParseExpr, [tx15], vP15) :: tab) := tab_cons fns_build fns_ok mix (okTok15 ρ) h ok_parser_ParseExpr (by kernel_rfl) (by kernel_rfl) few run_par15
end Tz
