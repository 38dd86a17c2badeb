/-
  SV: closed runs. No condition.
-/
import Derived.Test.YthhjnogfljegnaaGreatDoorRunA
import Derived.KernelRfl
set_option linter.unusedSimpArgs false
set_option linter.unusedVariables false
set_option linter.unusedSectionVars false
namespace Tz
open Go.Sx Go Go.Proofs
def vT8 : AV := (.tuple [(.sl [(I 0), (I 0), (I 0), (.str 2 29793), (I 3), (I 2), (I 0), (.str 1 40), (I 3), (I 3), (I 0), (.str 1 91), (I 2), (I 4), (I 5), (.str 1 53), (I 3), (I 5), (I 0), (.str 1 93), (I 3), (I 6), (I 0), (.str 1 44), (I 2), (I 8), (I 1), (.str 1 49), (I 3), (I 9), (I 0), (.str 1 41)] 8 4 .any), (I 0), (I 0)])
theorem run_tok8 : outV (runA (mkCfg fns []) 200000 ⟨enterFr n_lexer_Tokens lexer_Tokens [tx8], [], heap0, k40⟩) = some (n_lexer_Tokens, vT8) := by kernel_rfl
theorem okTok8 (ρ : Nat → Int) : TabOk Tryz.prog ρ heap0 ((n_lexer_Tokens, [tx8], vT8) :: tRes) := tab_cons fns_build fns_ok mix (show TabOk _ _ _ [] from trivial) (okRes ρ) ok_lexer_Tokens (by kernel_rfl) (by kernel_rfl) few run_tok8
theorem run_par8 : outV (runA (mkCfg fns ((n_lexer_Tokens, [tx8], vT8) :: tRes)) 200000 ⟨enterFr n_parser_ParseExpr parser_ParseExpr [tx8], [], heap0, k40⟩) = some (n_parser_ParseExpr, vP8) := by kernel_rfl
theorem addP8 {ρ : Nat → Int} {tab : List (Nat × List AV × AV)} (h : TabOk Tryz.prog ρ heap0 tab) : TabOk Tryz.prog ρ heap0 ((n_parser_ParseExpr, [tx8], vP8) :: tab) := tab_cons fns_build fns_ok mix (okTok8 ρ) h ok_parser_ParseExpr (by kernel_rfl) (by kernel_rfl) few run_par8
def vT9 : AV := (.tuple [(.sl [(I 2), (I 0), (I 1), (.str 1 49), (I 3), (I 2), (I 0), (.str 1 43), (I 0), (I 4), (I 0), (.str 4 1702195828)] 3 4 .any), (I 0), (I 0)])
theorem run_tok9 : outV (runA (mkCfg fns []) 200000 ⟨enterFr n_lexer_Tokens lexer_Tokens [tx9], [], heap0, k40⟩) = some (n_lexer_Tokens, vT9) := by kernel_rfl
theorem okTok9 (ρ : Nat → Int) : TabOk Tryz.prog ρ heap0 ((n_lexer_Tokens, [tx9], vT9) :: tRes) := tab_cons fns_build fns_ok mix (show TabOk _ _ _ [] from trivial) (okRes ρ) ok_lexer_Tokens (by kernel_rfl) (by kernel_rfl) few run_tok9
theorem run_par9 : outV (runA (mkCfg fns ((n_lexer_Tokens, [tx9], vT9) :: tRes)) 200000 ⟨enterFr n_parser_ParseExpr parser_ParseExpr [tx9], [], heap0, k40⟩) = some (n_parser_ParseExpr, vP9) := by kernel_rfl
theorem addP9 {ρ : Nat → Int} {tab : List (Nat × List AV × AV)} (h : TabOk Tryz.prog ρ heap0 tab) : TabOk Tryz.prog ρ heap0 ((n_parser_ParseExpr, [tx9], vP9) :: tab) := tab_cons fns_build fns_ok mix (okTok9 ρ) h ok_parser_ParseExpr (by kernel_rfl) (by kernel_rfl) few run_par9
def vT10 : AV := (.tuple [(.sl [(I 0), (I 0), (I 0), (.str 3 7889261), (I 3), (I 3), (I 0), (.str 1 40), (I 2), (I 4), (I 1), (.str 1 49), (I 3), (I 5), (I 0), (.str 1 44), (I 2), (I 7), (I 2), (.str 1 50), (I 3), (I 8), (I 0), (.str 1 41)] 6 4 .any), (I 0), (I 0)])
theorem run_tok10 : outV (runA (mkCfg fns []) 200000 ⟨enterFr n_lexer_Tokens lexer_Tokens [tx10], [], heap0, k40⟩) = some (n_lexer_Tokens, vT10) := by kernel_rfl
theorem okTok10 (ρ : Nat → Int) : TabOk Tryz.prog ρ heap0 ((n_lexer_Tokens, [tx10], vT10) :: tRes) := tab_cons fns_build fns_ok mix (show TabOk _ _ _ [] from trivial) (okRes ρ) ok_lexer_Tokens (by kernel_rfl) (by kernel_rfl) few run_tok10
theorem run_par10 : outV (runA (mkCfg fns ((n_lexer_Tokens, [tx10], vT10) :: tRes)) 200000 ⟨enterFr n_parser_ParseExpr parser_ParseExpr [tx10], [], heap0, k40⟩) = some (n_parser_ParseExpr, vP10) := by kernel_rfl
theorem addP10 {ρ : Nat → Int} {tab : List (Nat × List AV × AV)} (h : TabOk Tryz.prog ρ heap0 tab) : TabOk Tryz.prog ρ heap0 ((n_parser_ParseExpr, [tx10], vP10) :: tab) := tab_cons fns_build fns_ok mix (okTok10 ρ) h ok_parser_ParseExpr (by kernel_rfl) (by kernel_rfl) few run_par10
end Tz
