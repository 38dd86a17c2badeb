/-
  SV: closed runs. No condition.
-/
import Derived.Test.YthhjnogfljegnaaGreatDoorRunA
import Derived.KernelRfl
set_option linter.unusedSimpArgs false
set_option linter.unusedVariables false
set_option linter.unusedSectionVars false
namespace Tz
open Go.Sx Go Go.Proofs
def vT2 : AV := (.tuple [(.sl [(I 0), (I 0), (I 0), (.str 4 1701536116), (I 3), (I 4), (I 0), (.str 1 40), (I 0), (I 5), (I 0), (.str 4 1752397168), (I 3), (I 9), (I 0), (.str 1 40), (I 0), (I 10), (I 0), (.str 1 118), (I 3), (I 11), (I 0), (.str 1 44), (I 0), (I 13), (I 0), (.str 1 120), (I 3), (I 14), (I 0), (.str 1 41), (I 3), (I 15), (I 0), (.str 1 44), (I 0), (I 17), (I 0), (.str 4 1702521203), (I 3), (I 21), (I 0), (.str 1 40), (I 0), (I 22), (I 0), (.str 1 118), (I 3), (I 23), (I 0), (.str 1 41), (I 3), (I 24), (I 0), (.str 1 41), (I 3), (I 26), (I 0), (.str 2 15677), (I 0), (I 29), (I 0), (.str 1 118)] 16 4 .any), (I 0), (I 0)])
theorem run_tok2 : outV (runA (mkCfg fns []) 200000 ⟨enterFr n_lexer_Tokens lexer_Tokens [tx2], [], heap0, k40⟩) = some (n_lexer_Tokens, vT2) := by kernel_rfl
theorem okTok2 (ρ : Nat → Int) : TabOk Tryz.prog ρ heap0 ((n_lexer_Tokens, [tx2], vT2) :: tRes) := tab_cons fns_build fns_ok mix (show TabOk _ _ _ [] from trivial) (okRes ρ) ok_lexer_Tokens (by kernel_rfl) (by kernel_rfl) few run_tok2
theorem run_par2 : outV (runA (mkCfg fns ((n_lexer_Tokens, [tx2], vT2) :: tRes)) 200000 ⟨enterFr n_parser_ParseExpr parser_ParseExpr [tx2], [], heap0, k40⟩) = some (n_parser_ParseExpr, vP2) := by kernel_rfl
theorem addP2 {ρ : Nat → Int} {tab : List (Nat × List AV × AV)} (h : TabOk Tryz.prog ρ heap0 tab) : TabOk Tryz.prog ρ heap0 ((n_parser_ParseExpr, [tx2], vP2) :: tab) := tab_cons fns_build fns_ok mix (okTok2 ρ) h ok_parser_ParseExpr (by kernel_rfl) (by kernel_rfl) few run_par2
def vT3 : AV := (.tuple [(.sl [(I 0), (I 0), (I 0), (.str 4 1702521203), (I 3), (I 4), (I 0), (.str 1 40), (I 0), (I 5), (I 0), (.str 4 1701536116), (I 3), (I 9), (I 0), (.str 1 40), (I 0), (I 10), (I 0), (.str 1 118), (I 3), (I 11), (I 0), (.str 1 44), (I 0), (I 13), (I 0), (.str 1 105), (I 3), (I 14), (I 0), (.str 1 41), (I 3), (I 15), (I 0), (.str 1 41), (I 3), (I 17), (I 0), (.str 2 15677), (I 0), (I 20), (I 0), (.str 3 7889261), (I 3), (I 23), (I 0), (.str 1 40), (I 2), (I 24), (I 0), (.str 1 48), (I 3), (I 25), (I 0), (.str 1 44), (I 0), (I 27), (I 0), (.str 3 7235949), (I 3), (I 30), (I 0), (.str 1 40), (I 0), (I 31), (I 0), (.str 1 105), (I 3), (I 32), (I 0), (.str 1 44), (I 0), (I 34), (I 0), (.str 4 1702521203), (I 3), (I 38), (I 0), (.str 1 40), (I 0), (I 39), (I 0), (.str 1 118), (I 3), (I 40), (I 0), (.str 1 41), (I 3), (I 41), (I 0), (.str 1 41), (I 3), (I 42), (I 0), (.str 1 41)] 24 4 .any), (I 0), (I 0)])
theorem run_tok3 : outV (runA (mkCfg fns []) 200000 ⟨enterFr n_lexer_Tokens lexer_Tokens [tx3], [], heap0, k40⟩) = some (n_lexer_Tokens, vT3) := by kernel_rfl
theorem okTok3 (ρ : Nat → Int) : TabOk Tryz.prog ρ heap0 ((n_lexer_Tokens, [tx3], vT3) :: tRes) := tab_cons fns_build fns_ok mix (show TabOk _ _ _ [] from trivial) (okRes ρ) ok_lexer_Tokens (by kernel_rfl) (by kernel_rfl) few run_tok3
theorem run_par3 : outV (runA (mkCfg fns ((n_lexer_Tokens, [tx3], vT3) :: tRes)) 200000 ⟨enterFr n_parser_ParseExpr parser_ParseExpr [tx3], [], heap0, k40⟩) = some (n_parser_ParseExpr, vP3) := by kernel_rfl
theorem addP3 {ρ : Nat → Int} {tab : List (Nat × List AV × AV)} (h : TabOk Tryz.prog ρ heap0 tab) : TabOk Tryz.prog ρ heap0 ((n_parser_ParseExpr, [tx3], vP3) :: tab) := tab_cons fns_build fns_ok mix (okTok3 ρ) h ok_parser_ParseExpr (by kernel_rfl) (by kernel_rfl) few run_par3
end Tz
