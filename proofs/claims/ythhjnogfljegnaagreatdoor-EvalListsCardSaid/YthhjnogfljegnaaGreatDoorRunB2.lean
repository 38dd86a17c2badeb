/-
  SV: closed runs. No condition.
-/
import Derived.Test.YthhjnogfljegnaaGreatDoorRunA
import Derived.KernelRfl
set_option linter.unusedSimpArgs false
set_option linter.unusedVariables false
set_option linter.unusedSectionVars false
namespace Tz
open Go.Sx Go Go.Proofs
def vT4 : AV := (.tuple [(.sl [(I 0), (I 0), (I 0), (.str 2 29793), (I 3), (I 2), (I 0), (.str 1 40), (I 0), (I 3), (I 0), (.str 1 118), (I 3), (I 4), (I 0), (.str 1 44), (I 0), (I 6), (I 0), (.str 1 105), (I 3), (I 7), (I 0), (.str 1 41)] 6 4 .any), (I 0), (I 0)])
theorem run_tok4 : outV (runA (mkCfg fns []) 200000 ⟨enterFr n_lexer_Tokens lexer_Tokens [tx4], [], heap0, k40⟩) = some (n_lexer_Tokens, vT4) := by kernel_rfl
theorem okTok4 (ρ : Nat → Int) : TabOk Tryz.prog ρ heap0 ((n_lexer_Tokens, [tx4], vT4) :: tRes) := tab_cons fns_build fns_ok mix (show TabOk _ _ _ [] from trivial) (okRes ρ) ok_lexer_Tokens (by kernel_rfl) (by kernel_rfl) few run_tok4
theorem run_par4 : outV (runA (mkCfg fns ((n_lexer_Tokens, [tx4], vT4) :: tRes)) 200000 ⟨enterFr n_parser_ParseExpr parser_ParseExpr [tx4], [], heap0, k40⟩) = some (n_parser_ParseExpr, vP4) := by kernel_rfl
theorem addP4 {ρ : Nat → Int} {tab : List (Nat × List AV × AV)} (h : TabOk Tryz.prog ρ heap0 tab) : TabOk Tryz.prog ρ heap0 ((n_parser_ParseExpr, [tx4], vP4) :: tab) := tab_cons fns_build fns_ok mix (okTok4 ρ) h ok_parser_ParseExpr (by kernel_rfl) (by kernel_rfl) few run_par4
def vT5 : AV := (.tuple [(.sl [(I 0), (I 0), (I 0), (.str 3 7628147), (I 3), (I 3), (I 0), (.str 1 40), (I 0), (I 4), (I 0), (.str 1 118), (I 3), (I 5), (I 0), (.str 1 44), (I 0), (I 7), (I 0), (.str 1 105), (I 3), (I 8), (I 0), (.str 1 44), (I 0), (I 10), (I 0), (.str 1 120), (I 3), (I 11), (I 0), (.str 1 41)] 8 4 .any), (I 0), (I 0)])
theorem run_tok5 : outV (runA (mkCfg fns []) 200000 ⟨enterFr n_lexer_Tokens lexer_Tokens [tx5], [], heap0, k40⟩) = some (n_lexer_Tokens, vT5) := by kernel_rfl
theorem okTok5 (ρ : Nat → Int) : TabOk Tryz.prog ρ heap0 ((n_lexer_Tokens, [tx5], vT5) :: tRes) := tab_cons fns_build fns_ok mix (show TabOk _ _ _ [] from trivial) (okRes ρ) ok_lexer_Tokens (by kernel_rfl) (by kernel_rfl) few run_tok5
theorem run_par5 : outV (runA (mkCfg fns ((n_lexer_Tokens, [tx5], vT5) :: tRes)) 200000 ⟨enterFr n_parser_ParseExpr parser_ParseExpr [tx5], [], heap0, k40⟩) = some (n_parser_ParseExpr, vP5) := by kernel_rfl
theorem addP5 {ρ : Nat → Int} {tab : List (Nat × List AV × AV)} (h : TabOk Tryz.prog ρ heap0 tab) : TabOk Tryz.prog ρ heap0 ((n_parser_ParseExpr, [tx5], vP5) :: tab) := tab_cons fns_build fns_ok mix (okTok5 ρ) h ok_parser_ParseExpr (by kernel_rfl) (by kernel_rfl) few run_par5
def vT7 : AV := (.tuple [(.sl [(I 0), (I 0), (I 0), (.str 2 29793), (I 3), (I 2), (I 0), (.str 1 40), (I 0), (I 3), (I 0), (.str 3 7628147), (I 3), (I 6), (I 0), (.str 1 40), (I 0), (I 7), (I 0), (.str 1 118), (I 3), (I 8), (I 0), (.str 1 44), (I 0), (I 10), (I 0), (.str 1 105), (I 3), (I 11), (I 0), (.str 1 44), (I 0), (I 13), (I 0), (.str 1 120), (I 3), (I 14), (I 0), (.str 1 41), (I 3), (I 15), (I 0), (.str 1 44), (I 2), (I 17), (I 0), (.str 1 48), (I 3), (I 18), (I 0), (.str 1 41)] 13 4 .any), (I 0), (I 0)])
theorem run_tok7 : outV (runA (mkCfg fns []) 200000 ⟨enterFr n_lexer_Tokens lexer_Tokens [tx7], [], heap0, k40⟩) = some (n_lexer_Tokens, vT7) := by kernel_rfl
theorem okTok7 (ρ : Nat → Int) : TabOk Tryz.prog ρ heap0 ((n_lexer_Tokens, [tx7], vT7) :: tRes) := tab_cons fns_build fns_ok mix (show TabOk _ _ _ [] from trivial) (okRes ρ) ok_lexer_Tokens (by kernel_rfl) (by kernel_rfl) few run_tok7
theorem run_par7 : outV (runA (mkCfg fns ((n_lexer_Tokens, [tx7], vT7) :: tRes)) 200000 ⟨enterFr n_parser_ParseExpr parser_ParseExpr [tx7], [], heap0, k40⟩) = some (n_parser_ParseExpr, vP7) := by kernel_rfl
theorem addP7 {ρ : Nat → Int} {tab : List (Nat × List AV × AV)} (h : TabOk Tryz.prog ρ heap0 tab) : TabOk Tryz.prog ρ heap0 ((n_parser_ParseExpr, [tx7], vP7) :: tab) := tab_cons fns_build fns_ok mix (okTok7 ρ) h ok_parser_ParseExpr (by kernel_rfl) (by kernel_rfl) few run_par7
def vT8 : AV := (.tuple [(.sl [(I 0), (I 0), (I 0), (.str 2 29793), (I 3), (I 2), (I 0), (.str 1 40), (I 0), (I 3), (I 0), (.str 3 7628147), (I 3), (I 6), (I 0), (.str 1 40), (I 0), (I 7), (I 0), (.str 1 118), (I 3), (I 8), (I 0), (.str 1 44), (I 0), (I 10), (I 0), (.str 1 105), (I 3), (I 11), (I 0), (.str 1 44), (I 0), (I 13), (I 0), (.str 1 120), (I 3), (I 14), (I 0), (.str 1 41), (I 3), (I 15), (I 0), (.str 1 44), (I 2), (I 17), (I 1), (.str 1 49), (I 3), (I 18), (I 0), (.str 1 41)] 13 4 .any), (I 0), (I 0)])
theorem run_tok8 : outV (runA (mkCfg fns []) 200000 ⟨enterFr n_lexer_Tokens lexer_Tokens [tx8], [], heap0, k40⟩) = some (n_lexer_Tokens, vT8) := by kernel_rfl
theorem okTok8 (ρ : Nat → Int) : TabOk Tryz.prog ρ heap0 ((n_lexer_Tokens, [tx8], vT8) :: tRes) := tab_cons fns_build fns_ok mix (show TabOk _ _ _ [] from trivial) (okRes ρ) ok_lexer_Tokens (by kernel_rfl) (by kernel_rfl) few run_tok8
theorem run_par8 : outV (runA (mkCfg fns ((n_lexer_Tokens, [tx8], vT8) :: tRes)) 200000 ⟨enterFr n_parser_ParseExpr parser_ParseExpr [tx8], [], heap0, k40⟩) = some (n_parser_ParseExpr, vP8) := by kernel_rfl
theorem addP8 {ρ : Nat → Int} {tab : List (Nat × List AV × AV)} (h : TabOk Tryz.prog ρ heap0 tab) : TabOk Tryz.prog ρ heap0 ((n_parser_ParseExpr, [tx8], vP8) :: tab) := tab_cons fns_build fns_ok mix (okTok8 ρ) h ok_parser_ParseExpr (by kernel_rfl) (by kernel_rfl) few run_par8
end Tz
