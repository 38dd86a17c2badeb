/-
  SV: closed runs. No condition.
-/
import Derived.Test.YthhjnogfljegnaaGreatDoorRunA
import Derived.KernelRfl
set_option linter.unusedSimpArgs false
set_option linter.unusedVariables false
set_option linter.unusedSectionVars false
namespace Tz
open Go.Sx Go Go.Proofs
def vT9 : AV := (.tuple [(.sl [(I 0), (I 0), (I 0), (.str 2 29793), (I 3), (I 2), (I 0), (.str 1 40), (I 0), (I 3), (I 0), (.str 3 7628147), (I 3), (I 6), (I 0), (.str 1 40), (I 0), (I 7), (I 0), (.str 1 118), (I 3), (I 8), (I 0), (.str 1 44), (I 0), (I 10), (I 0), (.str 1 105), (I 3), (I 11), (I 0), (.str 1 44), (I 0), (I 13), (I 0), (.str 1 120), (I 3), (I 14), (I 0), (.str 1 41), (I 3), (I 15), (I 0), (.str 1 44), (I 2), (I 17), (I 2), (.str 1 50), (I 3), (I 18), (I 0), (.str 1 41)] 13 4 .any), (I 0), (I 0)])
theorem run_tok9 : outV (runA (mkCfg fns []) 200000 ⟨enterFr n_lexer_Tokens lexer_Tokens [tx9], [], heap0, k40⟩) = some (n_lexer_Tokens, vT9) := by kernel_rfl
theorem okTok9 (ρ : Nat → Int) : TabOk Tryz.prog ρ heap0 ((n_lexer_Tokens, [tx9], vT9) :: tRes) := tab_cons fns_build fns_ok mix (show TabOk _ _ _ [] from trivial) (okRes ρ) ok_lexer_Tokens (by kernel_rfl) (by kernel_rfl) few run_tok9
theorem run_par9 : outV (runA (mkCfg fns ((n_lexer_Tokens, [tx9], vT9) :: tRes)) 200000 ⟨enterFr n_parser_ParseExpr parser_ParseExpr [tx9], [], heap0, k40⟩) = some (n_parser_ParseExpr, vP9) := by kernel_rfl
theorem addP9 {ρ : Nat → Int} {tab : List (Nat × List AV × AV)} (h : TabOk Tryz.prog ρ heap0 tab) : TabOk Tryz.prog ρ heap0 ((n_parser_ParseExpr, [tx9], vP9) :: tab) := tab_cons fns_build fns_ok mix (okTok9 ρ) h ok_parser_ParseExpr (by kernel_rfl) (by kernel_rfl) few run_par9
def vT10 : AV := (.tuple [(.sl [(I 0), (I 0), (I 0), (.str 2 29793), (I 3), (I 2), (I 0), (.str 1 40), (I 0), (I 3), (I 0), (.str 3 7628147), (I 3), (I 6), (I 0), (.str 1 40), (I 0), (I 7), (I 0), (.str 1 118), (I 3), (I 8), (I 0), (.str 1 44), (I 0), (I 10), (I 0), (.str 1 105), (I 3), (I 11), (I 0), (.str 1 44), (I 0), (I 13), (I 0), (.str 1 120), (I 3), (I 14), (I 0), (.str 1 41), (I 3), (I 15), (I 0), (.str 1 44), (I 2), (I 17), (I 3), (.str 1 51), (I 3), (I 18), (I 0), (.str 1 41)] 13 4 .any), (I 0), (I 0)])
theorem run_tok10 : outV (runA (mkCfg fns []) 200000 ⟨enterFr n_lexer_Tokens lexer_Tokens [tx10], [], heap0, k40⟩) = some (n_lexer_Tokens, vT10) := by kernel_rfl
theorem okTok10 (ρ : Nat → Int) : TabOk Tryz.prog ρ heap0 ((n_lexer_Tokens, [tx10], vT10) :: tRes) := tab_cons fns_build fns_ok mix (show TabOk _ _ _ [] from trivial) (okRes ρ) ok_lexer_Tokens (by kernel_rfl) (by kernel_rfl) few run_tok10
theorem run_par10 : outV (runA (mkCfg fns ((n_lexer_Tokens, [tx10], vT10) :: tRes)) 200000 ⟨enterFr n_parser_ParseExpr parser_ParseExpr [tx10], [], heap0, k40⟩) = some (n_parser_ParseExpr, vP10) := by kernel_rfl
theorem addP10 {ρ : Nat → Int} {tab : List (Nat × List AV × AV)} (h : TabOk Tryz.prog ρ heap0 tab) : TabOk Tryz.prog ρ heap0 ((n_parser_ParseExpr, [tx10], vP10) :: tab) := tab_cons fns_build fns_ok mix (okTok10 ρ) h ok_parser_ParseExpr (by kernel_rfl) (by kernel_rfl) few run_par10
def vT11 : AV := (.tuple [(.sl [(I 0), (I 0), (I 0), (.str 2 29793), (I 3), (I 2), (I 0), (.str 1 40), (I 0), (I 3), (I 0), (.str 3 7628147), (I 3), (I 6), (I 0), (.str 1 40), (I 0), (I 7), (I 0), (.str 1 118), (I 3), (I 8), (I 0), (.str 1 44), (I 0), (I 10), (I 0), (.str 1 105), (I 3), (I 11), (I 0), (.str 1 44), (I 0), (I 13), (I 0), (.str 1 120), (I 3), (I 14), (I 0), (.str 1 41), (I 3), (I 15), (I 0), (.str 1 44), (I 2), (I 17), (I 4), (.str 1 52), (I 3), (I 18), (I 0), (.str 1 41)] 13 4 .any), (I 0), (I 0)])
theorem run_tok11 : outV (runA (mkCfg fns []) 200000 ⟨enterFr n_lexer_Tokens lexer_Tokens [tx11], [], heap0, k40⟩) = some (n_lexer_Tokens, vT11) := by kernel_rfl
theorem okTok11 (ρ : Nat → Int) : TabOk Tryz.prog ρ heap0 ((n_lexer_Tokens, [tx11], vT11) :: tRes) := tab_cons fns_build fns_ok mix (show TabOk _ _ _ [] from trivial) (okRes ρ) ok_lexer_Tokens (by kernel_rfl) (by kernel_rfl) few run_tok11
theorem run_par11 : outV (runA (mkCfg fns ((n_lexer_Tokens, [tx11], vT11) :: tRes)) 200000 ⟨enterFr n_parser_ParseExpr parser_ParseExpr [tx11], [], heap0, k40⟩) = some (n_parser_ParseExpr, vP11) := by kernel_rfl
theorem addP11 {ρ : Nat → Int} {tab : List (Nat × List AV × AV)} (h : TabOk Tryz.prog ρ heap0 tab) : TabOk Tryz.prog ρ heap0 ((n_parser_ParseExpr, [tx11], vP11) :: tab) := tab_cons fns_build fns_ok mix (okTok11 ρ) h ok_parser_ParseExpr (by kernel_rfl) (by kernel_rfl) few run_par11
def vT12 : AV := (.tuple [(.sl [(I 0), (I 0), (I 0), (.str 2 26217), (I 2), (I 3), (I 1), (.str 1 49), (I 3), (I 5), (I 0), (.str 1 60), (I 2), (I 7), (I 2), (.str 1 50), (I 0), (I 9), (I 0), (.str 4 1852139636), (I 0), (I 14), (I 0), (.str 2 29793), (I 3), (I 16), (I 0), (.str 1 40), (I 3), (I 17), (I 0), (.str 1 91), (I 2), (I 18), (I 5), (.str 1 53), (I 3), (I 19), (I 0), (.str 1 44), (I 2), (I 21), (I 6), (.str 1 54), (I 3), (I 22), (I 0), (.str 1 93), (I 3), (I 23), (I 0), (.str 1 44), (I 2), (I 25), (I 1), (.str 1 49), (I 3), (I 26), (I 0), (.str 1 41), (I 0), (I 28), (I 0), (.str 4 1702063205), (I 2), (I 33), (I 0), (.str 1 48)] 17 4 .any), (I 0), (I 0)])
theorem run_tok12 : outV (runA (mkCfg fns []) 200000 ⟨enterFr n_lexer_Tokens lexer_Tokens [tx12], [], heap0, k40⟩) = some (n_lexer_Tokens, vT12) := by kernel_rfl
theorem okTok12 (ρ : Nat → Int) : TabOk Tryz.prog ρ heap0 ((n_lexer_Tokens, [tx12], vT12) :: tRes) := tab_cons fns_build fns_ok mix (show TabOk _ _ _ [] from trivial) (okRes ρ) ok_lexer_Tokens (by kernel_rfl) (by kernel_rfl) few run_tok12
theorem run_par12 : outV (runA (mkCfg fns ((n_lexer_Tokens, [tx12], vT12) :: tRes)) 200000 ⟨enterFr n_parser_ParseExpr parser_ParseExpr [tx12], [], heap0, k40⟩) = some (n_parser_ParseExpr, vP12) := by kernel_rfl
theorem addP12 {ρ : Nat → Int} {tab : List (Nat × List AV × AV)} (h : TabOk Tryz.prog ρ heap0 tab) : TabOk Tryz.prog ρ heap0 ((n_parser_ParseExpr, [tx12], vP12) :: tab) := tab_cons fns_build fns_ok mix (okTok12 ρ) h ok_parser_ParseExpr (by kernel_rfl) (by kernel_rfl) few run_par12
end Tz
