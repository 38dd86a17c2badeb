/-
  SV: closed runs. No condition.
-/
import Derived.Test.YthhjnogfljegnaaGreatDoorRunA
import Derived.KernelRfl
set_option linter.unusedSimpArgs false
set_option linter.unusedVariables false
set_option linter.unusedSectionVars false
namespace Tz
open Go.Sx Go Go.Proofs
def vT0 : AV := (.tuple [(.sl [(I 0), (I 0), (I 0), (.str 1 105), (I 3), (I 2), (I 0), (.str 1 43), (I 0), (I 4), (I 0), (.str 1 120)] 3 4 .any), (I 0), (I 0)])
theorem run_tok0 : outV (runA (mkCfg fns []) 200000 ⟨enterFr n_lexer_Tokens lexer_Tokens [tx0], [], heap0, k40⟩) = some (n_lexer_Tokens, vT0) := by kernel_rfl
theorem okTok0 (ρ : Nat → Int) : TabOk Tryz.prog ρ heap0 ((n_lexer_Tokens, [tx0], vT0) :: tRes) := tab_cons fns_build fns_ok mix (show TabOk _ _ _ [] from trivial) (okRes ρ) ok_lexer_Tokens (by kernel_rfl) (by kernel_rfl) few run_tok0
theorem run_par0 : outV (runA (mkCfg fns ((n_lexer_Tokens, [tx0], vT0) :: tRes)) 200000 ⟨enterFr n_parser_ParseExpr parser_ParseExpr [tx0], [], heap0, k40⟩) = some (n_parser_ParseExpr, vP0) := by kernel_rfl
theorem addP0 {ρ : Nat → Int} {tab : List (Nat × List AV × AV)} (h : TabOk Tryz.prog ρ heap0 tab) : TabOk Tryz.prog ρ heap0 ((n_parser_ParseExpr, [tx0], vP0) :: tab) := tab_cons fns_build fns_ok mix (okTok0 ρ) h ok_parser_ParseExpr (by kernel_rfl) (by kernel_rfl) few run_par0
def vT1 : AV := (.tuple [(.sl [(I 0), (I 0), (I 0), (.str 1 105), (I 3), (I 2), (I 0), (.str 1 45), (I 0), (I 4), (I 0), (.str 1 120)] 3 4 .any), (I 0), (I 0)])
theorem run_tok1 : outV (runA (mkCfg fns []) 200000 ⟨enterFr n_lexer_Tokens lexer_Tokens [tx1], [], heap0, k40⟩) = some (n_lexer_Tokens, vT1) := by kernel_rfl
theorem okTok1 (ρ : Nat → Int) : TabOk Tryz.prog ρ heap0 ((n_lexer_Tokens, [tx1], vT1) :: tRes) := tab_cons fns_build fns_ok mix (show TabOk _ _ _ [] from trivial) (okRes ρ) ok_lexer_Tokens (by kernel_rfl) (by kernel_rfl) few run_tok1
theorem run_par1 : outV (runA (mkCfg fns ((n_lexer_Tokens, [tx1], vT1) :: tRes)) 200000 ⟨enterFr n_parser_ParseExpr parser_ParseExpr [tx1], [], heap0, k40⟩) = some (n_parser_ParseExpr, vP1) := by kernel_rfl
theorem addP1 {ρ : Nat → Int} {tab : List (Nat × List AV × AV)} (h : TabOk Tryz.prog ρ heap0 tab) : TabOk Tryz.prog ρ heap0 ((n_parser_ParseExpr, [tx1], vP1) :: tab) := tab_cons fns_build fns_ok mix (okTok1 ρ) h ok_parser_ParseExpr (by kernel_rfl) (by kernel_rfl) few run_par1
def vT2 : AV := (.tuple [(.sl [(I 0), (I 0), (I 0), (.str 1 105), (I 3), (I 2), (I 0), (.str 1 42), (I 0), (I 4), (I 0), (.str 1 120)] 3 4 .any), (I 0), (I 0)])
theorem run_tok2 : outV (runA (mkCfg fns []) 200000 ⟨enterFr n_lexer_Tokens lexer_Tokens [tx2], [], heap0, k40⟩) = some (n_lexer_Tokens, vT2) := by kernel_rfl
theorem okTok2 (ρ : Nat → Int) : TabOk Tryz.prog ρ heap0 ((n_lexer_Tokens, [tx2], vT2) :: tRes) := tab_cons fns_build fns_ok mix (show TabOk _ _ _ [] from trivial) (okRes ρ) ok_lexer_Tokens (by kernel_rfl) (by kernel_rfl) few run_tok2
theorem run_par2 : outV (runA (mkCfg fns ((n_lexer_Tokens, [tx2], vT2) :: tRes)) 200000 ⟨enterFr n_parser_ParseExpr parser_ParseExpr [tx2], [], heap0, k40⟩) = some (n_parser_ParseExpr, vP2) := by kernel_rfl
theorem addP2 {ρ : Nat → Int} {tab : List (Nat × List AV × AV)} (h : TabOk Tryz.prog ρ heap0 tab) : TabOk Tryz.prog ρ heap0 ((n_parser_ParseExpr, [tx2], vP2) :: tab) := tab_cons fns_build fns_ok mix (okTok2 ρ) h ok_parser_ParseExpr (by kernel_rfl) (by kernel_rfl) few run_par2
def vT6 : AV := (.tuple [(.sl [(I 0), (I 0), (I 0), (.str 1 97), (I 3), (I 2), (I 0), (.str 2 15677), (I 0), (I 5), (I 0), (.str 1 98)] 3 4 .any), (I 0), (I 0)])
theorem run_tok6 : outV (runA (mkCfg fns []) 200000 ⟨enterFr n_lexer_Tokens lexer_Tokens [tx6], [], heap0, k40⟩) = some (n_lexer_Tokens, vT6) := by kernel_rfl
theorem okTok6 (ρ : Nat → Int) : TabOk Tryz.prog ρ heap0 ((n_lexer_Tokens, [tx6], vT6) :: tRes) := tab_cons fns_build fns_ok mix (show TabOk _ _ _ [] from trivial) (okRes ρ) ok_lexer_Tokens (by kernel_rfl) (by kernel_rfl) few run_tok6
theorem run_par6 : outV (runA (mkCfg fns ((n_lexer_Tokens, [tx6], vT6) :: tRes)) 200000 ⟨enterFr n_parser_ParseExpr parser_ParseExpr [tx6], [], heap0, k40⟩) = some (n_parser_ParseExpr, vP6) := by kernel_rfl
theorem addP6 {ρ : Nat → Int} {tab : List (Nat × List AV × AV)} (h : TabOk Tryz.prog ρ heap0 tab) : TabOk Tryz.prog ρ heap0 ((n_parser_ParseExpr, [tx6], vP6) :: tab) := tab_cons fns_build fns_ok mix (okTok6 ρ) h ok_parser_ParseExpr (by kernel_rfl) (by kernel_rfl) few run_par6
end Tz
