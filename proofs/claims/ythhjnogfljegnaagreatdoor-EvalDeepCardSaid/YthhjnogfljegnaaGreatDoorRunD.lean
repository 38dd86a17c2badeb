/-
 SV: closed runs. No condition.
-/
import Derived.Test.YthhjnogfljegnaaGreatDoorRunA
import Derived.KernelRfl
set_option linter.unusedSimpArgs false
set_option linter.unusedVariables false
set_option linter.unusedSectionVars false
namespace Tz
open Go.Sx Go Go.Proofs
def vT1 : AV := (.tuple [(.sl [(I 0), (I 0), (I 0), (.str 4 1752397168), (I 3), (I 4), (I 0), (.str 1 40), (I 0), (I 5), (I 0), (.str 1 118), (I 3), (I 6), (I 0), (.str 1 44), (I 2), (I 8), (I 1), (.str 1 49), (I 3), (I 9), (I 0), (.str 1 41)] 6 4 .any), (I 0), (I 0)])
theorem run_tok1 : outV (runA (mkCfg fnsX []) 200000 ⟨enterFr 48 (fx 48) [tx1], [], heap0, k40⟩) = some (48, vT1) := by kernel_rfl
theorem okTok1 (ρ : Nat → Int) : TabOk Tryz.prog ρ heap0 ((48, [tx1], vT1) :: []) := tab_cons fns_build fns_ok mix (show TabOk _ _ _ [] from trivial) (show TabOk _ _ _ [] from trivial) (okx (n := 48) (by kernel_rfl)) (by kernel_rfl) (by kernel_rfl) few run_tok1
theorem run_par1 : outV (runA (mkCfg fnsX ((48, [tx1], vT1) :: [])) 200000 ⟨enterFr n_ref09_ParseExpr (fx 12) [tx1], [], heap0, k40⟩) = some (n_ref09_ParseExpr, vP1) := by kernel_rfl
theorem addP1 {ρ : Nat → Int} {tab : List (Nat × List AV × AV)} (h : TabOk Tryz.prog ρ heap0 tab) : TabOk Tryz.prog ρ heap0 ((n_ref09_ParseExpr, [tx1], vP1) :: tab) := tab_cons fns_build fns_ok mix (okTok1 ρ) h (okx (n := 12) (by kernel_rfl)) (by kernel_rfl) (by kernel_rfl) few run_par1
def vT4 : AV := (.tuple [(.sl [(I 2), (I 0), (I 1), (.str 1 49), (I 3), (I 2), (I 0), (.str 1 43), (I 0), (I 4), (I 0), (.str 4 1702195828)] 3 4 .any), (I 0), (I 0)])
theorem run_tok4 : outV (runA (mkCfg fnsX []) 200000 ⟨enterFr 115 (fx 115) [tx4], [], heap0, k40⟩) = some (115, vT4) := by kernel_rfl
theorem okTok4 (ρ : Nat → Int) : TabOk Tryz.prog ρ heap0 ((115, [tx4], vT4) :: tRes) := tab_cons fns_build fns_ok mix (show TabOk _ _ _ [] from trivial) (okRes ρ) (okx (n := 115) (by kernel_rfl)) (by kernel_rfl) (by kernel_rfl) few run_tok4
theorem run_par4 : outV (runA (mkCfg fnsX ((115, [tx4], vT4) :: tRes)) 200000 ⟨enterFr 26 (fx 26) [tx4], [], heap0, k40⟩) = some (26, vP4) := by kernel_rfl
theorem addP4 {ρ : Nat → Int} {tab : List (Nat × List AV × AV)} (h : TabOk Tryz.prog ρ heap0 tab) : TabOk Tryz.prog ρ heap0 ((26, [tx4], vP4) :: tab) := tab_cons fns_build fns_ok mix (okTok4 ρ) h (okx (n := 26) (by kernel_rfl)) (by kernel_rfl) (by kernel_rfl) few run_par4
end Tz
