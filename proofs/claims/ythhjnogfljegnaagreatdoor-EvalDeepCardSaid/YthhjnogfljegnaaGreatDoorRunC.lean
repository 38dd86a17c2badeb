/-
 SV: closed runs. No condition.
-/
import Derived.Test.YthhjnogfljegnaaGreatDoorRunB
import Derived.KernelRfl
set_option linter.unusedSimpArgs false
set_option linter.unusedVariables false
set_option linter.unusedSectionVars false
namespace Tz
open Go.Sx Go Go.Proofs
theorem run_par0 : outV (runA (mkCfg fnsX ((115, [tx0], vT0) :: tRes)) 200000 ⟨enterFr n_parser_Parse (fx 45) [tx0], [], heap0, k40⟩) = some (n_parser_Parse, vP0) := by kernel_rfl
theorem addP0 {ρ : Nat → Int} {tab : List (Nat × List AV × AV)} (h : TabOk Tryz.prog ρ heap0 tab) : TabOk Tryz.prog ρ heap0 ((n_parser_Parse, [tx0], vP0) :: tab) := tab_cons fns_build fns_ok mix (okTok0 ρ) h (okx (n := 45) (by kernel_rfl)) (by kernel_rfl) (by kernel_rfl) few run_par0
end Tz
