/-
 SV: closed runs. No condition.
-/
import Derived.Test.YthhjnogfljegnaaGreatDoorRunC
import Derived.Test.YthhjnogfljegnaaGreatDoorRunD
import Derived.Test.YthhjnogfljegnaaGreatDoorRunE
import Derived.Test.YthhjnogfljegnaaGreatDoorRunF
import Derived.KernelRfl
set_option linter.unusedSimpArgs false
set_option linter.unusedVariables false
set_option linter.unusedSectionVars false
namespace Tz
open Go.Sx Go Go.Proofs
def tLv : List (Nat × List AV × AV) := [(26, [tx2], vP2), (26, [tx3], vP3), (26, [tx4], vP4), (26, [tx5], vP5)]
theorem okLv (ρ : Nat → Int) : TabOk Tryz.prog ρ heap0 tLv := addP2 (addP3 (addP4 (addP5 (show TabOk _ _ _ [] from trivial))))
theorem run_lives : outV (runA (mkCfg fnsX tLv) 200000 ⟨enterFr n_law12_lives (fx 18) [], [], heap0, k40⟩) = some (n_law12_lives, (.bool true)) := by kernel_rfl
def tA : List (Nat × List AV × AV) := [(n_law12_lives, [], .bool true)]
theorem okA (ρ : Nat → Int) : TabOk Tryz.prog ρ heap0 tA := tab_cons fns_build fns_ok mix (okLv ρ) (show TabOk _ _ _ [] from trivial) (okx (n := 18) (by kernel_rfl)) (by kernel_rfl) (by kernel_rfl) few run_lives
def tab : List (Nat × List AV × AV) := (n_parser_Parse, [tx0], vP0) :: (n_ref09_ParseExpr, [tx1], vP1) :: tA
theorem tab_ok (ρ : Nat → Int) : TabOk Tryz.prog ρ heap0 tab := addP0 (addP1 (okA ρ))
end Tz
