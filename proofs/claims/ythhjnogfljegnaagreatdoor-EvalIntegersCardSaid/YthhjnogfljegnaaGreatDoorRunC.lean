/-
  SV: closed runs. No condition.
-/
import Derived.Test.YthhjnogfljegnaaGreatDoorRunB0
import Derived.Test.YthhjnogfljegnaaGreatDoorRunB1
import Derived.Test.YthhjnogfljegnaaGreatDoorRunB2
import Derived.Test.YthhjnogfljegnaaGreatDoorRunB3
import Derived.Test.YthhjnogfljegnaaGreatDoorRunB4
import Derived.Test.YthhjnogfljegnaaGreatDoorRunB5
import Derived.KernelRfl
set_option linter.unusedSimpArgs false
set_option linter.unusedVariables false
set_option linter.unusedSectionVars false
namespace Tz
open Go.Sx Go Go.Proofs
def tLv : List (Nat × List AV × AV) := [(n_parser_ParseExpr, [tx7], vP7), (n_parser_ParseExpr, [tx8], vP8), (n_parser_ParseExpr, [tx9], vP9), (n_parser_ParseExpr, [tx10], vP10)]
theorem okLv (ρ : Nat → Int) : TabOk Tryz.prog ρ heap0 tLv := addP7 (addP8 (addP9 (addP10 (show TabOk _ _ _ [] from trivial))))
theorem run_lives : outV (runA (mkCfg fns tLv) 200000 ⟨enterFr n_law12_lives law12_lives [], [], heap0, k40⟩) = some (n_law12_lives, (.bool true)) := by kernel_rfl
def tA : List (Nat × List AV × AV) := [(n_law12_lives, [], .bool true)]
theorem okA (ρ : Nat → Int) : TabOk Tryz.prog ρ heap0 tA := tab_cons fns_build fns_ok mix (okLv ρ) (show TabOk _ _ _ [] from trivial) ok_law12_lives (by kernel_rfl) (by kernel_rfl) few run_lives
def tab : List (Nat × List AV × AV) := (n_parser_ParseExpr, [tx0], vP0) :: (n_parser_ParseExpr, [tx1], vP1) :: (n_parser_ParseExpr, [tx2], vP2) :: (n_parser_ParseExpr, [tx3], vP3) :: (n_parser_ParseExpr, [tx4], vP4) :: (n_parser_ParseExpr, [tx5], vP5) :: (n_parser_ParseExpr, [tx6], vP6) :: tA
theorem tab_ok (ρ : Nat → Int) : TabOk Tryz.prog ρ heap0 tab := (addP0 (addP1 (addP2 (addP3 (addP4 (addP5 (addP6 (okA ρ))))))))
end Tz
