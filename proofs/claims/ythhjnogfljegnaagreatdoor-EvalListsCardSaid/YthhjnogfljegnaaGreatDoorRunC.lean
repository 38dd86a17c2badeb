/-
  SV: closed runs. No condition.
-/
import Derived.Test.YthhjnogfljegnaaGreatDoorRunB0
import Derived.Test.YthhjnogfljegnaaGreatDoorRunB1
import Derived.Test.YthhjnogfljegnaaGreatDoorRunB2
import Derived.Test.YthhjnogfljegnaaGreatDoorRunB3
import Derived.Test.YthhjnogfljegnaaGreatDoorRunB4
import Derived.Test.YthhjnogfljegnaaGreatDoorRunB5
import Derived.KernelRfl
set_option linter.unusedSimpArgs false
set_option linter.unusedVariables false
set_option linter.unusedSectionVars false
namespace Tz
open Go.Sx Go Go.Proofs
def tLv : List (Nat × List AV × AV) := [(n_parser_ParseExpr, [tx12], vP12), (n_parser_ParseExpr, [tx13], vP13), (n_parser_ParseExpr, [tx14], vP14), (n_parser_ParseExpr, [tx15], vP15)]
theorem okLv (ρ : Nat → Int) : TabOk Tryz.prog ρ heap0 tLv := addP12 (addP13 (addP14 (addP15 (show TabOk _ _ _ [] from trivial))))
theorem run_lives : outV (runA (mkCfg fns tLv) 200000 ⟨enterFr n_law12_lives law12_lives [], [], heap0, k40⟩) = some (n_law12_lives, (.bool true)) := by kernel_rfl
def tA : List (Nat × List AV × AV) := [(n_law12_lives, [], .bool true)]
theorem okA (ρ : Nat → Int) : TabOk Tryz.prog ρ heap0 tA := tab_cons fns_build fns_ok mix (okLv ρ) (show TabOk _ _ _ [] from trivial) ok_law12_lives (by kernel_rfl) (by kernel_rfl) few run_lives
theorem run_dec0 : outV (runA (mkCfg fns []) 200000 ⟨enterFr n_ref01_Decimal ref01_Decimal [.int .i64 (.lit 0)], [], heap0, k40⟩) = some (n_ref01_Decimal, (.str 1 48)) := by kernel_rfl
def tD0 : List (Nat × List AV × AV) := (n_ref01_Decimal, [.int .i64 (.lit 0)], .str 1 48) :: tA
theorem okD0 (ρ : Nat → Int) : TabOk Tryz.prog ρ heap0 tD0 := tab_cons fns_build fns_ok mix (show TabOk _ _ _ [] from trivial) (okA ρ) ok_ref01_Decimal (by kernel_rfl) (by kernel_rfl) few run_dec0
theorem run_dec1 : outV (runA (mkCfg fns []) 200000 ⟨enterFr n_ref01_Decimal ref01_Decimal [.int .i64 (.lit 1)], [], heap0, k40⟩) = some (n_ref01_Decimal, (.str 1 49)) := by kernel_rfl
def tD1 : List (Nat × List AV × AV) := (n_ref01_Decimal, [.int .i64 (.lit 1)], .str 1 49) :: tD0
theorem okD1 (ρ : Nat → Int) : TabOk Tryz.prog ρ heap0 tD1 := tab_cons fns_build fns_ok mix (show TabOk _ _ _ [] from trivial) (okD0 ρ) ok_ref01_Decimal (by kernel_rfl) (by kernel_rfl) few run_dec1
theorem run_dec2 : outV (runA (mkCfg fns []) 200000 ⟨enterFr n_ref01_Decimal ref01_Decimal [.int .i64 (.lit 2)], [], heap0, k40⟩) = some (n_ref01_Decimal, (.str 1 50)) := by kernel_rfl
def tD2 : List (Nat × List AV × AV) := (n_ref01_Decimal, [.int .i64 (.lit 2)], .str 1 50) :: tD1
theorem okD2 (ρ : Nat → Int) : TabOk Tryz.prog ρ heap0 tD2 := tab_cons fns_build fns_ok mix (show TabOk _ _ _ [] from trivial) (okD1 ρ) ok_ref01_Decimal (by kernel_rfl) (by kernel_rfl) few run_dec2
theorem run_dec3 : outV (runA (mkCfg fns []) 200000 ⟨enterFr n_ref01_Decimal ref01_Decimal [.int .i64 (.lit 3)], [], heap0, k40⟩) = some (n_ref01_Decimal, (.str 1 51)) := by kernel_rfl
def tD3 : List (Nat × List AV × AV) := (n_ref01_Decimal, [.int .i64 (.lit 3)], .str 1 51) :: tD2
theorem okD3 (ρ : Nat → Int) : TabOk Tryz.prog ρ heap0 tD3 := tab_cons fns_build fns_ok mix (show TabOk _ _ _ [] from trivial) (okD2 ρ) ok_ref01_Decimal (by kernel_rfl) (by kernel_rfl) few run_dec3
theorem run_dec4 : outV (runA (mkCfg fns []) 200000 ⟨enterFr n_ref01_Decimal ref01_Decimal [.int .i64 (.lit 4)], [], heap0, k40⟩) = some (n_ref01_Decimal, (.str 1 52)) := by kernel_rfl
def tD4 : List (Nat × List AV × AV) := (n_ref01_Decimal, [.int .i64 (.lit 4)], .str 1 52) :: tD3
theorem okD4 (ρ : Nat → Int) : TabOk Tryz.prog ρ heap0 tD4 := tab_cons fns_build fns_ok mix (show TabOk _ _ _ [] from trivial) (okD3 ρ) ok_ref01_Decimal (by kernel_rfl) (by kernel_rfl) few run_dec4
def tab : List (Nat × List AV × AV) := (n_parser_ParseExpr, [tx0], vP0) :: (n_parser_ParseExpr, [tx1], vP1) :: (n_parser_ParseExpr, [tx2], vP2) :: (n_parser_ParseExpr, [tx3], vP3) :: (n_parser_ParseExpr, [tx4], vP4) :: (n_parser_ParseExpr, [tx5], vP5) :: (n_parser_ParseExpr, [tx6], vP6) :: (n_parser_ParseExpr, [tx7], vP7) :: (n_parser_ParseExpr, [tx8], vP8) :: (n_parser_ParseExpr, [tx9], vP9) :: (n_parser_ParseExpr, [tx10], vP10) :: (n_parser_ParseExpr, [tx11], vP11) :: tD4
theorem tab_ok (ρ : Nat → Int) : TabOk Tryz.prog ρ heap0 tab := (addP0 (addP1 (addP2 (addP3 (addP4 (addP5 (addP6 (addP7 (addP8 (addP9 (addP10 (addP11 (okD4 ρ)))))))))))))
end Tz
