/-
 SV: closed runs. No condition.
-/
import Derived.Test.YthhjnogfljegnaaGreatDoorRunA
import Derived.KernelRfl
set_option linter.unusedSimpArgs false
set_option linter.unusedVariables false
set_option linter.unusedSectionVars false
namespace Tz
open Go.Sx Go Go.Proofs
def vT3 : AV := (.tuple [(.sl [(I 0), (I 0), (I 0), (.str 2 29793), (I 3), (I 2), (I 0), (.str 1 40), (I 3), (I 3), (I 0), (.str 1 91), (I 2), (I 4), (I 5), (.str 1 53), (I 3), (I 5), (I 0), (.str 1 93), (I 3), (I 6), (I 0), (.str 1 44), (I 2), (I 8), (I 1), (.str 1 49), (I 3), (I 9), (I 0), (.str 1 41)] 8 4 .any), (I 0), (I 0)])
theorem run_tok3 : outV (runA (mkCfg fnsX []) 200000 ⟨enterFr 115 (fx 115) [tx3], [], heap0, k40⟩) = some (115, vT3) := by kernel_rfl
theorem okTok3 (ρ : Nat → Int) : TabOk Tryz.prog ρ heap0 ((115, [tx3], vT3) :: tRes) := tab_cons fns_build fns_ok mix (show TabOk _ _ _ [] from trivial) (okRes ρ) (okx (n := 115) (by kernel_rfl)) (by kernel_rfl) (by kernel_rfl) few run_tok3
theorem run_par3 : outV (runA (mkCfg fnsX ((115, [tx3], vT3) :: tRes)) 200000 ⟨enterFr 26 (fx 26) [tx3], [], heap0, k40⟩) = some (26, vP3) := by kernel_rfl
theorem addP3 {ρ : Nat → Int} {tab : List (Nat × List AV × AV)} (h : TabOk Tryz.prog ρ heap0 tab) : TabOk Tryz.prog ρ heap0 ((26, [tx3], vP3) :: tab) := tab_cons fns_build fns_ok mix (okTok3 ρ) h (okx (n := 26) (by kernel_rfl)) (by kernel_rfl) (by kernel_rfl) few run_par3
def vT5 : AV := (.tuple [(.sl [(I 0), (I 0), (I 0), (.str 3 7889261), (I 3), (I 3), (I 0), (.str 1 40), (I 2), (I 4), (I 1), (.str 1 49), (I 3), (I 5), (I 0), (.str 1 44), (I 2), (I 7), (I 2), (.str 1 50), (I 3), (I 8), (I 0), (.str 1 41)] 6 4 .any), (I 0), (I 0)])
theorem run_tok5 : outV (runA (mkCfg fnsX []) 200000 ⟨enterFr 115 (fx 115) [tx5], [], heap0, k40⟩) = some (115, vT5) := by kernel_rfl
theorem okTok5 (ρ : Nat → Int) : TabOk Tryz.prog ρ heap0 ((115, [tx5], vT5) :: tRes) := tab_cons fns_build fns_ok mix (show TabOk _ _ _ [] from trivial) (okRes ρ) (okx (n := 115) (by kernel_rfl)) (by kernel_rfl) (by kernel_rfl) few run_tok5
theorem run_par5 : outV (runA (mkCfg fnsX ((115, [tx5], vT5) :: tRes)) 200000 ⟨enterFr 26 (fx 26) [tx5], [], heap0, k40⟩) = some (26, vP5) := by kernel_rfl
theorem addP5 {ρ : Nat → Int} {tab : List (Nat × List AV × AV)} (h : TabOk Tryz.prog ρ heap0 tab) : TabOk Tryz.prog ρ heap0 ((26, [tx5], vP5) :: tab) := tab_cons fns_build fns_ok mix (okTok5 ρ) h (okx (n := 26) (by kernel_rfl)) (by kernel_rfl) (by kernel_rfl) few run_par5
end Tz
