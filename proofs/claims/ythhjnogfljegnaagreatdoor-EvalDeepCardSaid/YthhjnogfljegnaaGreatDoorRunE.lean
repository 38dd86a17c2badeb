/-
 SV: closed runs. No condition.
-/
import Derived.Test.YthhjnogfljegnaaGreatDoorRunA
import Derived.KernelRfl
set_option linter.unusedSimpArgs false
set_option linter.unusedVariables false
set_option linter.unusedSectionVars false
namespace Tz
open Go.Sx Go Go.Proofs
def vT2 : AV := (.tuple [(.sl [(I 0), (I 0), (I 0), (.str 2 26217), (I 2), (I 3), (I 1), (.str 1 49), (I 3), (I 5), (I 0), (.str 1 60), (I 2), (I 7), (I 2), (.str 1 50), (I 0), (I 9), (I 0), (.str 4 1852139636), (I 0), (I 14), (I 0), (.str 2 29793), (I 3), (I 16), (I 0), (.str 1 40), (I 3), (I 17), (I 0), (.str 1 91), (I 2), (I 18), (I 5), (.str 1 53), (I 3), (I 19), (I 0), (.str 1 44), (I 2), (I 21), (I 6), (.str 1 54), (I 3), (I 22), (I 0), (.str 1 93), (I 3), (I 23), (I 0), (.str 1 44), (I 2), (I 25), (I 1), (.str 1 49), (I 3), (I 26), (I 0), (.str 1 41), (I 0), (I 28), (I 0), (.str 4 1702063205), (I 2), (I 33), (I 0), (.str 1 48)] 17 4 .any), (I 0), (I 0)])
theorem run_tok2 : outV (runA (mkCfg fnsX []) 200000 ⟨enterFr 115 (fx 115) [tx2], [], heap0, k40⟩) = some (115, vT2) := by kernel_rfl
theorem okTok2 (ρ : Nat → Int) : TabOk Tryz.prog ρ heap0 ((115, [tx2], vT2) :: tRes) := tab_cons fns_build fns_ok mix (show TabOk _ _ _ [] from trivial) (okRes ρ) (okx (n := 115) (by kernel_rfl)) (by kernel_rfl) (by kernel_rfl) few run_tok2
theorem run_par2 : outV (runA (mkCfg fnsX ((115, [tx2], vT2) :: tRes)) 200000 ⟨enterFr 26 (fx 26) [tx2], [], heap0, k40⟩) = some (26, vP2) := by kernel_rfl
theorem addP2 {ρ : Nat → Int} {tab : List (Nat × List AV × AV)} (h : TabOk Tryz.prog ρ heap0 tab) : TabOk Tryz.prog ρ heap0 ((26, [tx2], vP2) :: tab) := tab_cons fns_build fns_ok mix (okTok2 ρ) h (okx (n := 26) (by kernel_rfl)) (by kernel_rfl) (by kernel_rfl) few run_par2
end Tz
