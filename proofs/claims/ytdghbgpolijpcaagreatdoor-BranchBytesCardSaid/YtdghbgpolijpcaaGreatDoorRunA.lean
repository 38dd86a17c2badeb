/-
  SB: closed runs. No condition.
-/
import Derived.Test.YtdghbgpolijpcaaGreatDoorOk
import Derived.KernelRfl
set_option linter.unusedSimpArgs false
set_option linter.unusedVariables false
set_option linter.unusedSectionVars false
namespace Tb
open Go.Sx Go Go.Proofs
def txP : AV := (.str 64 3115679824701129967522656243985967920475068053078997496831951264638921915014979884218804371557469111834343506050816234977305470709929625967351345837929830)
def vP : AV := (.tuple [(.agg [(.sl [(I 1), (.str 1 102), (I 4), .nils, (.sl [(.str 1 120), (I 0), (.str 0 0), .nils] 1 4 .any), (I 0), (.str 0 0), .nils, (I 6), (.str 0 0), (I 0), .nils, .nils, (.sl [(I 9), (.str 1 60), (I 0), .nils, .nils, (.sl [(I 2), (.str 1 120), (I 0), .nils, .nils, .nils, (I 24), (I 0), (.str 0 0), (I 0), .nils, .nils, .nils, (I 28)] 2 7 .any), (I 24), (I 3), (.str 1 103), (I 0), .nils, .nils, (.sl [(I 2), (.str 1 120), (I 0), .nils, .nils, .nils, (I 37)] 1 7 .any), (I 35), (I 8), (.str 0 0), (I 0), (.sl [(.str 1 65)] 1 1 .any), (.sl [.nils] 1 1 .any), (.sl [(I 2), (.str 1 120), (I 0), .nils, .nils, .nils, (I 51), (I 0), (.str 0 0), (I 1), .nils, .nils, .nils, (I 60)] 2 7 .any), (I 45)] 3 7 .any), (I 21), (I 0), (I 0), (.str 0 0), .nils, .nils, .nils, (I 0), .nils, .nils, .nils, .nils, (I 0), (.str 0 0), .nils, (I 0), (.str 0 0), (I 0), .nils, .nils, .nils, (I 0), .nils, .nils, (I 0), (.str 0 0), (I 0), .nils, .nils, .nils, (I 0)] 1 45 .any)]), (I 0), (I 0)])
theorem run_P : outV (runA (mkCfg fnsX []) 200000 ⟨enterFr 38 (fx 38) [txP], [], heap0, k40⟩) = some (38, vP) := by kernel_rfl
def tP : List (Nat × List AV × AV) := [(38, [txP], vP)]
theorem okP (ρ : Nat → Int) : TabOk Tryz.prog ρ heap0 tP := tab_cons fns_build fns_ok mix (show TabOk _ _ _ [] from trivial) (show TabOk _ _ _ [] from trivial) (okx (n := 38) (by kernel_rfl)) (by kernel_rfl) (by kernel_rfl) few run_P
end Tb
