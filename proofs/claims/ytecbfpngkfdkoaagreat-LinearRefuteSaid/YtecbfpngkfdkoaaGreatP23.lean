/- A part of the proof. No condition. -/
import Derived.Test.YtecbfpngkfdkoaaGreatP21
import Derived.KernelRfl
set_option linter.unusedSimpArgs false
set_option linter.unusedVariables false
set_option linter.unusedSectionVars false
namespace Ln
open Go.Sx Go Go.Proofs
set_option maxHeartbeats 20000000 in
set_option maxRecDepth 1000000 in
theorem tf:aqB 123 aAC (rX (CF azF []) 6523 t1)=true:=by kernel_rfl
end Ln
