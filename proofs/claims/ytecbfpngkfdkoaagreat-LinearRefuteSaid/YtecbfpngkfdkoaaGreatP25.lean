/- A part of the proof. No condition. -/
import Derived.Test.YtecbfpngkfdkoaaGreatP24
import Derived.KernelRfl
set_option linter.unusedSimpArgs false
set_option linter.unusedVariables false
set_option linter.unusedSectionVars false
namespace Ln
open Go.Sx Go Go.Proofs
set_option maxHeartbeats 20000000 in
set_option maxRecDepth 1000000 in
theorem ug1:wS [k1,k2,k3,k4] [(.e (.o (.o (.e (.o .z))))),(.o (.e (.o (.e (.o .z))))),(.e (.e (.o (.e (.o .z)))))] (rX (CF awq []) 13248 u0)=some u1:=by kernel_rfl
end Ln
