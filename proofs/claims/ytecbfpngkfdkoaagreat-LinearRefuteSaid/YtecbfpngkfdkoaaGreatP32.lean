/- A part of the proof. No condition. -/
import Derived.Test.YtecbfpngkfdkoaaGreatP27
import Derived.KernelRfl
set_option linter.unusedSimpArgs false
set_option linter.unusedVariables false
set_option linter.unusedSectionVars false
namespace Ln
open Go.Sx Go Go.Proofs
set_option maxHeartbeats 20000000 in
set_option maxRecDepth 1000000 in
theorem mg5:wS [k2,k8,k9] [(.e (.o (.o (.e (.o .z))))),(.o (.e (.o (.e (.o .z))))),(.e (.e (.o (.e (.o .z))))),(.o (.e (.e (.o (.o (.e (.e (.o (.e (.o .z))))))))))] (rX (CF akz []) 12944 m4)=some m5:=by kernel_rfl
end Ln
