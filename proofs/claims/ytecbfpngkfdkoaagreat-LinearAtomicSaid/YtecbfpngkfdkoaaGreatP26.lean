/- A part of the proof. No condition. -/
import Derived.Test.YtecbfpngkfdkoaaGreatP24
import Derived.KernelRfl
namespace Ln
open Go.Sx Go Go.Proofs
set_option maxHeartbeats 20000000 in
set_option maxRecDepth 1000000 in
theorem tf:aji 123 awv (vp (CF avi []) 6523 t1)=true:=by kernel_rfl
end Ln
