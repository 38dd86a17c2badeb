/- A part of the proof. No condition. -/
import Derived.Test.YtecbfpngkfdkoaaGreatP27
import Derived.KernelRfl
namespace Ln
open Go.Sx Go Go.Proofs
set_option maxHeartbeats 20000000 in
set_option maxRecDepth 1000000 in
theorem ug1:BP [k1,k2,k3,k4] [.e (.o (.o (.e (.o .z)))),.o (.e (.o (.e (.o .z)))),.e (.e (.o (.e (.o .z))))] (vp (CF aqY []) 13248 u0)=some u1:=by kernel_rfl
end Ln
namespace Ln
open Go.Sx Go Go.Proofs
set_option maxHeartbeats 20000000 in
set_option maxRecDepth 1000000 in
theorem uf:aji 125 vF (vp (CF aqY []) 7316 u1)=true:=by kernel_rfl
end Ln
