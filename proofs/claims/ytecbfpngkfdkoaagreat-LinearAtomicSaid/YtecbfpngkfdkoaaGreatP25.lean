/- A part of the proof. No condition. -/
import Derived.Test.YtecbfpngkfdkoaaGreatP24
import Derived.KernelRfl
namespace Ln
open Go.Sx Go Go.Proofs
set_option maxHeartbeats 20000000 in
set_option maxRecDepth 1000000 in
theorem tg1:BP [k0,k5,k6] [.o (.e (.o (.e (.o (.e (.e (.o (.e .z))))))))] (vp (CF avi []) 14977 t0)=some t1:=by kernel_rfl
end Ln
