/- A part of the proof. No condition. -/
import Derived.Test.YtecbfpngkfdkoaaGreatP29
import Derived.KernelRfl
namespace Ln
open Go.Sx Go Go.Proofs
set_option maxHeartbeats 20000000 in
set_option maxRecDepth 1000000 in
theorem mg1:BP [k2,k8,k9] [.e (.o (.o (.e (.o .z)))),.o (.e (.o (.e (.o .z)))),.e (.e (.o (.e (.o .z)))),.e (.o (.e (.o (.o (.e (.o (.e .z)))))))] (vp (CF aew []) 24300 m0)=some m1:=by kernel_rfl
end Ln
namespace Ln
open Go.Sx Go Go.Proofs
set_option maxHeartbeats 20000000 in
set_option maxRecDepth 1000000 in
theorem mg2:BP [k2,k8,k9] [.e (.o (.o (.e (.o .z)))),.o (.e (.o (.e (.o .z)))),.e (.e (.o (.e (.o .z)))),.e (.o (.e (.e (.e (.o (.e (.e (.o .z))))))))] (vp (CF aew []) 19645 m1)=some m2:=by kernel_rfl
end Ln
namespace Ln
open Go.Sx Go Go.Proofs
set_option maxHeartbeats 20000000 in
set_option maxRecDepth 1000000 in
theorem mg3:BP [k2,k8,k9] [.e (.o (.o (.e (.o .z)))),.o (.e (.o (.e (.o .z)))),.e (.e (.o (.e (.o .z)))),.e (.e (.o (.o (.o (.e (.o (.e (.e .z))))))))] (vp (CF aew []) 12609 m2)=some m3:=by kernel_rfl
end Ln
