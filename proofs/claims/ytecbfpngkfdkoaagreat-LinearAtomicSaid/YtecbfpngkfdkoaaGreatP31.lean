/- A part of the proof. No condition. -/
import Derived.Test.YtecbfpngkfdkoaaGreatP29
import Derived.KernelRfl
namespace Ln
open Go.Sx Go Go.Proofs
set_option maxHeartbeats 20000000 in
set_option maxRecDepth 1000000 in
theorem mg4:BP [k2,k8,k9] [.e (.o (.o (.e (.o .z)))),.o (.e (.o (.e (.o .z)))),.e (.e (.o (.e (.o .z)))),.e (.o (.e (.o (.e (.o (.o (.e (.o (.o .z)))))))))] (vp (CF aew []) 15638 m3)=some m4:=by kernel_rfl
end Ln
namespace Ln
open Go.Sx Go Go.Proofs
set_option maxHeartbeats 20000000 in
set_option maxRecDepth 1000000 in
theorem mg5:BP [k2,k8,k9] [.e (.o (.o (.e (.o .z)))),.o (.e (.o (.e (.o .z)))),.e (.e (.o (.e (.o .z)))),.o (.e (.e (.o (.o (.e (.e (.o (.e (.o .z)))))))))] (vp (CF aew []) 12944 m4)=some m5:=by kernel_rfl
end Ln
namespace Ln
open Go.Sx Go Go.Proofs
set_option maxHeartbeats 20000000 in
set_option maxRecDepth 1000000 in
theorem mf:aji 54 vP (vp (CF aew []) 25525 m5)=true:=by kernel_rfl
end Ln
