/- A part of the proof. No condition. -/
import Derived.Test.YtecbfpngkfdkoaaGreatP30
import Derived.KernelRfl
namespace Ln
open Go.Sx Go Go.Proofs
set_option maxHeartbeats 20000000 in
set_option maxRecDepth 1000000 in
theorem mg4:Ba [k2,k8,k9] [.e (.o (.o (.e (.o .z)))),.o (.e (.o (.e (.o .z)))),.e (.e (.o (.e (.o .z)))),.e (.o (.e (.o (.e (.o (.o (.e (.o (.o .z)))))))))] (wi (CF aet []) 15638 m3)=some m4:=by kernel_rfl
end Ln
namespace Ln
open Go.Sx Go Go.Proofs
set_option maxHeartbeats 20000000 in
set_option maxRecDepth 1000000 in
theorem mg5:Ba [k2,k8,k9] [.e (.o (.o (.e (.o .z)))),.o (.e (.o (.e (.o .z)))),.e (.e (.o (.e (.o .z)))),.o (.e (.e (.o (.o (.e (.e (.o (.e (.o .z)))))))))] (wi (CF aet []) 12944 m4)=some m5:=by kernel_rfl
end Ln
namespace Ln
open Go.Sx Go Go.Proofs
set_option maxHeartbeats 20000000 in
set_option maxRecDepth 1000000 in
theorem mf:ajm 54 vP (wi (CF aet []) 25525 m5)=true:=by kernel_rfl
end Ln
