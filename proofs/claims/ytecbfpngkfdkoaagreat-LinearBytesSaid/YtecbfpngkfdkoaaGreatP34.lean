/- A part of the proof. No condition. -/
import Derived.Test.YtecbfpngkfdkoaaGreatP30
import Derived.Test.YtecbfpngkfdkoaaGreatP31
import Derived.Test.YtecbfpngkfdkoaaGreatP32
import Derived.Test.YtecbfpngkfdkoaaGreatP33
import Derived.Test.YtecbfpngkfdkoaaGreatRows
import Derived.WalkKit
import Derived.ProofKit
import Derived.OpenShut
import Derived.Handed
import Derived.JoinedOf
import Derived.RowKit
import Derived.RowKitTokens
import Derived.Carry
namespace Go.Proofs.YtecbfpngkfdkoaaGreat.linearBytes
open Go.ChangeShapes Go.WideShapes Go.ChangeAt Go.RowKit
theorem jf:joinedFacts Tryz.prog 9 Tryz.f9 Rows.linearBytesSpec Rows.linearBytesRow=true:=by unfold joinedFacts;rw[j1,j2,j3,j4];kernel_rfl
end Go.Proofs.YtecbfpngkfdkoaaGreat.linearBytes
