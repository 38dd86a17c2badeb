/- A part of the proof. No condition. -/
import Derived.Test.YtecbfpngkfdkoaaGreatP40
import Derived.Test.YtecbfpngkfdkoaaGreatP41
import Derived.Test.YtecbfpngkfdkoaaGreatP42
import Derived.Test.YtecbfpngkfdkoaaGreatP43
import Derived.Test.YtecbfpngkfdkoaaGreatRows
import Derived.WalkKit
import Derived.ProofKit
import Derived.OpenShut
import Derived.Handed
import Derived.JoinedOf
import Derived.RowKit
import Derived.RowKitTokens
import Derived.Carry
namespace Go.Proofs.YtecbfpngkfdkoaaGreat.linearMany
open Go.ChangeShapes Go.WideShapes Go.ChangeAt Go.RowKit
theorem jf:joinedFacts Tryz.prog 4 Tryz.f4 Rows.linearManySpec Rows.linearManyRow=true:=by unfold joinedFacts;rw[j1,j2,j3,j4];kernel_rfl
end Go.Proofs.YtecbfpngkfdkoaaGreat.linearMany
