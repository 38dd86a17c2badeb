/- A part of the proof. No condition. -/
import Derived.Test.YtecbfpngkfdkoaaGreatP42
import Derived.Test.YtecbfpngkfdkoaaGreatP43
import Derived.Test.YtecbfpngkfdkoaaGreatP44
import Derived.Test.YtecbfpngkfdkoaaGreatP45
import Derived.Test.YtecbfpngkfdkoaaGreatRows
import Derived.WalkKit
import Derived.ProofKit
import Derived.OpenShut
import Derived.Handed
import Derived.JoinedOf
import Derived.RowKit
import Derived.RowKitTokens
import Derived.Carry
namespace Go.Proofs.YtecbfpngkfdkoaaGreat.linearSequential
open Go.ChangeShapes Go.WideShapes Go.ChangeAt Go.RowKit
theorem jf:joinedFacts Tryz.prog 10 Tryz.f10 Rows.linearSequentialSpec Rows.linearSequentialRow=true:=by unfold joinedFacts;rw[j1,j2,j3,j4];kernel_rfl
end Go.Proofs.YtecbfpngkfdkoaaGreat.linearSequential
