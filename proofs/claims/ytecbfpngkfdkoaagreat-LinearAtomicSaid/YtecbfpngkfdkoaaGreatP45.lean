/- A part of the proof. No condition. -/
import Derived.Test.YtecbfpngkfdkoaaGreatP41
import Derived.Test.YtecbfpngkfdkoaaGreatP42
import Derived.Test.YtecbfpngkfdkoaaGreatP43
import Derived.Test.YtecbfpngkfdkoaaGreatP44
import Derived.Test.YtecbfpngkfdkoaaGreatRows
import Derived.WalkKit
import Derived.ProofKit
import Derived.OpenShut
import Derived.Handed
import Derived.JoinedOf
import Derived.RowKit
import Derived.RowKitTokens
import Derived.Carry
namespace Go.Proofs.YtecbfpngkfdkoaaGreat.linearAtomic
open Go.ChangeShapes Go.WideShapes Go.ChangeAt Go.RowKit
theorem jf:joinedFacts Tryz.prog 11 Tryz.f11 Rows.linearAtomicSpec Rows.linearAtomicRow=true:=by unfold joinedFacts;rw[j1,j2,j3,j4];kernel_rfl
end Go.Proofs.YtecbfpngkfdkoaaGreat.linearAtomic
