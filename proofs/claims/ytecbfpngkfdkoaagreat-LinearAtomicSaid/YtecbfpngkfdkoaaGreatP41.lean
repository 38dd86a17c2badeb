/- A part of the proof. No condition. -/
import Derived.Test.YtecbfpngkfdkoaaGreatRows
import Derived.WalkKit
import Derived.ProofKit
import Derived.OpenShut
import Derived.Handed
import Derived.JoinedOf
import Derived.RowKit
import Derived.RowKitTokens
import Derived.Carry
namespace Go.Proofs.YtecbfpngkfdkoaaGreat.linearAtomic
open Go.ChangeShapes Go.WideShapes Go.ChangeAt Go.RowKit
theorem j1:(Rows.linearAtomicRow.inPlace==Tryz.prog.inPlace 11)=true:=by kernel_rfl
end Go.Proofs.YtecbfpngkfdkoaaGreat.linearAtomic
