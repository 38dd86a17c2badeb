/- A part of the proof. No condition. -/
import Derived.Test.YtecbfpngkfdkoaaGreatP39
import Derived.Test.YtecbfpngkfdkoaaGreatP44
import Derived.Test.YtecbfpngkfdkoaaGreatRows
import Derived.WalkKit
import Derived.ProofKit
import Derived.OpenShut
import Derived.Handed
import Derived.JoinedOf
import Derived.RowKit
import Derived.RowKitTokens
import Derived.Carry
namespace Go.Proofs.YtecbfpngkfdkoaaGreat.linearMany
open Go.ChangeShapes Go.WideShapes Go.ChangeAt Go.RowKit
theorem row_holds:Rows.LinearManySaid:=
 OpenClaim.holds_of_wide 4 Tryz.f4 rfl rfl rfl rfl rfl rfl rfl ⟨rfl,rfl,rfl,rfl,rfl⟩ rfl rfl rfl rfl rfl (by kernel_rfl) Tryz.func4 jf
  (of_decide_eq_true (by kernel_rfl)) (by unfold Func.isWrapper;first|(rw[if_pos (by decide +kernel)];kernel_rfl)|(rw[if_neg (by decide +kernel)];exact⟨rfl,rfl⟩))
  (fun os started H enc _=>lifted os started H enc)
#print axioms row_holds
end Go.Proofs.YtecbfpngkfdkoaaGreat.linearMany
