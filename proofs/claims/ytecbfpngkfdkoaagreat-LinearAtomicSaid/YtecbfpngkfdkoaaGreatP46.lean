/- A part of the proof. No condition. -/
import Derived.Test.YtecbfpngkfdkoaaGreatP40
import Derived.Test.YtecbfpngkfdkoaaGreatP45
import Derived.Test.YtecbfpngkfdkoaaGreatRows
import Derived.WalkKit
import Derived.ProofKit
import Derived.OpenShut
import Derived.Handed
import Derived.JoinedOf
import Derived.RowKit
import Derived.RowKitTokens
import Derived.Carry
namespace Go.Proofs.YtecbfpngkfdkoaaGreat.linearAtomic
open Go.ChangeShapes Go.WideShapes Go.ChangeAt Go.RowKit
theorem row_holds:Rows.LinearAtomicSaid:=
 OpenClaim.holds_of_wide 11 Tryz.f11 rfl rfl rfl rfl rfl rfl rfl ⟨rfl,rfl,rfl,rfl,rfl⟩ rfl rfl rfl rfl rfl (by kernel_rfl) Tryz.func11 jf
  (of_decide_eq_true (by kernel_rfl)) (by unfold Func.isWrapper;first|(rw[if_pos (by decide +kernel)];kernel_rfl)|(rw[if_neg (by decide +kernel)];exact⟨rfl,rfl⟩))
  (fun os started H enc _=>lifted os started H enc)
#print axioms row_holds
end Go.Proofs.YtecbfpngkfdkoaaGreat.linearAtomic
