/-
 PROVED: refuterlaw30.LinearRefute returns true for every value of its 5 arguments (integers and lists of integers), and the arguments read behind the call as before (row_holds : Rows.LinearRefuteSaid). CONDITION: none.
-/
import Derived.Test.YtecbfpngkfdkoaaGreatP41
import Derived.Test.YtecbfpngkfdkoaaGreatP46
import Derived.Test.YtecbfpngkfdkoaaGreatRows
import Derived.WalkKit
import Derived.ProofKit
import Derived.OpenShut
import Derived.Handed
import Derived.JoinedOf
import Derived.RowKit
import Derived.RowKitTokens
import Derived.Carry
set_option linter.unusedSimpArgs false
set_option linter.unusedVariables false
set_option linter.unusedSectionVars false
namespace Go.Proofs.YtecbfpngkfdkoaaGreat.linearRefute
open Go.ChangeShapes Go.WideShapes Go.ChangeAt Go.RowKit
theorem row_holds:Rows.LinearRefuteSaid:=
 OpenClaim.holds_of_wide 5 Tryz.f5 rfl rfl rfl rfl rfl rfl rfl ⟨rfl,rfl,rfl,rfl,rfl⟩ rfl rfl rfl rfl rfl (by kernel_rfl) Tryz.func5 jf
  (of_decide_eq_true (by kernel_rfl)) (by unfold Func.isWrapper;first|(rw[if_pos (by decide +kernel)];kernel_rfl)|(rw[if_neg (by decide +kernel)];exact⟨rfl,rfl⟩))
  (fun os started H enc _=>lifted os started H enc)
#print axioms row_holds
end Go.Proofs.YtecbfpngkfdkoaaGreat.linearRefute
