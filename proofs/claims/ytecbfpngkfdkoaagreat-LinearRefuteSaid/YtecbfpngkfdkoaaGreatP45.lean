/- A part of the proof. No condition. -/
import Derived.Test.YtecbfpngkfdkoaaGreatRows
import Derived.WalkKit
import Derived.ProofKit
import Derived.OpenShut
import Derived.Handed
import Derived.JoinedOf
import Derived.RowKit
import Derived.RowKitTokens
import Derived.Carry
set_option linter.unusedSimpArgs false
set_option linter.unusedVariables false
set_option linter.unusedSectionVars false
namespace Go.Proofs.YtecbfpngkfdkoaaGreat.linearRefute
open Go.ChangeShapes Go.WideShapes Go.ChangeAt Go.RowKit
theorem j4:(Rows.linearRefuteRow.named==Tryz.prog.varsNamed 5)=true:=by kernel_rfl
end Go.Proofs.YtecbfpngkfdkoaaGreat.linearRefute
