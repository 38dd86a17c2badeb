/- A part of the proof: SdRow3. No condition. -/
import Derived.Test.YthhjnogfljegnaaGreatDoorRowA
import Derived.Test.YthhjnogfljegnaaGreatDoorCards
import Derived.Test.YthhjnogfljegnaaGreatDoorTie
import Derived.SevenTiedAt
import Derived.ChangeVars
import Derived.JoinedOf
import Derived.RowKit
import Derived.RowKitTokens
import Derived.LaidHandle
import Derived.Stop.Joined
import Derived.Carry
set_option linter.unusedSimpArgs false
set_option linter.unusedVariables false
set_option linter.unusedSectionVars false
namespace Go.Proofs.YthhjnogfljegnaaGreatDoor.evalDeep
open Go.ChangeShapes Go.WideShapes Go.ChangeAt Go.RowKit
theorem j1 : (Rows.evalDeepRow.inPlace == Tryz.prog.inPlace 10) = true := by kernel_rfl
theorem j2 : (Rows.evalDeepRow.unfollowed == Tryz.prog.unfollowed 10) = true := by kernel_rfl
theorem j3 : (Rows.evalDeepRow.recurses == Tryz.prog.recurses 10) = true := by kernel_rfl
theorem j4 : (Rows.evalDeepRow.named == Tryz.prog.varsNamed 10) = true := by kernel_rfl
theorem jf : joinedFacts Tryz.prog 10 Tryz.f10 Rows.evalDeepSpec Rows.evalDeepRow = true := by
 unfold joinedFacts
 rw [j1, j2, j3, j4]
 kernel_rfl
end Go.Proofs.YthhjnogfljegnaaGreatDoor.evalDeep
