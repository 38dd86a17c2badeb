/- A part of the proof: SdRow6. No condition. -/
import Derived.Test.YthhjnogfljegnaaGreatDoorRowA
import Derived.Test.YthhjnogfljegnaaGreatDoorCards
import Derived.Test.YthhjnogfljegnaaGreatDoorTie
import Derived.SevenTiedAt
import Derived.ChangeVars
import Derived.JoinedOf
import Derived.RowKit
import Derived.RowKitTokens
import Derived.LaidHandle
import Derived.Stop.Joined
import Derived.Carry
set_option linter.unusedSimpArgs false
set_option linter.unusedVariables false
set_option linter.unusedSectionVars false
namespace Go.Proofs.YthhjnogfljegnaaGreatDoor.evalDeep
open Go.ChangeShapes Go.WideShapes Go.ChangeAt Go.RowKit
theorem g2 : true = Tryz.prog.looks [] := by kernel_rfl
theorem g3 : Tryz.prog.funcNamed Rows.evalDeepRow.func = some 10 := by kernel_rfl
theorem g4 : Tryz.prog.wantsStandIn 3 = false := by kernel_rfl
end Go.Proofs.YthhjnogfljegnaaGreatDoor.evalDeep
