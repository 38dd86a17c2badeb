/- A part of the proof: SdRow7. No condition. -/
import Derived.Test.YthhjnogfljegnaaGreatDoorRowA
import Derived.Test.YthhjnogfljegnaaGreatDoorCards
import Derived.Test.YthhjnogfljegnaaGreatDoorTie
import Derived.SevenTiedAt
import Derived.ChangeVars
import Derived.JoinedOf
import Derived.RowKit
import Derived.RowKitTokens
import Derived.LaidHandle
import Derived.Stop.Joined
import Derived.Carry
import Derived.Test.YthhjnogfljegnaaGreatDoorRowC
import Derived.Test.YthhjnogfljegnaaGreatDoorRowD
import Derived.Test.YthhjnogfljegnaaGreatDoorRowE
set_option linter.unusedSimpArgs false
set_option linter.unusedVariables false
set_option linter.unusedSectionVars false
namespace Go.Proofs.YthhjnogfljegnaaGreatDoor.evalDeep
open Go.ChangeShapes Go.WideShapes Go.ChangeAt Go.RowKit
theorem card_holds : Rows.EvalDeepCardSaid :=
 Claim7.holds_tied_plain_at .later [] [.data, .data] true (true, "d25650f0cffee949eb912449aea1ed643ff1c5c28f62661d74f4a44b811d4dfb") true
  row_holds (fun _ h => by cases h) (by kernel_rfl) (fun _ h => by cases h) evalDeep_row_tie rfl ⟨rfl, rfl⟩ (by kernel_rfl) rfl
  (fun f fn hf hfn => by
   obtain rfl : f = 10 := Option.some.inj (g3.symm.trans hf) |>.symm
   obtain rfl : fn = Tryz.f10 := (Option.some.inj (Tryz.func10.symm.trans hfn)).symm
   exact ⟨g2, fun j t ht => by
    rw [Tryz.params10] at ht
    have h3 : t = 3 := by
     rcases j with _ | _ | j
     ·exact (Option.some.inj ht).symm
     ·exact (Option.some.inj ht).symm
     ·simp at ht
    subst h3
    exact g4⟩)
  g1
#print axioms card_holds
end Go.Proofs.YthhjnogfljegnaaGreatDoor.evalDeep
