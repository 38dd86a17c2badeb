/- A part of the proof. No condition. -/
import Derived.Test.YtecbfpngkfdkoaaGreatP22
import Derived.Test.YtecbfpngkfdkoaaGreatP23
import Derived.KernelRfl
set_option linter.unusedSimpArgs false
set_option linter.unusedVariables false
set_option linter.unusedSectionVars false
namespace Ln
open Go.Sx Go Go.Proofs
theorem aBz:yv Tryz.prog .nil 123 [ag] azO:=auS awO (by decide) (by kernel_rfl) (Fin.seg _ _ _ tg1 (wT tf))
def aFr:T Es:=one ((([ag],azO) ::ays))
theorem axp:AU Tryz.prog .nil 123 aFr:=.one ⟨aBz,atk⟩
def avG:List (Nat×T Es):=(123,aFr) ::aAS
theorem amM:kX Tryz.prog .nil avG:=(bY zg (by decide) axp)
end Ln
/-
 LN: closed runs. No condition.
-/
namespace Ln
open Go.Sx Go Go.Proofs
def vF:AV:=(.agg [(.bool false),(.bool false),(.bool false),(.bool false)])
def aF:List AV:=[(.agg [(.sl qd 7 45 .any)])]
noncomputable def u0:AM:=⟨ae 125 (fx 125) aF,[],.nil,aS⟩
noncomputable def u1:AM:=⟨{fn:=125,tm:=Eo [(k1,(.ptr aS 0)),(k2,(.ptr lr 0)),(k3,(.ptr my 0)),(k4,(I 4))],todo:=[.inLoop (wS (fx 125).body [1,1,0,1,0,0]),.inBlock 0,.code (wS (fx 125).body [1,1,1])],dfs:=[],mode:=.run,Bs:=false,sy:=none,res:=(fx 125).res},[],Eo [((.e (.o (.o (.e (.o .z))))),(.cells [(.sl qd 7 45 .any)] .fix)),((.o (.e (.o (.e (.o .z))))),(.cells [(.bool false),(.bool false),(.bool false),(.bool false)] .fix)),((.e (.e (.o (.e (.o .z))))),(.cells [(.bool false),(.bool false),(.bool false),(.bool false)] .fix))],(.o (.o (.e (.o (.e (.e (.o (.e .z))))))))⟩
end Ln
