/- A part of the proof. No condition. -/
import Derived.Test.YtecbfpngkfdkoaaGreatP22
import Derived.Test.YtecbfpngkfdkoaaGreatP23
import Derived.KernelRfl
set_option linter.unusedSimpArgs false
set_option linter.unusedVariables false
set_option linter.unusedSectionVars false
namespace Ln
open Go.Sx Go Go.Proofs
theorem aCu:zj Tryz.prog .nil 123 [ai] aAC:=avF axJ (by decide) (by kernel_rfl) (Fin.seg _ _ _ tg1 (xC tf))
def aGc:T Es:=one ((([ai],aAC) ::aze))
theorem aye:BA Tryz.prog .nil 123 aGc:=.one ⟨aCu,at3⟩
def awq:List (Nat×T Es):=(123,aGc) ::aBI
theorem anH:l6 Tryz.prog .nil awq:=(cw z5 (by decide) aye)
end Ln
/-
 LN: closed runs. No condition.
-/
namespace Ln
open Go.Sx Go Go.Proofs
def vF:AV:=(.agg [(.bool false),(.bool false),(.bool false),(.bool false)])
def aF:List AV:=[(.agg [(.sl qU 7 45 .any)])]
noncomputable def u0:AM:=⟨ae 125 (fx 125) aF,[],.nil,aQ⟩
noncomputable def u1:AM:=⟨{fn:=125,tm:=E4 [(k1,(.ptr aQ 0)),(k2,(.ptr jU 0)),(k3,(.ptr kV 0)),(k4,(I 4))],todo:=[.inLoop (xB (fx 125).body [1,1,0,1,0,0]),.inBlock 0,.code (xB (fx 125).body [1,1,1])],dfs:=[],mode:=.run,BX:=false,qZ:=none,res:=(fx 125).res},[],E4 [((.e (.o (.o (.e (.o .z))))),(.cells [(.sl qU 7 45 .any)] .fix)),((.o (.e (.o (.e (.o .z))))),(.cells [(.bool false),(.bool false),(.bool false),(.bool false)] .fix)),((.e (.e (.o (.e (.o .z))))),(.cells [(.bool false),(.bool false),(.bool false),(.bool false)] .fix))],(.o (.o (.e (.o (.e (.e (.o (.e .z))))))))⟩
end Ln
