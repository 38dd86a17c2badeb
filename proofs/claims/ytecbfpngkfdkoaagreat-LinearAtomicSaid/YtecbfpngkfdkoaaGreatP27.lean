/- A part of the proof. No condition. -/
import Derived.Test.YtecbfpngkfdkoaaGreatP25
import Derived.Test.YtecbfpngkfdkoaaGreatP26
import Derived.KernelRfl
namespace Ln
open Go.Sx Go Go.Proofs
theorem ayu:Ent Tryz.prog .nil 123 [txM] awv:=ap1 asp (by decide) (by kernel_rfl) (Fin.seg _ _ _ tg1 (Ch tf))
def aDl:T Es:=one ((([txM],awv) ::auH))
theorem as6:FJ Tryz.prog .nil 123 aDl:=.one ⟨ayu,anZ⟩
def aqY:List (Nat×T Es):=(123,aDl) ::axE
theorem ahI:sG Tryz.prog .nil aqY:=(yr r9 (by decide) as6)
def vF:AV:=(.agg [.bool false,.bool false,.bool false,.bool false])
def aF:List AV:=[.agg [.sl pW 7 45 .any]]
noncomputable def u0:AM:=⟨ai 125 (fx 125) aF,[],.nil,bC⟩
noncomputable def u1:AM:=⟨{fn:=125,tm:=Ki [(k1,(.ptr bC 0)),(k2,(.ptr ub 0)),(k3,(.ptr uc 0)),(k4,(I 4))],todo:=[.inLoop (Cg (fx 125).body [1,1,0,1,0,0]),.inBlock 0,.code (Cg (fx 125).body [1,1,1])],dfs:=[],mode:=.run,GG:=false,vm:=none,res:=(fx 125).res},[],Ki [((.e (.o (.o (.e (.o .z))))),(.cells [.sl pW 7 45 .any] .fix)),((.o (.e (.o (.e (.o .z))))),(.cells [.bool false,.bool false,.bool false,.bool false] .fix)),((.e (.e (.o (.e (.o .z))))),(.cells [.bool false,.bool false,.bool false,.bool false] .fix))],(.o (.o (.e (.o (.e (.e (.o (.e .z))))))))⟩
end Ln
