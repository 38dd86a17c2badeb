/- A part of the proof. No condition. -/
import Derived.Test.YtecbfpngkfdkoaaGreatP24
import Derived.Test.YtecbfpngkfdkoaaGreatP25
import Derived.KernelRfl
namespace Ln
open Go.Sx Go Go.Proofs
theorem atq:Ent Tryz.prog .nil 123 [YW] aru:=ak8 am6 (by decide) (by kernel_rfl) (Fin.seg _ _ _ tg1 (zG tf))
def axZ:T Es:=one ((([YW],aru) ::apb))
theorem anN:DR Tryz.prog .nil 123 axZ:=.one ⟨atq,ajh⟩
def al3:List (Nat×T Es):=(123,axZ) ::asv
theorem adj:qy Tryz.prog .nil al3:=(vp qf (by decide) anN)
def vF:AV:=(.agg [.bool false,.bool false,.bool false,.bool false])
def aF:List AV:=[.agg [.sl ph 7 45 .any]]
noncomputable def u0:AM:=⟨an 125 (fx 125) aF,[],.nil,bD⟩
noncomputable def u1:AM:=⟨{fn:=125,tm:=It [(k1,(.ptr bD 0)),(k2,(.ptr mF 0)),(k3,(.ptr lS 0)),(k4,(I 4))],todo:=[.inLoop (zF (fx 125).body [1,1,0,1,0,0]),.inBlock 0,.code (zF (fx 125).body [1,1,1])],dfs:=[],mode:=.run,Ew:=false,sV:=none,res:=(fx 125).res},[],It [((.e (.o (.o (.e (.o .z))))),(.cells [.sl ph 7 45 .any] .fix)),((.o (.e (.o (.e (.o .z))))),(.cells [.bool false,.bool false,.bool false,.bool false] .fix)),((.e (.e (.o (.e (.o .z))))),(.cells [.bool false,.bool false,.bool false,.bool false] .fix))],(.o (.o (.e (.o (.e (.e (.o (.e .z))))))))⟩
end Ln
