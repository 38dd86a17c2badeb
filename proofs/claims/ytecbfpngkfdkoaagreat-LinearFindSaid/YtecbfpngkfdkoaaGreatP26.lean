/- A part of the proof. No condition. -/
import Derived.Test.YtecbfpngkfdkoaaGreatP24
import Derived.Test.YtecbfpngkfdkoaaGreatP25
import Derived.KernelRfl
namespace Ln
open Go.Sx Go Go.Proofs
theorem ayD:Ent Tryz.prog .nil 123 [txM] awE:=aq7 as7 (by decide) (by kernel_rfl) (Fin.seg _ _ _ tg1 (Cz tf))
def aDm:T Es:=one ((([txM],awE) ::avc))
theorem atH:HC Tryz.prog .nil 123 aDm:=.one ⟨ayD,ao8⟩
def ar0:List (Nat×T Es):=(123,aDm) ::axJ
theorem aiA:tF Tryz.prog .nil ar0:=(yn sW (by decide) atH)
def vF:AV:=(.agg [.bool false,.bool false,.bool false,.bool false])
def aF:List AV:=[.agg [.sl sb 7 45 .any]]
noncomputable def u0:AM:=⟨ai 125 (fx 125) aF,[],.nil,bw⟩
noncomputable def u1:AM:=⟨{fn:=125,tm:=Lx [(k1,(.ptr bw 0)),(k2,(.ptr mQ 0)),(k3,(.ptr mq 0)),(k4,(I 4))],todo:=[.inLoop (Cy (fx 125).body [1,1,0,1,0,0]),.inBlock 0,.code (Cy (fx 125).body [1,1,1])],dfs:=[],mode:=.run,H6:=false,vW:=none,res:=(fx 125).res},[],Lx [((.e (.o (.o (.e (.o .z))))),(.cells [.sl sb 7 45 .any] .fix)),((.o (.e (.o (.e (.o .z))))),(.cells [.bool false,.bool false,.bool false,.bool false] .fix)),((.e (.e (.o (.e (.o .z))))),(.cells [.bool false,.bool false,.bool false,.bool false] .fix))],(.o (.o (.e (.o (.e (.e (.o (.e .z))))))))⟩
end Ln
