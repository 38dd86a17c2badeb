/- A part of the proof. No condition. -/
import Derived.Test.YtecbfpngkfdkoaaGreatP14
import Derived.Test.YtecbfpngkfdkoaaGreatP15
import Derived.KernelRfl
namespace Ln
open Go.Sx Go Go.Proofs
theorem aaF:Pt Tryz.prog .nil 123 [Lm] Y7:=TB Vf (by decide) (by kernel_rfl) (Fin.seg _ _ _ tg1 (tS tf))
def aeA:T Es:=one ((([Lm],Y7) ::Xq))
theorem VJ:xi Tryz.prog .nil 123 aeA:=.one ⟨aaF,RX⟩
def Uk:List (Nat×T Es):=(123,aeA) ::aaa
theorem Nq:nE Tryz.prog .nil Uk:=(sd l9 (by decide) VJ)
def vF:AV:=(.agg [.bool false,.bool false,.bool false,.bool false])
def aF:List AV:=[.agg [.sl xG 7 45 .any]]
noncomputable def u0:AM:=⟨eK 125 (fx 125) aF,[],.nil,sh⟩
noncomputable def u1:AM:=⟨{fn:=125,tm:=At [(k1,(.ptr sh 0)),(k2,(.ptr xD 0)),(k3,(.ptr xE 0)),(k4,(I 4))],todo:=[.inLoop (tR (fx 125).body [1,1,0,1,0,0]),.inBlock 0,.code (tR (fx 125).body [1,1,1])],dfs:=[],mode:=.run,xP:=false,pz:=none,res:=(fx 125).res},[],At [((.e (.o (.o (.e (.o .z))))),(.cells [.sl xG 7 45 .any] .fix)),((.o (.e (.o (.e (.o .z))))),(.cells [.bool false,.bool false,.bool false,.bool false] .fix)),((.e (.e (.o (.e (.o .z))))),(.cells [.bool false,.bool false,.bool false,.bool false] .fix))],(.o (.o (.e (.o (.e (.e (.o (.e .z))))))))⟩
end Ln
