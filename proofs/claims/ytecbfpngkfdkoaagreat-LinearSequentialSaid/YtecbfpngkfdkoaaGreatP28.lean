/- A part of the proof. No condition. -/
import Derived.Test.YtecbfpngkfdkoaaGreatP26
import Derived.Test.YtecbfpngkfdkoaaGreatP27
import Derived.KernelRfl
namespace Ln
open Go.Sx Go Go.Proofs
theorem azz:Ent Tryz.prog .nil 123 [txM] axN:=aqz as2 (by decide) (by kernel_rfl) (Fin.seg _ _ _ tg1 (BD tf))
def aEz:T Es:=one ((([txM],axN) ::avs))
theorem atF:EP Tryz.prog .nil 123 aEz:=.one ⟨azz,aoA⟩
def arG:List (Nat×T Es):=(123,aEz) ::ayN
theorem ahQ:sG Tryz.prog .nil arG:=(xI sn (by decide) atF)
def vF:AV:=(.agg [.bool false,.bool false,.bool false,.bool false])
def aF:List AV:=[.agg [.sl qx 7 45 .any]]
noncomputable def u0:AM:=⟨ah 125 (fx 125) aF,[],.nil,bz⟩
noncomputable def u1:AM:=⟨{fn:=125,tm:=JR [(k1,(.ptr bz 0)),(k2,(.ptr uM 0)),(k3,(.ptr sD 0)),(k4,(I 4))],todo:=[.inLoop (BC (fx 125).body [1,1,0,1,0,0]),.inBlock 0,.code (BC (fx 125).body [1,1,1])],dfs:=[],mode:=.run,FE:=false,uW:=none,res:=(fx 125).res},[],JR [((.e (.o (.o (.e (.o .z))))),(.cells [.sl qx 7 45 .any] .fix)),((.o (.e (.o (.e (.o .z))))),(.cells [.bool false,.bool false,.bool false,.bool false] .fix)),((.e (.e (.o (.e (.o .z))))),(.cells [.bool false,.bool false,.bool false,.bool false] .fix))],(.o (.o (.e (.o (.e (.e (.o (.e .z))))))))⟩
end Ln
