/- A part of the proof. No condition. -/
import Derived.Test.YtecbfpngkfdkoaaGreatP24
import Derived.Test.YtecbfpngkfdkoaaGreatP25
import Derived.KernelRfl
namespace Ln
open Go.Sx Go Go.Proofs
theorem axF:Ent Tryz.prog .nil 123 [txM] avI:=apL arY (by decide) (by kernel_rfl) (Fin.seg _ _ _ tg1 (CI tf))
def aCw:T Es:=one ((([txM],avI) ::at7))
theorem asH:FX Tryz.prog .nil 123 aCw:=.one ⟨axF,anD⟩
def aqL:List (Nat×T Es):=(123,aCw) ::awM
theorem ahj:uw Tryz.prog .nil aqL:=(yR tS (by decide) asH)
def vF:AV:=(.agg [.bool false,.bool false,.bool false,.bool false])
def aF:List AV:=[.agg [.sl sU 7 45 .any]]
noncomputable def u0:AM:=⟨ah 125 (fx 125) aF,[],.nil,bG⟩
noncomputable def u1:AM:=⟨{fn:=125,tm:=J4 [(k1,(.ptr bG 0)),(k2,(.ptr pR 0)),(k3,(.ptr qq 0)),(k4,(I 4))],todo:=[.inLoop (CH (fx 125).body [1,1,0,1,0,0]),.inBlock 0,.code (CH (fx 125).body [1,1,1])],dfs:=[],mode:=.run,GG:=false,wI:=none,res:=(fx 125).res},[],J4 [((.e (.o (.o (.e (.o .z))))),(.cells [.sl sU 7 45 .any] .fix)),((.o (.e (.o (.e (.o .z))))),(.cells [.bool false,.bool false,.bool false,.bool false] .fix)),((.e (.e (.o (.e (.o .z))))),(.cells [.bool false,.bool false,.bool false,.bool false] .fix))],(.o (.o (.e (.o (.e (.e (.o (.e .z))))))))⟩
end Ln
