/- A part of the proof. No condition. -/
import Derived.Test.YtecbfpngkfdkoaaGreatP23
import Derived.Test.YtecbfpngkfdkoaaGreatP11
import Derived.KernelRfl
namespace Ln
open Go.Sx Go Go.Proofs
def awv:AV:=(.tuple [.sl adB 403 4 .any,I 0,I 0])
noncomputable def t0:AM:=⟨ai 123 (fx 123) [txM],[],.nil,bC⟩
noncomputable def t1:AM:=⟨{fn:=123,tm:=Ki [(k0,txM),(k5,(.slice (.o (.e (.o (.e (.o (.e (.e (.o (.e .z))))))))) 0 278 4)),(k6,(I 720))],todo:=[.inLoop (Cg (fx 123).body [1,1,1,1,0,0,0]),.inBlock 0,.code (Cg (fx 123).body [1,1,1,1,1])],dfs:=[],mode:=.run,GG:=false,vm:=none,res:=(fx 123).res},[],Ki [((.o (.e (.o (.e (.o (.e (.e (.o (.e .z))))))))),(.cells (adB.take 1112) .part))],(.e (.e (.o (.e (.o (.e (.e (.o (.e .z)))))))))⟩
end Ln
