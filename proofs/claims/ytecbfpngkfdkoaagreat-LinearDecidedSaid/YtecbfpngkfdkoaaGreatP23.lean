/- A part of the proof. No condition. -/
import Derived.Test.YtecbfpngkfdkoaaGreatP22
import Derived.Test.YtecbfpngkfdkoaaGreatP11
import Derived.KernelRfl
namespace Ln
open Go.Sx Go Go.Proofs
def avI:AV:=(.tuple [.sl adi 403 4 .any,I 0,I 0])
noncomputable def t0:AM:=⟨ah 123 (fx 123) [txM],[],.nil,bG⟩
noncomputable def t1:AM:=⟨{fn:=123,tm:=J4 [(k0,txM),(k5,(.sl (adi.take 1112) 278 4 (.tok (.o (.e (.o (.e (.o (.e (.e (.o (.e .z)))))))))))),(k6,(I 720))],todo:=[.inLoop (CH (fx 123).body [1,1,1,1,0,0,0]),.inBlock 0,.code (CH (fx 123).body [1,1,1,1,1])],dfs:=[],mode:=.run,GG:=false,wI:=none,res:=(fx 123).res},[],J4 [((.o (.e (.o (.e (.o (.e (.e (.o (.e .z))))))))),.tok)],(.e (.e (.o (.e (.o (.e (.e (.o (.e .z)))))))))⟩
end Ln
