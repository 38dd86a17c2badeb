/- A part of the proof. No condition. -/
import Derived.Test.YtecbfpngkfdkoaaGreatP22
import Derived.Test.YtecbfpngkfdkoaaGreatP11
import Derived.KernelRfl
namespace Ln
open Go.Sx Go Go.Proofs
def aru:AV:=(.tuple [.sl Za 403 4 .any,I 0,I 0])
noncomputable def t0:AM:=⟨an 123 (fx 123) [YW],[],.nil,bD⟩
noncomputable def t1:AM:=⟨{fn:=123,tm:=It [(k0,YW),(k5,(.sl (Za.take 1112) 278 4 (.tok (.o (.e (.o (.e (.o (.e (.e (.o (.e .z)))))))))))),(k6,(I 720))],todo:=[.inLoop (zF (fx 123).body [1,1,1,1,0,0,0]),.inBlock 0,.code (zF (fx 123).body [1,1,1,1,1])],dfs:=[],mode:=.run,Ew:=false,sV:=none,res:=(fx 123).res},[],It [((.o (.e (.o (.e (.o (.e (.e (.o (.e .z))))))))),.tok)],(.e (.e (.o (.e (.o (.e (.e (.o (.e .z)))))))))⟩
end Ln
