/- A part of the proof. No condition. -/
import Derived.Test.YtecbfpngkfdkoaaGreatP20
import Derived.Test.YtecbfpngkfdkoaaGreatP12
import Derived.KernelRfl
set_option linter.unusedSimpArgs false
set_option linter.unusedVariables false
set_option linter.unusedSectionVars false
namespace Ln
open Go.Sx Go Go.Proofs
def aAC:AV:=(.tuple [(.sl ajS 403 4 .any),(I 0),(I 0)])
noncomputable def t0:AM:=⟨ae 123 (fx 123) [ai],[],.nil,aQ⟩
noncomputable def t1:AM:=⟨{fn:=123,tm:=E4 [(k0,ai),(k5,(.sl (ajS.take 1112) 278 4 (.tok (.o (.e (.o (.e (.o (.e (.e (.o (.e .z)))))))))))),(k6,(I 720))],todo:=[.inLoop (xB (fx 123).body [1,1,1,1,0,0,0]),.inBlock 0,.code (xB (fx 123).body [1,1,1,1,1])],dfs:=[],mode:=.run,BX:=false,qZ:=none,res:=(fx 123).res},[],E4 [((.o (.e (.o (.e (.o (.e (.e (.o (.e .z))))))))),.tok)],(.e (.e (.o (.e (.o (.e (.e (.o (.e .z)))))))))⟩
end Ln
