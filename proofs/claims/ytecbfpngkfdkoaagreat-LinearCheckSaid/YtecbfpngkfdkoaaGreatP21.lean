/- A part of the proof. No condition. -/
import Derived.Test.YtecbfpngkfdkoaaGreatP20
import Derived.Test.YtecbfpngkfdkoaaGreatP12
import Derived.KernelRfl
set_option linter.unusedSimpArgs false
set_option linter.unusedVariables false
set_option linter.unusedSectionVars false
namespace Ln
open Go.Sx Go Go.Proofs
def azO:AV:=(.tuple [(.sl ai2 403 4 .any),(I 0),(I 0)])
noncomputable def t0:AM:=⟨ae 123 (fx 123) [ag],[],.nil,aS⟩
noncomputable def t1:AM:=⟨{fn:=123,tm:=Eo [(k0,ag),(k5,(.sl (ai2.take 1112) 278 4 (.tok (.o (.e (.o (.e (.o (.e (.e (.o (.e .z)))))))))))),(k6,(I 720))],todo:=[.inLoop (wS (fx 123).body [1,1,1,1,0,0,0]),.inBlock 0,.code (wS (fx 123).body [1,1,1,1,1])],dfs:=[],mode:=.run,Bs:=false,sy:=none,res:=(fx 123).res},[],Eo [((.o (.e (.o (.e (.o (.e (.e (.o (.e .z))))))))),.tok)],(.e (.e (.o (.e (.o (.e (.e (.o (.e .z)))))))))⟩
end Ln
