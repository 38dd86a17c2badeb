/- A part of the proof. No condition. -/
import Derived.Test.YtecbfpngkfdkoaaGreatP28
import Derived.Test.YtecbfpngkfdkoaaGreatP29
import Derived.Test.YtecbfpngkfdkoaaGreatP30
import Derived.Test.YtecbfpngkfdkoaaGreatP31
import Derived.Test.YtecbfpngkfdkoaaGreatP32
import Derived.Test.YtecbfpngkfdkoaaGreatP33
import Derived.KernelRfl
set_option linter.unusedSimpArgs false
set_option linter.unusedVariables false
set_option linter.unusedSectionVars false
namespace Ln
open Go.Sx Go Go.Proofs
theorem arV:zj Tryz.prog .nil 54 [ai] vP:=avF avG (by decide) (by kernel_rfl) (Fin.seg _ _ _ mg1 (Fin.seg _ _ _ mg2 (Fin.seg _ _ _ mg3 (Fin.seg _ _ _ mg4 (Fin.seg _ _ _ mg5 (xC mf))))))
def c54:T Es:=one [([ai],vP)]
theorem azy:BA Tryz.prog .nil 54 c54:=.one ⟨arV,trivial⟩
def aHB:List (Nat×T Es):=(54,c54) ::[]
theorem avH:l6 Tryz.prog .nil aHB:=(cw (show l6 Tryz.prog .nil [] from trivial) (by decide) azy)
theorem QE:zj Tryz.prog .nil 12 [] vM:=avF avH (by decide) (by kernel_rfl) (xC (n:=2000) (by kernel_rfl))
end Ln
