/- A part of the proof. No condition. -/
import Derived.Test.YtecbfpngkfdkoaaGreatP28
import Derived.Test.YtecbfpngkfdkoaaGreatP29
import Derived.Test.YtecbfpngkfdkoaaGreatP30
import Derived.Test.YtecbfpngkfdkoaaGreatP31
import Derived.Test.YtecbfpngkfdkoaaGreatP32
import Derived.Test.YtecbfpngkfdkoaaGreatP33
import Derived.KernelRfl
set_option linter.unusedSimpArgs false
set_option linter.unusedVariables false
set_option linter.unusedSectionVars false
namespace Ln
open Go.Sx Go Go.Proofs
theorem arb:yv Tryz.prog .nil 54 [ag] vP:=auS auT (by decide) (by kernel_rfl) (Fin.seg _ _ _ mg1 (Fin.seg _ _ _ mg2 (Fin.seg _ _ _ mg3 (Fin.seg _ _ _ mg4 (Fin.seg _ _ _ mg5 (wT mf))))))
def c54:T Es:=one [([ag],vP)]
theorem ayN:AU Tryz.prog .nil 54 c54:=.one ⟨arb,trivial⟩
def aGH:List (Nat×T Es):=(54,c54) ::[]
theorem auU:kX Tryz.prog .nil aGH:=(bY (show kX Tryz.prog .nil [] from trivial) (by decide) ayN)
theorem PR:yv Tryz.prog .nil 12 [] vM:=auS auU (by decide) (by kernel_rfl) (wT (n:=2000) (by kernel_rfl))
end Ln
