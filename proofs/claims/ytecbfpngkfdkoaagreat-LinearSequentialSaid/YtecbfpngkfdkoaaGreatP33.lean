/- A part of the proof. No condition. -/
import Derived.Test.YtecbfpngkfdkoaaGreatP31
import Derived.Test.YtecbfpngkfdkoaaGreatP32
import Derived.KernelRfl
namespace Ln
open Go.Sx Go Go.Proofs
theorem akZ:Ent Tryz.prog .nil 54 [txM] vP:=aqz aqA (by decide) (by kernel_rfl) (Fin.seg _ _ _ mg1 (Fin.seg _ _ _ mg2 (Fin.seg _ _ _ mg3 (Fin.seg _ _ _ mg4 (Fin.seg _ _ _ mg5 (BD mf))))))
def c54:T Es:=one [([txM],vP)]
theorem avO:EP Tryz.prog .nil 54 c54:=.one ⟨akZ,trivial⟩
def aGa:List (Nat×T Es):=(54,c54) ::[]
theorem aqB:sG Tryz.prog .nil aGa:=(xI (show sG Tryz.prog .nil [] from trivial) (by decide) avO)
theorem Wt:Ent Tryz.prog .nil 12 [] vM:=aqz aqB (by decide) (by kernel_rfl) (BD (n:=2000) (by kernel_rfl))
end Ln
