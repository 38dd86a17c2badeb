/- A part of the proof. No condition. -/
import Derived.Test.YtecbfpngkfdkoaaGreatP30
import Derived.Test.YtecbfpngkfdkoaaGreatP31
import Derived.KernelRfl
namespace Ln
open Go.Sx Go Go.Proofs
theorem akZ:Ent Tryz.prog .nil 54 [txM] vP:=ap1 ap2 (by decide) (by kernel_rfl) (Fin.seg _ _ _ mg1 (Fin.seg _ _ _ mg2 (Fin.seg _ _ _ mg3 (Fin.seg _ _ _ mg4 (Fin.seg _ _ _ mg5 (Ch mf))))))
def c54:T Es:=one [([txM],vP)]
theorem au9:FJ Tryz.prog .nil 54 c54:=.one ⟨akZ,trivial⟩
def aE7:List (Nat×T Es):=(54,c54) ::[]
theorem ap3:sG Tryz.prog .nil aE7:=(yr (show sG Tryz.prog .nil [] from trivial) (by decide) au9)
theorem Wa:Ent Tryz.prog .nil 12 [] vM:=ap1 ap3 (by decide) (by kernel_rfl) (Ch (n:=2000) (by kernel_rfl))
end Ln
