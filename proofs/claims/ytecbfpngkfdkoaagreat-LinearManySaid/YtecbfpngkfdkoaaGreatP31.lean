/- A part of the proof. No condition. -/
import Derived.Test.YtecbfpngkfdkoaaGreatP29
import Derived.Test.YtecbfpngkfdkoaaGreatP30
import Derived.KernelRfl
namespace Ln
open Go.Sx Go Go.Proofs
theorem agn:Ent Tryz.prog .nil 54 [YW] vP:=ak8 ak9 (by decide) (by kernel_rfl) (Fin.seg _ _ _ mg1 (Fin.seg _ _ _ mg2 (Fin.seg _ _ _ mg3 (Fin.seg _ _ _ mg4 (Fin.seg _ _ _ mg5 (zG mf))))))
def c54:T Es:=one [([YW],vP)]
theorem apC:DR Tryz.prog .nil 54 c54:=.one ⟨agn,trivial⟩
def azx:List (Nat×T Es):=(54,c54) ::[]
theorem ala:qy Tryz.prog .nil azx:=(vp (show qy Tryz.prog .nil [] from trivial) (by decide) apC)
theorem Sz:Ent Tryz.prog .nil 12 [] vM:=ak8 ala (by decide) (by kernel_rfl) (zG (n:=2000) (by kernel_rfl))
end Ln
