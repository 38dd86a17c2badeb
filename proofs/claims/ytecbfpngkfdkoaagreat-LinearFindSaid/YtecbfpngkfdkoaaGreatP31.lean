/- A part of the proof. No condition. -/
import Derived.Test.YtecbfpngkfdkoaaGreatP29
import Derived.Test.YtecbfpngkfdkoaaGreatP30
import Derived.KernelRfl
namespace Ln
open Go.Sx Go Go.Proofs
theorem alR:Ent Tryz.prog .nil 54 [txM] vP:=aq7 aq8 (by decide) (by kernel_rfl) (Fin.seg _ _ _ mg1 (Fin.seg _ _ _ mg2 (Fin.seg _ _ _ mg3 (Fin.seg _ _ _ mg4 (Fin.seg _ _ _ mg5 (Cz mf))))))
def c54:T Es:=one [([txM],vP)]
theorem avA:HC Tryz.prog .nil 54 c54:=.one ⟨alR,trivial⟩
def aEZ:List (Nat×T Es):=(54,c54) ::[]
theorem aq9:tF Tryz.prog .nil aEZ:=(yn (show tF Tryz.prog .nil [] from trivial) (by decide) avA)
theorem XS:Ent Tryz.prog .nil 12 [] vM:=aq7 aq9 (by decide) (by kernel_rfl) (Cz (n:=2000) (by kernel_rfl))
end Ln
