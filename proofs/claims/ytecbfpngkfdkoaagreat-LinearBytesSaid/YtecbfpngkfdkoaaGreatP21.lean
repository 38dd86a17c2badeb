/- A part of the proof. No condition. -/
import Derived.Test.YtecbfpngkfdkoaaGreatP19
import Derived.Test.YtecbfpngkfdkoaaGreatP20
import Derived.KernelRfl
namespace Ln
open Go.Sx Go Go.Proofs
theorem PK:Pt Tryz.prog .nil 54 [Lm] vP:=TB TC (by decide) (by kernel_rfl) (Fin.seg _ _ _ mg1 (Fin.seg _ _ _ mg2 (Fin.seg _ _ _ mg3 (Fin.seg _ _ _ mg4 (Fin.seg _ _ _ mg5 (tS mf))))))
def c54:T Es:=one [([Lm],vP)]
theorem XL:xi Tryz.prog .nil 54 c54:=.one ⟨PK,trivial⟩
def afp:List (Nat×T Es):=(54,c54) ::[]
theorem TD:nE Tryz.prog .nil afp:=(sd (show nE Tryz.prog .nil [] from trivial) (by decide) XL)
theorem N9:Pt Tryz.prog .nil 12 [] vM:=TB TD (by decide) (by kernel_rfl) (tS (n:=2000) (by kernel_rfl))
end Ln
