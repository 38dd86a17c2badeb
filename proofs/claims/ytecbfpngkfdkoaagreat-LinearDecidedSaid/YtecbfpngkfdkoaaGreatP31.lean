/- A part of the proof. No condition. -/
import Derived.Test.YtecbfpngkfdkoaaGreatP29
import Derived.Test.YtecbfpngkfdkoaaGreatP30
import Derived.KernelRfl
namespace Ln
open Go.Sx Go Go.Proofs
theorem akv:Ent Tryz.prog .nil 54 [txM] vP:=apL apM (by decide) (by kernel_rfl) (Fin.seg _ _ _ mg1 (Fin.seg _ _ _ mg2 (Fin.seg _ _ _ mg3 (Fin.seg _ _ _ mg4 (Fin.seg _ _ _ mg5 (CI mf))))))
def c54:T Es:=one [([txM],vP)]
theorem auv:FX Tryz.prog .nil 54 c54:=.one ⟨akv,trivial⟩
def aDY:List (Nat×T Es):=(54,c54) ::[]
theorem apN:uw Tryz.prog .nil aDY:=(yR (show uw Tryz.prog .nil [] from trivial) (by decide) auv)
theorem V8:Ent Tryz.prog .nil 12 [] vM:=apL apN (by decide) (by kernel_rfl) (CI (n:=2000) (by kernel_rfl))
end Ln
