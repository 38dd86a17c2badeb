/- A part of the proof. No condition. -/
import Derived.Test.YtecbfpngkfdkoaaGreatP12
import Derived.KernelRfl
set_option linter.unusedSimpArgs false
set_option linter.unusedVariables false
set_option linter.unusedSectionVars false
namespace Ln
open Go.Sx Go Go.Proofs
def qN:AV:=.str 5 435761280369
def cN:AV:=.str 7 32199698088816483
def rN:AV:=.str 8 8243122732010005874
def aCU:Es:=[([vM,(I 4),qN],(.tuple [.agg ((qd.drop 0).take 45),.bool true])),
 ([vM,(I 4),cN],(.tuple [.agg ((qd.drop 45).take 45),.bool true])),
 ([vM,(I 4),rN],(.tuple [.agg ((qd.drop 90).take 45),.bool true]))]
theorem ami:aZ Tryz.prog .nil 71 aCU:=Bt (tab:=[]) trivial (n:=20000) (by decide) (by kernel_rfl)
def axF:Es:=[([vM,(I 4),qN],(.tuple [.agg ((qd.drop 0).take 45),.bool true])),
 ([vM,(I 4),cN],(.tuple [.agg ((qd.drop 45).take 45),.bool true])),
 ([vM,(I 4),rN],(.tuple [.agg ((qd.drop 90).take 45),.bool true]))]
theorem TS:aZ Tryz.prog .nil 129 axF:=Bt (tab:=[]) trivial (n:=20000) (by decide) (by kernel_rfl)
def aD:List (Nat×T Es):=[(71,one aCU),(129,one axF)]
theorem au3:kX Tryz.prog .nil aD:=(bY (bY (show kX Tryz.prog .nil [] from trivial) (by decide) (.one TS)) (by decide) (.one ami))
theorem fw{f:Nat}(hf:idxs.contains f=true){l:List AV}{d:aA}(hl:AV.HI l=true)(hc:aA.cp (CF aD) f d ⟨ae f (fx f) l,[],.nil,aS⟩ [] []=true)(ρ':Nat→Int):∀ (ρ:Nat→Int) (w0:W0),kZ Tryz.prog .nil w0→∀ H nx,LA Tryz.prog ρ w0 f (AV.gw ρ' l) H nx (d.dt.val ρ') H nx:=
 fun _ w0 hL H nx=>au4 (fun _=>rfl) (fun _ ho w0 hL=>ayW au3 ho w0 hL) (kH hf) hl few d hc w0 hL H nx
end Ln
