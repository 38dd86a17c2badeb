/- A part of the proof. No condition. -/
import Derived.Test.YtecbfpngkfdkoaaGreatP12
import Derived.KernelRfl
set_option linter.unusedSimpArgs false
set_option linter.unusedVariables false
set_option linter.unusedSectionVars false
namespace Ln
open Go.Sx Go Go.Proofs
def qN:AV:=.str 5 435761280369
def cN:AV:=.str 7 32199698088816483
def rN:AV:=.str 8 8243122732010005874
def aDP:Es:=[([vM,(I 4),qN],(.tuple [.agg ((qU.drop 0).take 45),.bool true])),
 ([vM,(I 4),cN],(.tuple [.agg ((qU.drop 45).take 45),.bool true])),
 ([vM,(I 4),rN],(.tuple [.agg ((qU.drop 90).take 45),.bool true]))]
theorem am6:aY Tryz.prog .nil 71 aDP:=BZ (tab:=[]) trivial (n:=20000) (by decide) (by kernel_rfl)
def ayu:Es:=[([vM,(I 4),qN],(.tuple [.agg ((qU.drop 0).take 45),.bool true])),
 ([vM,(I 4),cN],(.tuple [.agg ((qU.drop 45).take 45),.bool true])),
 ([vM,(I 4),rN],(.tuple [.agg ((qU.drop 90).take 45),.bool true]))]
theorem UO:aY Tryz.prog .nil 129 ayu:=BZ (tab:=[]) trivial (n:=20000) (by decide) (by kernel_rfl)
def aE:List (Nat×T Es):=[(71,one aDP),(129,one ayu)]
theorem avS:l6 Tryz.prog .nil aE:=(cw (cw (show l6 Tryz.prog .nil [] from trivial) (by decide) (.one UO)) (by decide) (.one am6))
theorem fW{f:Nat}(hf:idxs.contains f=true){l:List AV}{d:aB}(hl:AV.Iy l=true)(hc:aB.cz (CF aE) f d ⟨ae f (fx f) l,[],.nil,aQ⟩ [] []=true)(ρ':Nat→Int):∀ (ρ:Nat→Int) (w0:W0),l9 Tryz.prog .nil w0→∀ H nx,Mi Tryz.prog ρ w0 f (AV.gW ρ' l) H nx (d.dt.val ρ') H nx:=
 fun _ w0 hL H nx=>avT (fun _=>rfl) (fun _ ho w0 hL=>azG avS ho w0 hL) (lK hf) hl few d hc w0 hL H nx
abbrev lAq(n a b:Nat)(t e:aB):aB:=.ask n .lss (.var a) (.var b) t e
abbrev lBq(n a:Nat)(b:Int)(t e:aB):aB:=.ask n .eql (.var a) (.lit b) t e
abbrev lCq(n a b:Nat)(t e:aB):aB:=.ask n .neq (.var a) (.var b) t e
abbrev lDq(n a:Nat)(b:Int)(t e:aB):aB:=.ask n .neq (.var a) (.lit b) t e
abbrev lEq(n a b:Nat)(t e:aB):aB:=.ask n .gtr (.var a) (.var b) t e
abbrev lFq(n a:Nat)(b:Int)(t e:aB):aB:=.ask n .lss (.var a) (.lit b) t e
abbrev lGq(n a:Nat)(b:Int)(t e:aB):aB:=.ask n .gtr (.var a) (.lit b) t e
abbrev lHq(n:Nat)(i:Int):aB:=.leaf n (I i)
abbrev lKq(n:Nat)(b:Bool):aB:=.leaf n (.bool b)
abbrev lMq(n:Nat)(b:Bool)(i:Int):aB:=.leaf n (.tuple [.bool b,I i])
abbrev lNq:aB:=.leaf 0 .nilp
end Ln
