/- A part of the proof. No condition. -/
import Derived.Test.YtecbfpngkfdkoaaGreatP11
import Derived.KernelRfl
namespace Ln
open Go.Sx Go Go.Proofs
def qN:AV:=.str 5 435761280369
def cN:AV:=.str 7 32199698088816483
def rN:AV:=.str 8 8243122732010005874
def av0:List AV:=[I 0,.str 0 0,I 0,.nils,.nils,I 0,.str 0 0,.nils,I 0,.str 0 0,I 0,.nils,.nils,.nils,I 0,I 0,I 0,.str 0 0,.nils,.nils,.nils,I 0,.nils,.nils,.nils,.nils,I 0,.str 0 0,.nils,I 0,.str 0 0,I 0,.nils,.nils,.nils,I 0,.nils,.nils,I 0,.str 0 0,I 0,.nils,.nils,.nils,I 0]
def aBg:Es:=[([vM,I 4,qN],(.tuple [.agg ((qx.drop 0).take 45),.bool true])),
 ([vM,I 4,cN],(.tuple [.agg ((qx.drop 45).take 45),.bool true])),
 ([vM,I 4,rN],(.tuple [.agg ((qx.drop 90).take 45),.bool true])),
 ([vM,I 4,.str 2 31354],(.tuple [.agg av0,.bool false]))]
theorem ag3:aR Tryz.prog .nil 71 aBg:=zH (tab:=[]) trivial (n:=20000) (by decide) (by kernel_rfl)
def atX:Es:=[([vM,I 4,qN],(.tuple [.agg ((qx.drop 0).take 45),.bool true])),
 ([vM,I 4,cN],(.tuple [.agg ((qx.drop 45).take 45),.bool true])),
 ([vM,I 4,rN],(.tuple [.agg ((qx.drop 90).take 45),.bool true])),
 ([vM,I 4,.str 2 31354],(.tuple [.agg av0,.bool false]))]
theorem Re:aR Tryz.prog .nil 129 atX:=zH (tab:=[]) trivial (n:=20000) (by decide) (by kernel_rfl)
def aL:List (Nat×T Es):=[(71,one aBg),(129,one atX)]
theorem aqJ:sG Tryz.prog .nil aL:=(xI (xI (show sG Tryz.prog .nil [] from trivial) (by decide) (.one Re)) (by decide) (.one ag3))
theorem cU{f:Nat}(hf:idxs.contains f=true){l:List AV}{d:aI}(hl:AV.Bb l=true)(hc:aI.cn (CF aL) f d ⟨ah f (fx f) l,[],.nil,bz⟩ [] []=true)(ρ':Nat→Int):∀(ρ:Nat→Int) (w0:W0),jI Tryz.prog .nil w0→∀H nx,Lb Tryz.prog ρ w0 f (AV.ep ρ' l) H nx (d.dt.val ρ') H nx:=
 fun _ w0 hL H nx=>aqK (fun _=>rfl) (fun _ ho w0 hL=>av1 aqJ ho w0 hL) (iO hf) hl few d hc w0 hL H nx
abbrev d3(n a b:Nat)(t e:aI):aI:=.ask n .lss (.var a) (.var b) t e
abbrev d4(n a:Nat)(b:Int)(t e:aI):aI:=.ask n .eql (.var a) (.lit b) t e
abbrev d5(n a b:Nat)(t e:aI):aI:=.ask n .neq (.var a) (.var b) t e
abbrev d6(n a:Nat)(b:Int)(t e:aI):aI:=.ask n .neq (.var a) (.lit b) t e
abbrev d8(n a b:Nat)(t e:aI):aI:=.ask n .gtr (.var a) (.var b) t e
abbrev d9(n a:Nat)(b:Int)(t e:aI):aI:=.ask n .lss (.var a) (.lit b) t e
abbrev em(n a:Nat)(b:Int)(t e:aI):aI:=.ask n .gtr (.var a) (.lit b) t e
abbrev f7(n:Nat)(i:Int):aI:=.leaf n (I i)
abbrev f9(n:Nat)(b:Bool):aI:=.leaf n (.bool b)
abbrev gc(n:Nat)(b:Bool)(i:Int):aI:=.leaf n (.tuple [.bool b,I i])
abbrev io:aI:=.leaf 0 .nilp
abbrev bi(n:Nat)(d:aI)(l:List AV):Prop:=aI.cn (CF aL) n d ⟨ah n (fx n) l,[],.nil,bz⟩ [] []=true
theorem co{n:Nat}{d:aI}{l:List AV}(h:aI.cn (CF aL) n d ⟨ah n (fx n) l,[],.nil,bz⟩ [] []=true:=by kernel_rfl):bi n d l:=h
end Ln
