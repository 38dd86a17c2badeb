/- A part of the proof. No condition. -/
import Derived.Test.YtecbfpngkfdkoaaGreatP11
import Derived.KernelRfl
namespace Ln
open Go.Sx Go Go.Proofs
def qN:AV:=.str 5 435761280369
def cN:AV:=.str 7 32199698088816483
def rN:AV:=.str 8 8243122732010005874
def avk:List AV:=[I 0,.str 0 0,I 0,.nils,.nils,I 0,.str 0 0,.nils,I 0,.str 0 0,I 0,.nils,.nils,.nils,I 0,I 0,I 0,.str 0 0,.nils,.nils,.nils,I 0,.nils,.nils,.nils,.nils,I 0,.str 0 0,.nils,I 0,.str 0 0,I 0,.nils,.nils,.nils,I 0,.nils,.nils,I 0,.str 0 0,I 0,.nils,.nils,.nils,I 0]
def az9:Es:=[([vM,I 4,qN],(.tuple [.agg ((pW.drop 0).take 45),.bool true])),
 ([vM,I 4,cN],(.tuple [.agg ((pW.drop 45).take 45),.bool true])),
 ([vM,I 4,rN],(.tuple [.agg ((pW.drop 90).take 45),.bool true])),
 ([vM,I 4,.str 2 31354],(.tuple [.agg avk,.bool false]))]
theorem ag3:aT Tryz.prog .nil 71 az9:=AE (tab:=[]) trivial (n:=20000) (by decide) (by kernel_rfl)
def atn:Es:=[([vM,I 4,qN],(.tuple [.agg ((pW.drop 0).take 45),.bool true])),
 ([vM,I 4,cN],(.tuple [.agg ((pW.drop 45).take 45),.bool true])),
 ([vM,I 4,rN],(.tuple [.agg ((pW.drop 90).take 45),.bool true])),
 ([vM,I 4,.str 2 31354],(.tuple [.agg avk,.bool false]))]
theorem Rx:aT Tryz.prog .nil 129 atn:=AE (tab:=[]) trivial (n:=20000) (by decide) (by kernel_rfl)
def aQ:List (Nat×T Es):=[(71,one az9),(129,one atn)]
theorem aqg:sG Tryz.prog .nil aQ:=(yr (yr (show sG Tryz.prog .nil [] from trivial) (by decide) (.one Rx)) (by decide) (.one ag3))
theorem eJ{f:Nat}(hf:idxs.contains f=true){l:List AV}{d:aL}(hl:AV.Ey l=true)(hc:aL.cu (CF aQ) f d ⟨ai f (fx f) l,[],.nil,bC⟩ [] []=true)(ρ':Nat→Int):∀(ρ:Nat→Int) (w0:W0),ji Tryz.prog .nil w0→∀H nx,LV Tryz.prog ρ w0 f (AV.gX ρ' l) H nx (d.dt.val ρ') H nx:=
 fun _ w0 hL H nx=>aqh (fun _=>rfl) (fun _ ho w0 hL=>avl aqg ho w0 hL) (iJ hf) hl few d hc w0 hL H nx
abbrev co(n a b:Nat)(t e:aL):aL:=.ask n .lss (.var a) (.var b) t e
abbrev d5(n a:Nat)(b:Int)(t e:aL):aL:=.ask n .eql (.var a) (.lit b) t e
abbrev d6(n a b:Nat)(t e:aL):aL:=.ask n .neq (.var a) (.var b) t e
abbrev d8(n a:Nat)(b:Int)(t e:aL):aL:=.ask n .neq (.var a) (.lit b) t e
abbrev d9(n a b:Nat)(t e:aL):aL:=.ask n .gtr (.var a) (.var b) t e
abbrev em(n a:Nat)(b:Int)(t e:aL):aL:=.ask n .lss (.var a) (.lit b) t e
abbrev f7(n a:Nat)(b:Int)(t e:aL):aL:=.ask n .gtr (.var a) (.lit b) t e
abbrev f8(n:Nat)(i:Int):aL:=.leaf n (I i)
abbrev f9(n:Nat)(b:Bool):aL:=.leaf n (.bool b)
abbrev io(n:Nat)(b:Bool)(i:Int):aL:=.leaf n (.tuple [.bool b,I i])
abbrev ip:aL:=.leaf 0 .nilp
abbrev bi(n:Nat)(d:aL)(l:List AV):Prop:=aL.cu (CF aQ) n d ⟨ai n (fx n) l,[],.nil,bC⟩ [] []=true
theorem bv{n:Nat}{d:aL}{l:List AV}(h:aL.cu (CF aQ) n d ⟨ai n (fx n) l,[],.nil,bC⟩ [] []=true:=by kernel_rfl):bi n d l:=h
end Ln
