/- A part of the proof. No condition. -/
import Derived.Test.YtecbfpngkfdkoaaGreatP11
import Derived.KernelRfl
namespace Ln
open Go.Sx Go Go.Proofs
def qN:AV:=.str 5 435761280369
def cN:AV:=.str 7 32199698088816483
def rN:AV:=.str 8 8243122732010005874
def apN:List AV:=[I 0,.str 0 0,I 0,.nils,.nils,I 0,.str 0 0,.nils,I 0,.str 0 0,I 0,.nils,.nils,.nils,I 0,I 0,I 0,.str 0 0,.nils,.nils,.nils,I 0,.nils,.nils,.nils,.nils,I 0,.str 0 0,.nils,I 0,.str 0 0,I 0,.nils,.nils,.nils,I 0,.nils,.nils,I 0,.str 0 0,I 0,.nils,.nils,.nils,I 0]
def au5:Es:=[([vM,I 4,qN],(.tuple [.agg ((ph.drop 0).take 45),.bool true])),
 ([vM,I 4,cN],(.tuple [.agg ((ph.drop 45).take 45),.bool true])),
 ([vM,I 4,rN],(.tuple [.agg ((ph.drop 90).take 45),.bool true])),
 ([vM,I 4,.str 2 31354],(.tuple [.agg apN,.bool false]))]
theorem acw:aO Tryz.prog .nil 71 au5:=xL (tab:=[]) trivial (n:=20000) (by decide) (by kernel_rfl)
def an5:Es:=[([vM,I 4,qN],(.tuple [.agg ((ph.drop 0).take 45),.bool true])),
 ([vM,I 4,cN],(.tuple [.agg ((ph.drop 45).take 45),.bool true])),
 ([vM,I 4,rN],(.tuple [.agg ((ph.drop 90).take 45),.bool true])),
 ([vM,I 4,.str 2 31354],(.tuple [.agg apN,.bool false]))]
theorem ON:aO Tryz.prog .nil 129 an5:=xL (tab:=[]) trivial (n:=20000) (by decide) (by kernel_rfl)
def aY:List (Nat×T Es):=[(71,one au5),(129,one an5)]
theorem alm:qy Tryz.prog .nil aY:=(vp (vp (show qy Tryz.prog .nil [] from trivial) (by decide) (.one ON)) (by decide) (.one acw))
theorem fG{f:Nat}(hf:idxs.contains f=true){l:List AV}{d:aV}(hl:AV.Ec l=true)(hc:aV.dY (CF aY) f d ⟨an f (fx f) l,[],.nil,bD⟩ [] []=true)(ρ':Nat→Int):∀(ρ:Nat→Int) (w0:W0),iE Tryz.prog .nil w0→∀H nx,JA Tryz.prog ρ w0 f (AV.gT ρ' l) H nx (d.dt.val ρ') H nx:=
 fun _ w0 hL H nx=>aln (fun _=>rfl) (fun _ ho w0 hL=>apO alm ho w0 hL) (iL hf) hl few d hc w0 hL H nx
abbrev bv(n a b:Nat)(t e:aV):aV:=.ask n .lss (.var a) (.var b) t e
abbrev ce(n a:Nat)(b:Int)(t e:aV):aV:=.ask n .eql (.var a) (.lit b) t e
abbrev co(n a b:Nat)(t e:aV):aV:=.ask n .neq (.var a) (.var b) t e
abbrev d3(n a:Nat)(b:Int)(t e:aV):aV:=.ask n .neq (.var a) (.lit b) t e
abbrev d4(n a b:Nat)(t e:aV):aV:=.ask n .gtr (.var a) (.var b) t e
abbrev d5(n a:Nat)(b:Int)(t e:aV):aV:=.ask n .lss (.var a) (.lit b) t e
abbrev d6(n a:Nat)(b:Int)(t e:aV):aV:=.ask n .gtr (.var a) (.lit b) t e
abbrev d8(n:Nat)(i:Int):aV:=.leaf n (I i)
abbrev d9(n:Nat)(b:Bool):aV:=.leaf n (.bool b)
abbrev em(n:Nat)(b:Bool)(i:Int):aV:=.leaf n (.tuple [.bool b,I i])
abbrev f7:aV:=.leaf 0 .nilp
abbrev be(n:Nat)(d:aV)(l:List AV):Prop:=aV.dY (CF aY) n d ⟨an n (fx n) l,[],.nil,bD⟩ [] []=true
theorem bi{n:Nat}{d:aV}{l:List AV}(h:aV.dY (CF aY) n d ⟨an n (fx n) l,[],.nil,bD⟩ [] []=true:=by kernel_rfl):be n d l:=h
end Ln
