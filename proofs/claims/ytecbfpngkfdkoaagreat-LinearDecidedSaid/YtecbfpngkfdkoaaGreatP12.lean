/- A part of the proof. No condition. -/
import Derived.Test.YtecbfpngkfdkoaaGreatP11
import Derived.KernelRfl
namespace Ln
open Go.Sx Go Go.Proofs
def qN:AV:=.str 5 435761280369
def cN:AV:=.str 7 32199698088816483
def rN:AV:=.str 8 8243122732010005874
def auG:List AV:=[I 0,.str 0 0,I 0,.nils,.nils,I 0,.str 0 0,.nils,I 0,.str 0 0,I 0,.nils,.nils,.nils,I 0,I 0,I 0,.str 0 0,.nils,.nils,.nils,I 0,.nils,.nils,.nils,.nils,I 0,.str 0 0,.nils,I 0,.str 0 0,I 0,.nils,.nils,.nils,I 0,.nils,.nils,I 0,.str 0 0,I 0,.nils,.nils,.nils,I 0]
def azo:Es:=[([vM,I 4,qN],(.tuple [.agg ((sU.drop 0).take 45),.bool true])),
 ([vM,I 4,cN],(.tuple [.agg ((sU.drop 45).take 45),.bool true])),
 ([vM,I 4,rN],(.tuple [.agg ((sU.drop 90).take 45),.bool true])),
 ([vM,I 4,.str 2 31354],(.tuple [.agg auG,.bool false]))]
theorem agE:aT Tryz.prog .nil 71 azo:=AR (tab:=[]) trivial (n:=20000) (by decide) (by kernel_rfl)
def asW:Es:=[([vM,I 4,qN],(.tuple [.agg ((sU.drop 0).take 45),.bool true])),
 ([vM,I 4,cN],(.tuple [.agg ((sU.drop 45).take 45),.bool true])),
 ([vM,I 4,rN],(.tuple [.agg ((sU.drop 90).take 45),.bool true])),
 ([vM,I 4,.str 2 31354],(.tuple [.agg auG,.bool false]))]
theorem Rh:aT Tryz.prog .nil 129 asW:=AR (tab:=[]) trivial (n:=20000) (by decide) (by kernel_rfl)
def aR:List (Nat×T Es):=[(71,one azo),(129,one asW)]
theorem apZ:uw Tryz.prog .nil aR:=(yR (yR (show uw Tryz.prog .nil [] from trivial) (by decide) (.one Rh)) (by decide) (.one agE))
theorem iv{f:Nat}(hf:idxs.contains f=true){l:List AV}{d:aP}(hl:AV.IP l=true)(hc:aP.di (CF aR) f d ⟨ah f (fx f) l,[],.nil,bG⟩ [] []=true)(ρ':Nat→Int):∀(ρ:Nat→Int) (w0:W0),kl Tryz.prog .nil w0→∀H nx,Lg Tryz.prog ρ w0 f (AV.jC ρ' l) H nx (d.dt.val ρ') H nx:=
 fun _ w0 hL H nx=>ap0 (fun _=>rfl) (fun _ ho w0 hL=>auH apZ ho w0 hL) (l9 hf) hl few d hc w0 hL H nx
abbrev bv(n a b:Nat)(t e:aP):aP:=.ask n .lss (.var a) (.var b) t e
abbrev ce(n a:Nat)(b:Int)(t e:aP):aP:=.ask n .eql (.var a) (.lit b) t e
abbrev co(n a b:Nat)(t e:aP):aP:=.ask n .neq (.var a) (.var b) t e
abbrev d4(n a:Nat)(b:Int)(t e:aP):aP:=.ask n .neq (.var a) (.lit b) t e
abbrev d5(n a b:Nat)(t e:aP):aP:=.ask n .gtr (.var a) (.var b) t e
abbrev d6(n a:Nat)(b:Int)(t e:aP):aP:=.ask n .lss (.var a) (.lit b) t e
abbrev d8(n a:Nat)(b:Int)(t e:aP):aP:=.ask n .gtr (.var a) (.lit b) t e
abbrev d9(n:Nat)(i:Int):aP:=.leaf n (I i)
abbrev em(n:Nat)(b:Bool):aP:=.leaf n (.bool b)
abbrev f9(n:Nat)(b:Bool)(i:Int):aP:=.leaf n (.tuple [.bool b,I i])
abbrev gc:aP:=.leaf 0 .nilp
abbrev be(n:Nat)(d:aP)(l:List AV):Prop:=aP.di (CF aR) n d ⟨ah n (fx n) l,[],.nil,bG⟩ [] []=true
theorem bi{n:Nat}{d:aP}{l:List AV}(h:aP.di (CF aR) n d ⟨ah n (fx n) l,[],.nil,bG⟩ [] []=true:=by kernel_rfl):be n d l:=h
end Ln
