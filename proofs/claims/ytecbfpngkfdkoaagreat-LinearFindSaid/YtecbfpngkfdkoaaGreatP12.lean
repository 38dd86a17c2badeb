/- A part of the proof. No condition. -/
import Derived.Test.YtecbfpngkfdkoaaGreatP11
import Derived.KernelRfl
namespace Ln
open Go.Sx Go Go.Proofs
def qN:AV:=.str 5 435761280369
def cN:AV:=.str 7 32199698088816483
def rN:AV:=.str 8 8243122732010005874
def ajF:List AV:=[I 0,.str 0 0,I 0,.nils,.nils,I 0,.str 0 0,.nils,I 0,.str 0 0,I 0,.nils,.nils,.nils,I 0,I 0,I 0,.str 0 0,.nils,.nils,.nils,I 0,.nils,.nils,.nils,.nils,I 0,.str 0 0,.nils,I 0,.str 0 0,I 0,.nils,.nils,.nils,I 0,.nils,.nils,I 0,.str 0 0,I 0,.nils,.nils,.nils,I 0]
def aAh:Es:=[([vM,I 4,qN],(.tuple [.agg ((sb.drop 0).take 45),.bool true])),
 ([vM,I 4,cN],(.tuple [.agg ((sb.drop 45).take 45),.bool true])),
 ([vM,I 4,rN],(.tuple [.agg ((sb.drop 90).take 45),.bool true])),
 ([vM,I 4,.str 2 31354],(.tuple [.agg ajF,.bool false]))]
theorem ahT:aV Tryz.prog .nil 71 aAh:=Aq (tab:=[]) trivial (n:=20000) (by decide) (by kernel_rfl)
def atW:Es:=[([vM,I 4,qN],(.tuple [.agg ((sb.drop 0).take 45),.bool true])),
 ([vM,I 4,cN],(.tuple [.agg ((sb.drop 45).take 45),.bool true])),
 ([vM,I 4,rN],(.tuple [.agg ((sb.drop 90).take 45),.bool true])),
 ([vM,I 4,.str 2 31354],(.tuple [.agg ajF,.bool false]))]
theorem Tv:aV Tryz.prog .nil 129 atW:=Aq (tab:=[]) trivial (n:=20000) (by decide) (by kernel_rfl)
def aR:List (Nat×T Es):=[(71,one aAh),(129,one atW)]
theorem ari:tF Tryz.prog .nil aR:=(yn (yn (show tF Tryz.prog .nil [] from trivial) (by decide) (.one Tv)) (by decide) (.one ahT))
theorem gP{f:Nat}(hf:idxs.contains f=true){l:List AV}{d:aO}(hl:AV.JO l=true)(hc:aO.df (CF aR) f d ⟨ai f (fx f) l,[],.nil,bw⟩ [] []=true)(ρ':Nat→Int):∀(ρ:Nat→Int) (w0:W0),jQ Tryz.prog .nil w0→∀H nx,MQ Tryz.prog ρ w0 f (AV.jo ρ' l) H nx (d.dt.val ρ') H nx:=
 fun _ w0 hL H nx=>arj (fun _=>rfl) (fun _ ho w0 hL=>avI ari ho w0 hL) (lv hf) hl few d hc w0 hL H nx
abbrev bi(n a b:Nat)(t e:aO):aO:=.ask n .lss (.var a) (.var b) t e
abbrev bv(n a:Nat)(b:Int)(t e:aO):aO:=.ask n .eql (.var a) (.lit b) t e
abbrev ce(n a b:Nat)(t e:aO):aO:=.ask n .neq (.var a) (.var b) t e
abbrev co(n a:Nat)(b:Int)(t e:aO):aO:=.ask n .neq (.var a) (.lit b) t e
abbrev d5(n a b:Nat)(t e:aO):aO:=.ask n .gtr (.var a) (.var b) t e
abbrev d6(n a:Nat)(b:Int)(t e:aO):aO:=.ask n .lss (.var a) (.lit b) t e
abbrev d8(n a:Nat)(b:Int)(t e:aO):aO:=.ask n .gtr (.var a) (.lit b) t e
abbrev d9(n:Nat)(i:Int):aO:=.leaf n (I i)
abbrev em(n:Nat)(b:Bool):aO:=.leaf n (.bool b)
abbrev f7(n:Nat)(b:Bool)(i:Int):aO:=.leaf n (.tuple [.bool b,I i])
abbrev f8:aO:=.leaf 0 .nilp
abbrev an(n:Nat)(d:aO)(l:List AV):Prop:=aO.df (CF aR) n d ⟨ai n (fx n) l,[],.nil,bw⟩ [] []=true
theorem be{n:Nat}{d:aO}{l:List AV}(h:aO.df (CF aR) n d ⟨ai n (fx n) l,[],.nil,bw⟩ [] []=true:=by kernel_rfl):an n d l:=h
end Ln
