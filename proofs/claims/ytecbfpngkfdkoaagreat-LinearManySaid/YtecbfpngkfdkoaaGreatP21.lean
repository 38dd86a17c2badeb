/- A part of the proof. No condition. -/
import Derived.Test.YtecbfpngkfdkoaaGreatP8
import Derived.KernelRfl
namespace Ln
open Go.Sx Go Go.Proofs
def L0:AV:=(.sl [.str 3 6581857,.str 4 1819242338,.str 5 461229090915,.str 5 469919427683,.str 5 495857003619,.str 7 28268862397837155,.str 4 1702063205,.str 5 435728179558,.str 3 7239014,.str 3 7234919,.str 2 26217,.str 2 28265,.str 3 7630441,.str 3 7628140,.str 4 1953720684,.str 4 1701536109,.str 5 448345170285,.str 5 465557548909,.str 4 1954047342,.str 3 7630702,.str 2 26223,.str 3 6647407,.str 2 28783,.str 2 29295,.str 4 1801677168,.str 4 1953722224,.str 3 6648432,.str 4 1886351984,.str 7 32199706694346098,.str 6 128009175786866,.str 6 121437875889522,.str 4 1885697139,.str 6 120282512849267,.str 4 1852139636,.str 4 1702195828,.str 4 1701869940,.str 5 435710945399] 37 1 .any)
abbrev dG(a b:Nat)(l r:T Es):T Es:=.node (some [([.int .u8 (.lit (a:Nat))],I (b:Nat))]) l r
abbrev dv(l r:T Es):T Es:=.node none l r
abbrev aT:T Es:=.nil
abbrev acR(a b:Nat):T Es:=dG a b aT aT
def ai3:T Es:=(dv (dv (dv (dv aT (dv aT (acR 111 1))) (dv (dv aT (acR 103 1)) (dv aT (acR 119 1)))) (dv (dv (dv aT (acR 99 1)) (dG 51 3 aT (acR 115 1))) (dv (dG 43 6 aT (acR 107 1)) (dG 59 6 (acR 91 6) (acR 123 6))))) (dv (dv (dv (dv aT (acR 97 1)) (dG 49 3 aT (acR 113 1))) (dv (dG 41 6 aT (acR 105 1)) (dG 57 3 aT (acR 121 1)))) (dv (dv (dv aT (acR 101 1)) (dv aT (acR 117 1))) (dv (dv aT (acR 109 1)) (dG 61 6 (acR 93 6) (acR 125 6))))))
theorem afh:aO Tryz.prog .nil 191 (gi ai3):=xL (show qy Tryz.prog .nil [] from trivial) (n:=20000) (by decide) (by kernel_rfl)
def ai4:T Es:=(dv (dv (dv (dv (acR 32 0) (dG 48 3 aT (acR 112 1))) (dv (dG 40 6 aT (acR 104 1)) (dv aT (acR 120 1)))) (dv (dv (dv aT (acR 100 1)) (dv aT (acR 116 1))) (dv (dG 44 6 aT (acR 108 1)) (acR 60 6)))) (dv (dv (dv aT (dG 50 3 aT (acR 114 1))) (dv aT (dG 58 6 aT (acR 122 1)))) (dv (dv aT (dv aT (acR 118 1))) (dv (dG 46 6 aT (acR 110 1)) aT))))
theorem afi:aO Tryz.prog .nil 191 (gi ai4):=xL (show qy Tryz.prog .nil [] from trivial) (n:=20000) (by decide) (by kernel_rfl)
def ai5:T Es:=(dv ai3 ai4)
theorem afj:aO Tryz.prog .nil 191 (gi ai5):=aO.app (show aO Tryz.prog .nil 191 [] from trivial) (aO.app afh afi)
def awR:T Es:=ai5
theorem amP:DR Tryz.prog .nil 191 awR:=.of afj
def ai6:Es:=[([L0,.str 4 1702521203],(.bool false))]
def ai7:Es:=[([L0,.str 8 8243122732010005874],(.bool false))]
def Xp:Es:=[([L0,.str 2 29793],(.bool false))]
def Xq:Es:=[([L0,.str 6 133532402673005],(.bool false))]
def Xr:Es:=[([L0,.str 5 435761280369],(.bool false))]
def adB:Es:=[([L0,.str 1 51],(.bool false))]
def adC:Es:=[([L0,.str 3 7632240],(.bool false))]
def Xs:Es:=[([L0,.str 1 115],(.bool false)),([.sl [.str 2 29295] 1 1 .any,.str 2 15677],(.bool false)),([.sl [.str 3 6581857] 1 1 .any,.str 2 15677],(.bool false)),([.nils,.str 2 15677],(.bool false)),([.sl [.str 2 15677,.str 2 15649,.str 1 60,.str 2 15676] 4 1 .any,.str 2 15677],(.bool true))]
def Xt:Es:=[([L0,.str 7 32199698088816483],(.bool false))]
def adD:Es:=[([.sl [.str 2 29295] 1 1 .any,.str 1 43],(.bool false)),([.sl [.str 3 6581857] 1 1 .any,.str 1 43],(.bool false)),([.nils,.str 1 43],(.bool false)),([.sl [.str 2 15677,.str 2 15649,.str 1 60,.str 2 15676] 4 1 .any,.str 1 43],(.bool false)),([.sl [.str 1 43,.str 1 45] 2 1 .any,.str 1 43],(.bool true))]
def adE:Es:=[([L0,.str 2 14649],(.bool false))]
def adF:Es:=[([L0,.str 1 49],(.bool false))]
def Xu:Es:=[([L0,.str 4 1684104562],(.bool false)),([L0,.str 4 2003790963],(.bool false))]
def Xv:Es:=[([L0,.str 1 121],(.bool false))]
def adG:Es:=[([L0,.str 3 6579297],(.bool false))]
def Xw:Es:=[([L0,.str 5 435744764535],(.bool false))]
def Xx:Es:=[([L0,.str 3 7628135],(.bool false))]
def adH:Es:=[([L0,.str 1 48],(.bool false))]
def Xy:Es:=[([L0,.str 4 1735289202],(.bool false))]
def Xz:Es:=[([L0,.str 1 120],(.bool false))]
def XA:Es:=[([L0,.str 1 108],(.bool false))]
def adI:Es:=[([.sl [.str 2 29295] 1 1 .any,.str 1 60],(.bool false)),([.sl [.str 3 6581857] 1 1 .any,.str 1 60],(.bool false)),([.nils,.str 1 60],(.bool false)),([.sl [.str 2 15677,.str 2 15649,.str 1 60,.str 2 15676] 4 1 .any,.str 1 60],(.bool true))]
def ai8:Es:=[([L0,.str 4 1752397168],(.bool false))]
def adJ:Es:=[([L0,.str 1 50],(.bool false))]
def XB:Es:=[([L0,.str 1 114],(.bool false))]
def XC:Es:=[([L0,.str 3 6516329],(.bool false))]
def XD:Es:=[([L0,.str 4 1819043171],(.bool false))]
def XE:Es:=[([L0,.str 4 1886351972],(.bool false))]
def ai9:Es:=ai6++(ai7++(Xp++(Xq++(Xr++(adB++(adC++(Xs++(Xt++(adD++(adE++(adF++(Xu++(Xv++(adG++(Xw++(Xx++(adH++(Xy++(Xz++(XA++(adI++(ai8++(adJ++(XB++(XC++(XD++(XE)))))))))))))))))))))))))))
theorem afk:aO Tryz.prog .nil 325 ai9:=xL (show qy Tryz.prog .nil [] from trivial) (n:=20000) (by decide) (by kernel_rfl)
def ast:T Es:=(.node (some ai6) (.node none (.node (some ai7) (.node none (.node none .nil (.node none .nil (.node none (.node (some Xp) .nil .nil) .nil))) (.node none (.node none .nil (.node none .nil (.node (some Xq) .nil .nil))) (.node none (.node none (.node (some Xr) .nil .nil) .nil) .nil))) (.node none (.node none .nil (.node (some adB) (.node (some adC) .nil .nil) (.node (some Xs) .nil (.node (some Xt) .nil .nil)))) (.node none (.node (some adD) .nil .nil) (.node none (.node (some adE) .nil .nil) .nil)))) (.node none (.node none (.node none .nil (.node (some adF) .nil .nil)) (.node none (.node none .nil (.node none .nil (.node (some Xu) .nil .nil))) (.node none .nil (.node (some Xv) .nil .nil)))) (.node none (.node none .nil (.node none (.node (some adG) .nil .nil) (.node (some Xw) .nil (.node (some Xx) .nil .nil)))) .nil))) (.node none (.node none (.node none (.node none .nil (.node (some adH) .nil .nil)) (.node none (.node none (.node none .nil (.node (some Xy) .nil .nil)) .nil) (.node none .nil (.node (some Xz) .nil .nil)))) (.node none .nil (.node none (.node none .nil (.node (some XA) .nil .nil)) (.node (some adI) .nil .nil)))) (.node (some ai8) (.node none (.node none .nil (.node (some adJ) .nil (.node (some XB) .nil .nil))) .nil) (.node none (.node none .nil (.node none .nil (.node (some XC) .nil .nil))) (.node none (.node none .nil (.node none .nil (.node (some XD) .nil .nil))) (.node none .nil (.node (some XE) .nil .nil)))))))
theorem amQ:DR Tryz.prog .nil 325 ast:=.eq afk (show gi ast=ai9 by kernel_rfl)
def aja:Es:=[([I 1],(.sl [.str 2 29295] 1 1 .any))]
def ajb:Es:=[([I 3],.nils)]
def ajc:Es:=[([I 5],(.sl [.str 1 43,.str 1 45] 2 1 .any))]
def ajd:Es:=[([I 2],(.sl [.str 3 6581857] 1 1 .any))]
def aje:Es:=[([I 4],(.sl [.str 2 15677,.str 2 15649,.str 1 60,.str 2 15676] 4 1 .any))]
def ajf:Es:=[([I 6],(.sl [.str 1 42] 1 1 .any))]
def ajg:Es:=aja++(ajb++(ajc++(ajd++(aje++(ajf)))))
theorem afl:aO Tryz.prog .nil 361 ajg:=xL (show qy Tryz.prog .nil [] from trivial) (n:=20000) (by decide) (by kernel_rfl)
def asu:T Es:=(.node none (.node (some aja) (.node (some ajb) .nil .nil) (.node (some ajc) .nil .nil)) (.node (some ajd) (.node (some aje) .nil .nil) (.node (some ajf) .nil .nil)))
theorem amR:DR Tryz.prog .nil 361 asu:=.eq afl (show gi asu=ajg by kernel_rfl)
def asv:List (Nat×T Es):=(191,awR) ::(325,ast) ::(361,asu) ::[]
theorem qf:qy Tryz.prog .nil asv:=(vp (vp (vp (show qy Tryz.prog .nil [] from trivial) (by decide) amR) (by decide) amQ) (by decide) amP)
def apb:Es:=[([.str 5 435761280369],(.tuple [.sl [I 0,I 0,I 0,.str 5 435761280369] 1 4 .any,I 0,I 0])),
 ([.str 3 7632240],(.tuple [.sl [I 0,I 0,I 0,.str 3 7632240] 1 4 .any,I 0,I 0])),
 ([.str 1 120],(.tuple [.sl [I 0,I 0,I 0,.str 1 120] 1 4 .any,I 0,I 0])),
 ([.str 4 1702521203],(.tuple [.sl [I 0,I 0,I 0,.str 4 1702521203] 1 4 .any,I 0,I 0])),
 ([.str 1 115],(.tuple [.sl [I 0,I 0,I 0,.str 1 115] 1 4 .any,I 0,I 0])),
 ([.str 4 1752397168],(.tuple [.sl [I 0,I 0,I 0,.str 4 1752397168] 1 4 .any,I 0,I 0])),
 ([.str 1 114],(.tuple [.sl [I 0,I 0,I 0,.str 1 114] 1 4 .any,I 0,I 0])),
 ([.str 3 7628135],(.tuple [.sl [I 0,I 0,I 0,.str 3 7628135] 1 4 .any,I 0,I 0])),
 ([.str 4 1886351972],(.tuple [.sl [I 0,I 0,I 0,.str 4 1886351972] 1 4 .any,I 0,I 0])),
 ([.str 2 29793],(.tuple [.sl [I 0,I 0,I 0,.str 2 29793] 1 4 .any,I 0,I 0])),
 ([.str 7 32199698088816483],(.tuple [.sl [I 0,I 0,I 0,.str 7 32199698088816483] 1 4 .any,I 0,I 0])),
 ([.str 3 6516329],(.tuple [.sl [I 0,I 0,I 0,.str 3 6516329] 1 4 .any,I 0,I 0])),
 ([.str 4 1684104562],(.tuple [.sl [I 0,I 0,I 0,.str 4 1684104562] 1 4 .any,I 0,I 0])),
 ([.str 3 6579297],(.tuple [.sl [I 0,I 0,I 0,.str 3 6579297] 1 4 .any,I 0,I 0])),
 ([.str 1 121],(.tuple [.sl [I 0,I 0,I 0,.str 1 121] 1 4 .any,I 0,I 0])),
 ([.str 8 8243122732010005874],(.tuple [.sl [I 0,I 0,I 0,.str 8 8243122732010005874] 1 4 .any,I 0,I 0])),
 ([.str 5 435744764535],(.tuple [.sl [I 0,I 0,I 0,.str 5 435744764535] 1 4 .any,I 0,I 0])),
 ([.str 4 1735289202],(.tuple [.sl [I 0,I 0,I 0,.str 4 1735289202] 1 4 .any,I 0,I 0])),
 ([.str 4 1819043171],(.tuple [.sl [I 0,I 0,I 0,.str 4 1819043171] 1 4 .any,I 0,I 0])),
 ([.str 4 2003790963],(.tuple [.sl [I 0,I 0,I 0,.str 4 2003790963] 1 4 .any,I 0,I 0])),
 ([.str 1 108],(.tuple [.sl [I 0,I 0,I 0,.str 1 108] 1 4 .any,I 0,I 0])),
 ([.str 6 133532402673005],(.tuple [.sl [I 0,I 0,I 0,.str 6 133532402673005] 1 4 .any,I 0,I 0]))]
theorem ajh:aO Tryz.prog .nil 123 apb:=xL qf (n:=20000) (by decide) (by kernel_rfl)
end Ln
