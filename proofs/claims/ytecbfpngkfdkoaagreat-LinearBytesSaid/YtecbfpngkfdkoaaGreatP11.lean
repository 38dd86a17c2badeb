/- A part of the proof. No condition. -/
import Derived.Test.YtecbfpngkfdkoaaGreatP8
import Derived.KernelRfl
namespace Ln
open Go.Sx Go Go.Proofs
def CS:AV:=(.sl [.str 3 6581857,.str 4 1819242338,.str 5 461229090915,.str 5 469919427683,.str 5 495857003619,.str 7 28268862397837155,.str 4 1702063205,.str 5 435728179558,.str 3 7239014,.str 3 7234919,.str 2 26217,.str 2 28265,.str 3 7630441,.str 3 7628140,.str 4 1953720684,.str 4 1701536109,.str 5 448345170285,.str 5 465557548909,.str 4 1954047342,.str 3 7630702,.str 2 26223,.str 3 6647407,.str 2 28783,.str 2 29295,.str 4 1801677168,.str 4 1953722224,.str 3 6648432,.str 4 1886351984,.str 7 32199706694346098,.str 6 128009175786866,.str 6 121437875889522,.str 4 1885697139,.str 6 120282512849267,.str 4 1852139636,.str 4 1702195828,.str 4 1701869940,.str 5 435710945399] 37 1 .any)
abbrev cm(a b:Nat)(l r:T Es):T Es:=.node (some [([.int .u8 (.lit (a:Nat))],I (b:Nat))]) l r
abbrev b9(l r:T Es):T Es:=.node none l r
abbrev aE:T Es:=.nil
def RF:T Es:=(b9 (b9 (b9 (b9 aE (b9 aE (cm 111 1 aE aE))) (b9 (b9 aE (cm 103 1 aE aE)) (b9 aE (cm 119 1 aE aE)))) (b9 (b9 (b9 aE (cm 99 1 aE aE)) (cm 51 3 aE (cm 115 1 aE aE))) (b9 (cm 43 6 aE (cm 107 1 aE aE)) (cm 59 6 (cm 91 6 aE aE) (cm 123 6 aE aE))))) (b9 (b9 (b9 (b9 aE (cm 97 1 aE aE)) (cm 49 3 aE (cm 113 1 aE aE))) (b9 (cm 41 6 aE (cm 105 1 aE aE)) (cm 57 3 aE (cm 121 1 aE aE)))) (b9 (b9 (b9 aE (cm 101 1 aE aE)) (b9 aE (cm 117 1 aE aE))) (b9 (b9 aE (cm 109 1 aE aE)) (cm 61 6 (cm 93 6 aE aE) (cm 125 6 aE aE))))))
theorem OZ:aC Tryz.prog .nil 191 (lf RF):=mZ (show nE Tryz.prog .nil [] from trivial) (n:=20000) (by decide) (by kernel_rfl)
def RG:T Es:=(b9 (b9 (b9 (b9 (cm 32 0 aE aE) (cm 48 3 aE (cm 112 1 aE aE))) (b9 (cm 40 6 aE (cm 104 1 aE aE)) (b9 aE (cm 120 1 aE aE)))) (b9 (b9 (b9 aE (cm 100 1 aE aE)) (b9 aE (cm 116 1 aE aE))) (b9 (cm 44 6 aE (cm 108 1 aE aE)) (cm 60 6 aE aE)))) (b9 (b9 (b9 aE (cm 50 3 aE (cm 114 1 aE aE))) (b9 aE (cm 58 6 aE (cm 122 1 aE aE)))) (b9 (b9 aE (b9 aE (cm 118 1 aE aE))) (b9 (cm 46 6 aE (cm 110 1 aE aE)) aE))))
theorem O0:aC Tryz.prog .nil 191 (lf RG):=mZ (show nE Tryz.prog .nil [] from trivial) (n:=20000) (by decide) (by kernel_rfl)
def RH:T Es:=(b9 RF RG)
theorem O1:aC Tryz.prog .nil 191 (lf RH):=aC.app (show aC Tryz.prog .nil 191 [] from trivial) (aC.app OZ O0)
def adU:T Es:=RH
theorem U2:xi Tryz.prog .nil 191 adU:=.of O1
def RI:Es:=[([CS,.str 4 1702521203],(.bool false))]
def RJ:Es:=[([CS,.str 8 8243122732010005874],(.bool false))]
def Ky:Es:=[([CS,.str 2 29793],(.bool false))]
def Kz:Es:=[([CS,.str 6 133532402673005],(.bool false))]
def KA:Es:=[([CS,.str 5 435761280369],(.bool false))]
def NF:Es:=[([CS,.str 1 51],(.bool false))]
def NG:Es:=[([CS,.str 3 7632240],(.bool false))]
def KB:Es:=[([CS,.str 1 115],(.bool false)),([.sl [.str 2 29295] 1 1 .any,.str 2 15677],(.bool false)),([.sl [.str 3 6581857] 1 1 .any,.str 2 15677],(.bool false)),([.nils,.str 2 15677],(.bool false)),([.sl [.str 2 15677,.str 2 15649,.str 1 60,.str 2 15676] 4 1 .any,.str 2 15677],(.bool true))]
def KC:Es:=[([CS,.str 7 32199698088816483],(.bool false))]
def NH:Es:=[([.sl [.str 2 29295] 1 1 .any,.str 1 43],(.bool false)),([.sl [.str 3 6581857] 1 1 .any,.str 1 43],(.bool false)),([.nils,.str 1 43],(.bool false)),([.sl [.str 2 15677,.str 2 15649,.str 1 60,.str 2 15676] 4 1 .any,.str 1 43],(.bool false)),([.sl [.str 1 43,.str 1 45] 2 1 .any,.str 1 43],(.bool true))]
def NI:Es:=[([CS,.str 2 14649],(.bool false))]
def NJ:Es:=[([CS,.str 1 49],(.bool false))]
def KD:Es:=[([CS,.str 4 1684104562],(.bool false)),([CS,.str 4 2003790963],(.bool false))]
def KE:Es:=[([CS,.str 1 121],(.bool false))]
def NK:Es:=[([CS,.str 3 6579297],(.bool false))]
def KF:Es:=[([CS,.str 5 435744764535],(.bool false))]
def KG:Es:=[([CS,.str 3 7628135],(.bool false))]
def NL:Es:=[([CS,.str 1 48],(.bool false))]
def KH:Es:=[([CS,.str 4 1735289202],(.bool false))]
def KI:Es:=[([CS,.str 1 120],(.bool false))]
def KJ:Es:=[([CS,.str 1 108],(.bool false))]
def NM:Es:=[([.sl [.str 2 29295] 1 1 .any,.str 1 60],(.bool false)),([.sl [.str 3 6581857] 1 1 .any,.str 1 60],(.bool false)),([.nils,.str 1 60],(.bool false)),([.sl [.str 2 15677,.str 2 15649,.str 1 60,.str 2 15676] 4 1 .any,.str 1 60],(.bool true))]
def RK:Es:=[([CS,.str 4 1752397168],(.bool false))]
def NN:Es:=[([CS,.str 1 50],(.bool false))]
def KL:Es:=[([CS,.str 1 114],(.bool false))]
def KM:Es:=[([CS,.str 3 6516329],(.bool false))]
def KN:Es:=[([CS,.str 4 1819043171],(.bool false))]
def KP:Es:=[([CS,.str 4 1886351972],(.bool false))]
def RL:Es:=RI++(RJ++(Ky++(Kz++(KA++(NF++(NG++(KB++(KC++(NH++(NI++(NJ++(KD++(KE++(NK++(KF++(KG++(NL++(KH++(KI++(KJ++(NM++(RK++(NN++(KL++(KM++(KN++(KP)))))))))))))))))))))))))))
theorem O2:aC Tryz.prog .nil 325 RL:=mZ (show nE Tryz.prog .nil [] from trivial) (n:=20000) (by decide) (by kernel_rfl)
def Z8:T Es:=(.node (some RI) (.node none (.node (some RJ) (.node none (.node none .nil (.node none .nil (.node none (.node (some Ky) .nil .nil) .nil))) (.node none (.node none .nil (.node none .nil (.node (some Kz) .nil .nil))) (.node none (.node none (.node (some KA) .nil .nil) .nil) .nil))) (.node none (.node none .nil (.node (some NF) (.node (some NG) .nil .nil) (.node (some KB) .nil (.node (some KC) .nil .nil)))) (.node none (.node (some NH) .nil .nil) (.node none (.node (some NI) .nil .nil) .nil)))) (.node none (.node none (.node none .nil (.node (some NJ) .nil .nil)) (.node none (.node none .nil (.node none .nil (.node (some KD) .nil .nil))) (.node none .nil (.node (some KE) .nil .nil)))) (.node none (.node none .nil (.node none (.node (some NK) .nil .nil) (.node (some KF) .nil (.node (some KG) .nil .nil)))) .nil))) (.node none (.node none (.node none (.node none .nil (.node (some NL) .nil .nil)) (.node none (.node none (.node none .nil (.node (some KH) .nil .nil)) .nil) (.node none .nil (.node (some KI) .nil .nil)))) (.node none .nil (.node none (.node none .nil (.node (some KJ) .nil .nil)) (.node (some NM) .nil .nil)))) (.node (some RK) (.node none (.node none .nil (.node (some NN) .nil (.node (some KL) .nil .nil))) .nil) (.node none (.node none .nil (.node none .nil (.node (some KM) .nil .nil))) (.node none (.node none .nil (.node none .nil (.node (some KN) .nil .nil))) (.node none .nil (.node (some KP) .nil .nil)))))))
theorem U3:xi Tryz.prog .nil 325 Z8:=.eq O2 (show lf Z8=RL by kernel_rfl)
def RM:Es:=[([I 1],(.sl [.str 2 29295] 1 1 .any))]
def RN:Es:=[([I 3],.nils)]
def RP:Es:=[([I 5],(.sl [.str 1 43,.str 1 45] 2 1 .any))]
def RQ:Es:=[([I 2],(.sl [.str 3 6581857] 1 1 .any))]
def RT:Es:=[([I 4],(.sl [.str 2 15677,.str 2 15649,.str 1 60,.str 2 15676] 4 1 .any))]
def RU:Es:=[([I 6],(.sl [.str 1 42] 1 1 .any))]
def RW:Es:=RM++(RN++(RP++(RQ++(RT++(RU)))))
theorem O3:aC Tryz.prog .nil 361 RW:=mZ (show nE Tryz.prog .nil [] from trivial) (n:=20000) (by decide) (by kernel_rfl)
def Z9:T Es:=(.node none (.node (some RM) (.node (some RN) .nil .nil) (.node (some RP) .nil .nil)) (.node (some RQ) (.node (some RT) .nil .nil) (.node (some RU) .nil .nil)))
theorem U4:xi Tryz.prog .nil 361 Z9:=.eq O3 (show lf Z9=RW by kernel_rfl)
def aaa:List (Nat×T Es):=(191,adU) ::(325,Z8) ::(361,Z9) ::[]
theorem l9:nE Tryz.prog .nil aaa:=(sd (sd (sd (show nE Tryz.prog .nil [] from trivial) (by decide) U4) (by decide) U3) (by decide) U2)
def Xq:Es:=[([.str 5 435761280369],(.tuple [.sl [I 0,I 0,I 0,.str 5 435761280369] 1 4 .any,I 0,I 0])),
 ([.str 3 7632240],(.tuple [.sl [I 0,I 0,I 0,.str 3 7632240] 1 4 .any,I 0,I 0])),
 ([.str 1 120],(.tuple [.sl [I 0,I 0,I 0,.str 1 120] 1 4 .any,I 0,I 0])),
 ([.str 4 1702521203],(.tuple [.sl [I 0,I 0,I 0,.str 4 1702521203] 1 4 .any,I 0,I 0])),
 ([.str 1 115],(.tuple [.sl [I 0,I 0,I 0,.str 1 115] 1 4 .any,I 0,I 0])),
 ([.str 4 1752397168],(.tuple [.sl [I 0,I 0,I 0,.str 4 1752397168] 1 4 .any,I 0,I 0])),
 ([.str 1 114],(.tuple [.sl [I 0,I 0,I 0,.str 1 114] 1 4 .any,I 0,I 0])),
 ([.str 3 7628135],(.tuple [.sl [I 0,I 0,I 0,.str 3 7628135] 1 4 .any,I 0,I 0])),
 ([.str 4 1886351972],(.tuple [.sl [I 0,I 0,I 0,.str 4 1886351972] 1 4 .any,I 0,I 0])),
 ([.str 2 29793],(.tuple [.sl [I 0,I 0,I 0,.str 2 29793] 1 4 .any,I 0,I 0])),
 ([.str 7 32199698088816483],(.tuple [.sl [I 0,I 0,I 0,.str 7 32199698088816483] 1 4 .any,I 0,I 0])),
 ([.str 3 6516329],(.tuple [.sl [I 0,I 0,I 0,.str 3 6516329] 1 4 .any,I 0,I 0])),
 ([.str 4 1684104562],(.tuple [.sl [I 0,I 0,I 0,.str 4 1684104562] 1 4 .any,I 0,I 0])),
 ([.str 3 6579297],(.tuple [.sl [I 0,I 0,I 0,.str 3 6579297] 1 4 .any,I 0,I 0])),
 ([.str 1 121],(.tuple [.sl [I 0,I 0,I 0,.str 1 121] 1 4 .any,I 0,I 0])),
 ([.str 8 8243122732010005874],(.tuple [.sl [I 0,I 0,I 0,.str 8 8243122732010005874] 1 4 .any,I 0,I 0])),
 ([.str 5 435744764535],(.tuple [.sl [I 0,I 0,I 0,.str 5 435744764535] 1 4 .any,I 0,I 0])),
 ([.str 4 1735289202],(.tuple [.sl [I 0,I 0,I 0,.str 4 1735289202] 1 4 .any,I 0,I 0])),
 ([.str 4 1819043171],(.tuple [.sl [I 0,I 0,I 0,.str 4 1819043171] 1 4 .any,I 0,I 0])),
 ([.str 4 2003790963],(.tuple [.sl [I 0,I 0,I 0,.str 4 2003790963] 1 4 .any,I 0,I 0])),
 ([.str 1 108],(.tuple [.sl [I 0,I 0,I 0,.str 1 108] 1 4 .any,I 0,I 0])),
 ([.str 6 133532402673005],(.tuple [.sl [I 0,I 0,I 0,.str 6 133532402673005] 1 4 .any,I 0,I 0]))]
theorem RX:aC Tryz.prog .nil 123 Xq:=mZ l9 (n:=20000) (by decide) (by kernel_rfl)
end Ln
