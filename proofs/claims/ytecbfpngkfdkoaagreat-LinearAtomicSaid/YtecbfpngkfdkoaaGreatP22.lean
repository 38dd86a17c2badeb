/- A part of the proof. No condition. -/
import Derived.Test.YtecbfpngkfdkoaaGreatP8
import Derived.KernelRfl
namespace Ln
open Go.Sx Go Go.Proofs
def Ox:AV:=(.sl [.str 3 6581857,.str 4 1819242338,.str 5 461229090915,.str 5 469919427683,.str 5 495857003619,.str 7 28268862397837155,.str 4 1702063205,.str 5 435728179558,.str 3 7239014,.str 3 7234919,.str 2 26217,.str 2 28265,.str 3 7630441,.str 3 7628140,.str 4 1953720684,.str 4 1701536109,.str 5 448345170285,.str 5 465557548909,.str 4 1954047342,.str 3 7630702,.str 2 26223,.str 3 6647407,.str 2 28783,.str 2 29295,.str 4 1801677168,.str 4 1953722224,.str 3 6648432,.str 4 1886351984,.str 7 32199706694346098,.str 6 128009175786866,.str 6 121437875889522,.str 4 1885697139,.str 6 120282512849267,.str 4 1852139636,.str 4 1702195828,.str 4 1701869940,.str 5 435710945399] 37 1 .any)
abbrev dQ(a b:Nat)(l r:T Es):T Es:=.node (some [([.int .u8 (.lit (a:Nat))],I (b:Nat))]) l r
abbrev dL(l r:T Es):T Es:=.node none l r
abbrev ba:T Es:=.nil
abbrev ag6(a b:Nat):T Es:=dQ a b ba ba
def anL:T Es:=(dL (dL (dL (dL ba (dL ba (ag6 111 1))) (dL (dL ba (ag6 103 1)) (dL ba (ag6 119 1)))) (dL (dL (dL ba (ag6 99 1)) (dQ 51 3 ba (ag6 115 1))) (dL (dQ 43 6 ba (ag6 107 1)) (dQ 59 6 (ag6 91 6) (ag6 123 6))))) (dL (dL (dL (dL ba (ag6 97 1)) (dQ 49 3 ba (ag6 113 1))) (dL (dQ 41 6 ba (ag6 105 1)) (dQ 57 3 ba (ag6 121 1)))) (dL (dL (dL ba (ag6 101 1)) (dL ba (ag6 117 1))) (dL (dL ba (ag6 109 1)) (dQ 61 6 (ag6 93 6) (ag6 125 6))))))
theorem ajW:aT Tryz.prog .nil 191 (hJ anL):=AE (show sG Tryz.prog .nil [] from trivial) (n:=20000) (by decide) (by kernel_rfl)
def anM:T Es:=(dL (dL (dL (dL (ag6 32 0) (dQ 48 3 ba (ag6 112 1))) (dL (dQ 40 6 ba (ag6 104 1)) (dL ba (ag6 120 1)))) (dL (dL (dL ba (ag6 100 1)) (dL ba (ag6 116 1))) (dL (dQ 44 6 ba (ag6 108 1)) (ag6 60 6)))) (dL (dL (dL ba (dQ 50 3 ba (ag6 114 1))) (dL ba (dQ 58 6 ba (ag6 122 1)))) (dL (dL ba (dL ba (ag6 118 1))) (dL (dQ 46 6 ba (ag6 110 1)) ba))))
theorem ajX:aT Tryz.prog .nil 191 (hJ anM):=AE (show sG Tryz.prog .nil [] from trivial) (n:=20000) (by decide) (by kernel_rfl)
def anN:T Es:=(dL anL anM)
theorem ajY:aT Tryz.prog .nil 191 (hJ anN):=aT.app (show aT Tryz.prog .nil 191 [] from trivial) (aT.app ajW ajX)
def aB4:T Es:=anN
theorem ar5:FJ Tryz.prog .nil 191 aB4:=.of ajY
def anO:Es:=[([Ox,.str 4 1702521203],(.bool false))]
def anP:Es:=[([Ox,.str 8 8243122732010005874],(.bool false))]
def abx:Es:=[([Ox,.str 2 29793],(.bool false))]
def aby:Es:=[([Ox,.str 6 133532402673005],(.bool false))]
def abz:Es:=[([Ox,.str 5 435761280369],(.bool false))]
def ah1:Es:=[([Ox,.str 1 51],(.bool false))]
def ah2:Es:=[([Ox,.str 3 7632240],(.bool false))]
def abA:Es:=[([Ox,.str 1 115],(.bool false)),([.sl [.str 2 29295] 1 1 .any,.str 2 15677],(.bool false)),([.sl [.str 3 6581857] 1 1 .any,.str 2 15677],(.bool false)),([.nils,.str 2 15677],(.bool false)),([.sl [.str 2 15677,.str 2 15649,.str 1 60,.str 2 15676] 4 1 .any,.str 2 15677],(.bool true))]
def abB:Es:=[([Ox,.str 7 32199698088816483],(.bool false))]
def ah3:Es:=[([.sl [.str 2 29295] 1 1 .any,.str 1 43],(.bool false)),([.sl [.str 3 6581857] 1 1 .any,.str 1 43],(.bool false)),([.nils,.str 1 43],(.bool false)),([.sl [.str 2 15677,.str 2 15649,.str 1 60,.str 2 15676] 4 1 .any,.str 1 43],(.bool false)),([.sl [.str 1 43,.str 1 45] 2 1 .any,.str 1 43],(.bool true))]
def ah4:Es:=[([Ox,.str 2 14649],(.bool false))]
def ah5:Es:=[([Ox,.str 1 49],(.bool false))]
def abC:Es:=[([Ox,.str 4 1684104562],(.bool false)),([Ox,.str 4 2003790963],(.bool false))]
def abD:Es:=[([Ox,.str 1 121],(.bool false))]
def ah6:Es:=[([Ox,.str 3 6579297],(.bool false))]
def abE:Es:=[([Ox,.str 5 435744764535],(.bool false))]
def abF:Es:=[([Ox,.str 3 7628135],(.bool false))]
def ah7:Es:=[([Ox,.str 1 48],(.bool false))]
def abG:Es:=[([Ox,.str 4 1735289202],(.bool false))]
def abH:Es:=[([Ox,.str 1 120],(.bool false))]
def abI:Es:=[([Ox,.str 1 108],(.bool false))]
def ah8:Es:=[([.sl [.str 2 29295] 1 1 .any,.str 1 60],(.bool false)),([.sl [.str 3 6581857] 1 1 .any,.str 1 60],(.bool false)),([.nils,.str 1 60],(.bool false)),([.sl [.str 2 15677,.str 2 15649,.str 1 60,.str 2 15676] 4 1 .any,.str 1 60],(.bool true))]
def anQ:Es:=[([Ox,.str 4 1752397168],(.bool false))]
def ah9:Es:=[([Ox,.str 1 50],(.bool false))]
def abJ:Es:=[([Ox,.str 1 114],(.bool false))]
def abK:Es:=[([Ox,.str 3 6516329],(.bool false))]
def abL:Es:=[([Ox,.str 4 1819043171],(.bool false))]
def abM:Es:=[([Ox,.str 4 1886351972],(.bool false))]
def anR:Es:=anO++(anP++(abx++(aby++(abz++(ah1++(ah2++(abA++(abB++(ah3++(ah4++(ah5++(abC++(abD++(ah6++(abE++(abF++(ah7++(abG++(abH++(abI++(ah8++(anQ++(ah9++(abJ++(abK++(abL++(abM)))))))))))))))))))))))))))
theorem ajZ:aT Tryz.prog .nil 325 anR:=AE (show sG Tryz.prog .nil [] from trivial) (n:=20000) (by decide) (by kernel_rfl)
def axC:T Es:=(.node (some anO) (.node none (.node (some anP) (.node none (.node none .nil (.node none .nil (.node none (.node (some abx) .nil .nil) .nil))) (.node none (.node none .nil (.node none .nil (.node (some aby) .nil .nil))) (.node none (.node none (.node (some abz) .nil .nil) .nil) .nil))) (.node none (.node none .nil (.node (some ah1) (.node (some ah2) .nil .nil) (.node (some abA) .nil (.node (some abB) .nil .nil)))) (.node none (.node (some ah3) .nil .nil) (.node none (.node (some ah4) .nil .nil) .nil)))) (.node none (.node none (.node none .nil (.node (some ah5) .nil .nil)) (.node none (.node none .nil (.node none .nil (.node (some abC) .nil .nil))) (.node none .nil (.node (some abD) .nil .nil)))) (.node none (.node none .nil (.node none (.node (some ah6) .nil .nil) (.node (some abE) .nil (.node (some abF) .nil .nil)))) .nil))) (.node none (.node none (.node none (.node none .nil (.node (some ah7) .nil .nil)) (.node none (.node none (.node none .nil (.node (some abG) .nil .nil)) .nil) (.node none .nil (.node (some abH) .nil .nil)))) (.node none .nil (.node none (.node none .nil (.node (some abI) .nil .nil)) (.node (some ah8) .nil .nil)))) (.node (some anQ) (.node none (.node none .nil (.node (some ah9) .nil (.node (some abJ) .nil .nil))) .nil) (.node none (.node none .nil (.node none .nil (.node (some abK) .nil .nil))) (.node none (.node none .nil (.node none .nil (.node (some abL) .nil .nil))) (.node none .nil (.node (some abM) .nil .nil)))))))
theorem ar6:FJ Tryz.prog .nil 325 axC:=.eq ajZ (show hJ axC=anR by kernel_rfl)
def anS:Es:=[([I 1],(.sl [.str 2 29295] 1 1 .any))]
def anT:Es:=[([I 3],.nils)]
def anU:Es:=[([I 5],(.sl [.str 1 43,.str 1 45] 2 1 .any))]
def anV:Es:=[([I 2],(.sl [.str 3 6581857] 1 1 .any))]
def anW:Es:=[([I 4],(.sl [.str 2 15677,.str 2 15649,.str 1 60,.str 2 15676] 4 1 .any))]
def anX:Es:=[([I 6],(.sl [.str 1 42] 1 1 .any))]
def anY:Es:=anS++(anT++(anU++(anV++(anW++(anX)))))
theorem aj0:aT Tryz.prog .nil 361 anY:=AE (show sG Tryz.prog .nil [] from trivial) (n:=20000) (by decide) (by kernel_rfl)
def axD:T Es:=(.node none (.node (some anS) (.node (some anT) .nil .nil) (.node (some anU) .nil .nil)) (.node (some anV) (.node (some anW) .nil .nil) (.node (some anX) .nil .nil)))
theorem ar7:FJ Tryz.prog .nil 361 axD:=.eq aj0 (show hJ axD=anY by kernel_rfl)
def axE:List (Nat×T Es):=(191,aB4) ::(325,axC) ::(361,axD) ::[]
theorem r9:sG Tryz.prog .nil axE:=(yr (yr (yr (show sG Tryz.prog .nil [] from trivial) (by decide) ar7) (by decide) ar6) (by decide) ar5)
def auH:Es:=[([.str 5 435761280369],(.tuple [.sl [I 0,I 0,I 0,.str 5 435761280369] 1 4 .any,I 0,I 0])),
 ([.str 3 7632240],(.tuple [.sl [I 0,I 0,I 0,.str 3 7632240] 1 4 .any,I 0,I 0])),
 ([.str 1 120],(.tuple [.sl [I 0,I 0,I 0,.str 1 120] 1 4 .any,I 0,I 0])),
 ([.str 4 1702521203],(.tuple [.sl [I 0,I 0,I 0,.str 4 1702521203] 1 4 .any,I 0,I 0])),
 ([.str 1 115],(.tuple [.sl [I 0,I 0,I 0,.str 1 115] 1 4 .any,I 0,I 0])),
 ([.str 4 1752397168],(.tuple [.sl [I 0,I 0,I 0,.str 4 1752397168] 1 4 .any,I 0,I 0])),
 ([.str 1 114],(.tuple [.sl [I 0,I 0,I 0,.str 1 114] 1 4 .any,I 0,I 0])),
 ([.str 3 7628135],(.tuple [.sl [I 0,I 0,I 0,.str 3 7628135] 1 4 .any,I 0,I 0])),
 ([.str 4 1886351972],(.tuple [.sl [I 0,I 0,I 0,.str 4 1886351972] 1 4 .any,I 0,I 0])),
 ([.str 2 29793],(.tuple [.sl [I 0,I 0,I 0,.str 2 29793] 1 4 .any,I 0,I 0])),
 ([.str 7 32199698088816483],(.tuple [.sl [I 0,I 0,I 0,.str 7 32199698088816483] 1 4 .any,I 0,I 0])),
 ([.str 3 6516329],(.tuple [.sl [I 0,I 0,I 0,.str 3 6516329] 1 4 .any,I 0,I 0])),
 ([.str 4 1684104562],(.tuple [.sl [I 0,I 0,I 0,.str 4 1684104562] 1 4 .any,I 0,I 0])),
 ([.str 3 6579297],(.tuple [.sl [I 0,I 0,I 0,.str 3 6579297] 1 4 .any,I 0,I 0])),
 ([.str 1 121],(.tuple [.sl [I 0,I 0,I 0,.str 1 121] 1 4 .any,I 0,I 0])),
 ([.str 8 8243122732010005874],(.tuple [.sl [I 0,I 0,I 0,.str 8 8243122732010005874] 1 4 .any,I 0,I 0])),
 ([.str 5 435744764535],(.tuple [.sl [I 0,I 0,I 0,.str 5 435744764535] 1 4 .any,I 0,I 0])),
 ([.str 4 1735289202],(.tuple [.sl [I 0,I 0,I 0,.str 4 1735289202] 1 4 .any,I 0,I 0])),
 ([.str 4 1819043171],(.tuple [.sl [I 0,I 0,I 0,.str 4 1819043171] 1 4 .any,I 0,I 0])),
 ([.str 4 2003790963],(.tuple [.sl [I 0,I 0,I 0,.str 4 2003790963] 1 4 .any,I 0,I 0])),
 ([.str 1 108],(.tuple [.sl [I 0,I 0,I 0,.str 1 108] 1 4 .any,I 0,I 0])),
 ([.str 6 133532402673005],(.tuple [.sl [I 0,I 0,I 0,.str 6 133532402673005] 1 4 .any,I 0,I 0]))]
theorem anZ:aT Tryz.prog .nil 123 auH:=AE r9 (n:=20000) (by decide) (by kernel_rfl)
end Ln
