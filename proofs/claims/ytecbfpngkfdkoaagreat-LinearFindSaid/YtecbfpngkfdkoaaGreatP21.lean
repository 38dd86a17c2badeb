/- A part of the proof. No condition. -/
import Derived.Test.YtecbfpngkfdkoaaGreatP8
import Derived.KernelRfl
namespace Ln
open Go.Sx Go Go.Proofs
def PQ:AV:=(.sl [.str 3 6581857,.str 4 1819242338,.str 5 461229090915,.str 5 469919427683,.str 5 495857003619,.str 7 28268862397837155,.str 4 1702063205,.str 5 435728179558,.str 3 7239014,.str 3 7234919,.str 2 26217,.str 2 28265,.str 3 7630441,.str 3 7628140,.str 4 1953720684,.str 4 1701536109,.str 5 448345170285,.str 5 465557548909,.str 4 1954047342,.str 3 7630702,.str 2 26223,.str 3 6647407,.str 2 28783,.str 2 29295,.str 4 1801677168,.str 4 1953722224,.str 3 6648432,.str 4 1886351984,.str 7 32199706694346098,.str 6 128009175786866,.str 6 121437875889522,.str 4 1885697139,.str 6 120282512849267,.str 4 1852139636,.str 4 1702195828,.str 4 1701869940,.str 5 435710945399] 37 1 .any)
abbrev eK(a b:Nat)(l r:T Es):T Es:=.node (some [([.int .u8 (.lit (a:Nat))],I (b:Nat))]) l r
abbrev dZ(l r:T Es):T Es:=.node none l r
abbrev bp:T Es:=.nil
abbrev ae8(a b:Nat):T Es:=eK a b bp bp
def aoU:T Es:=(dZ (dZ (dZ (dZ bp (dZ bp (ae8 111 1))) (dZ (dZ bp (ae8 103 1)) (dZ bp (ae8 119 1)))) (dZ (dZ (dZ bp (ae8 99 1)) (eK 51 3 bp (ae8 115 1))) (dZ (eK 43 6 bp (ae8 107 1)) (eK 59 6 (ae8 91 6) (ae8 123 6))))) (dZ (dZ (dZ (dZ bp (ae8 97 1)) (eK 49 3 bp (ae8 113 1))) (dZ (eK 41 6 bp (ae8 105 1)) (eK 57 3 bp (ae8 121 1)))) (dZ (dZ (dZ bp (ae8 101 1)) (dZ bp (ae8 117 1))) (dZ (dZ bp (ae8 109 1)) (eK 61 6 (ae8 93 6) (ae8 125 6))))))
theorem akL:aV Tryz.prog .nil 191 (iE aoU):=Aq (show tF Tryz.prog .nil [] from trivial) (n:=20000) (by decide) (by kernel_rfl)
def aoV:T Es:=(dZ (dZ (dZ (dZ (ae8 32 0) (eK 48 3 bp (ae8 112 1))) (dZ (eK 40 6 bp (ae8 104 1)) (dZ bp (ae8 120 1)))) (dZ (dZ (dZ bp (ae8 100 1)) (dZ bp (ae8 116 1))) (dZ (eK 44 6 bp (ae8 108 1)) (ae8 60 6)))) (dZ (dZ (dZ bp (eK 50 3 bp (ae8 114 1))) (dZ bp (eK 58 6 bp (ae8 122 1)))) (dZ (dZ bp (dZ bp (ae8 118 1))) (dZ (eK 46 6 bp (ae8 110 1)) bp))))
theorem akM:aV Tryz.prog .nil 191 (iE aoV):=Aq (show tF Tryz.prog .nil [] from trivial) (n:=20000) (by decide) (by kernel_rfl)
def aoW:T Es:=(dZ aoU aoV)
theorem akN:aV Tryz.prog .nil 191 (iE aoW):=aV.app (show aV Tryz.prog .nil 191 [] from trivial) (aV.app akL akM)
def aB8:T Es:=aoW
theorem asQ:HC Tryz.prog .nil 191 aB8:=.of akN
def aoX:Es:=[([PQ,.str 4 1702521203],(.bool false))]
def aoY:Es:=[([PQ,.str 8 8243122732010005874],(.bool false))]
def acD:Es:=[([PQ,.str 2 29793],(.bool false))]
def acE:Es:=[([PQ,.str 6 133532402673005],(.bool false))]
def acF:Es:=[([PQ,.str 5 435761280369],(.bool false))]
def aiS:Es:=[([PQ,.str 1 51],(.bool false))]
def aiT:Es:=[([PQ,.str 3 7632240],(.bool false))]
def acG:Es:=[([PQ,.str 1 115],(.bool false)),([.sl [.str 2 29295] 1 1 .any,.str 2 15677],(.bool false)),([.sl [.str 3 6581857] 1 1 .any,.str 2 15677],(.bool false)),([.nils,.str 2 15677],(.bool false)),([.sl [.str 2 15677,.str 2 15649,.str 1 60,.str 2 15676] 4 1 .any,.str 2 15677],(.bool true))]
def acH:Es:=[([PQ,.str 7 32199698088816483],(.bool false))]
def aiU:Es:=[([.sl [.str 2 29295] 1 1 .any,.str 1 43],(.bool false)),([.sl [.str 3 6581857] 1 1 .any,.str 1 43],(.bool false)),([.nils,.str 1 43],(.bool false)),([.sl [.str 2 15677,.str 2 15649,.str 1 60,.str 2 15676] 4 1 .any,.str 1 43],(.bool false)),([.sl [.str 1 43,.str 1 45] 2 1 .any,.str 1 43],(.bool true))]
def aiV:Es:=[([PQ,.str 2 14649],(.bool false))]
def aiW:Es:=[([PQ,.str 1 49],(.bool false))]
def acI:Es:=[([PQ,.str 4 1684104562],(.bool false)),([PQ,.str 4 2003790963],(.bool false))]
def acJ:Es:=[([PQ,.str 1 121],(.bool false))]
def aiX:Es:=[([PQ,.str 3 6579297],(.bool false))]
def acK:Es:=[([PQ,.str 5 435744764535],(.bool false))]
def acL:Es:=[([PQ,.str 3 7628135],(.bool false))]
def aiY:Es:=[([PQ,.str 1 48],(.bool false))]
def acM:Es:=[([PQ,.str 4 1735289202],(.bool false))]
def acN:Es:=[([PQ,.str 1 120],(.bool false))]
def acO:Es:=[([PQ,.str 1 108],(.bool false))]
def aiZ:Es:=[([.sl [.str 2 29295] 1 1 .any,.str 1 60],(.bool false)),([.sl [.str 3 6581857] 1 1 .any,.str 1 60],(.bool false)),([.nils,.str 1 60],(.bool false)),([.sl [.str 2 15677,.str 2 15649,.str 1 60,.str 2 15676] 4 1 .any,.str 1 60],(.bool true))]
def aoZ:Es:=[([PQ,.str 4 1752397168],(.bool false))]
def ai0:Es:=[([PQ,.str 1 50],(.bool false))]
def acP:Es:=[([PQ,.str 1 114],(.bool false))]
def acQ:Es:=[([PQ,.str 3 6516329],(.bool false))]
def acR:Es:=[([PQ,.str 4 1819043171],(.bool false))]
def acS:Es:=[([PQ,.str 4 1886351972],(.bool false))]
def ao0:Es:=aoX++(aoY++(acD++(acE++(acF++(aiS++(aiT++(acG++(acH++(aiU++(aiV++(aiW++(acI++(acJ++(aiX++(acK++(acL++(aiY++(acM++(acN++(acO++(aiZ++(aoZ++(ai0++(acP++(acQ++(acR++(acS)))))))))))))))))))))))))))
theorem akO:aV Tryz.prog .nil 325 ao0:=Aq (show tF Tryz.prog .nil [] from trivial) (n:=20000) (by decide) (by kernel_rfl)
def axH:T Es:=(.node (some aoX) (.node none (.node (some aoY) (.node none (.node none .nil (.node none .nil (.node none (.node (some acD) .nil .nil) .nil))) (.node none (.node none .nil (.node none .nil (.node (some acE) .nil .nil))) (.node none (.node none (.node (some acF) .nil .nil) .nil) .nil))) (.node none (.node none .nil (.node (some aiS) (.node (some aiT) .nil .nil) (.node (some acG) .nil (.node (some acH) .nil .nil)))) (.node none (.node (some aiU) .nil .nil) (.node none (.node (some aiV) .nil .nil) .nil)))) (.node none (.node none (.node none .nil (.node (some aiW) .nil .nil)) (.node none (.node none .nil (.node none .nil (.node (some acI) .nil .nil))) (.node none .nil (.node (some acJ) .nil .nil)))) (.node none (.node none .nil (.node none (.node (some aiX) .nil .nil) (.node (some acK) .nil (.node (some acL) .nil .nil)))) .nil))) (.node none (.node none (.node none (.node none .nil (.node (some aiY) .nil .nil)) (.node none (.node none (.node none .nil (.node (some acM) .nil .nil)) .nil) (.node none .nil (.node (some acN) .nil .nil)))) (.node none .nil (.node none (.node none .nil (.node (some acO) .nil .nil)) (.node (some aiZ) .nil .nil)))) (.node (some aoZ) (.node none (.node none .nil (.node (some ai0) .nil (.node (some acP) .nil .nil))) .nil) (.node none (.node none .nil (.node none .nil (.node (some acQ) .nil .nil))) (.node none (.node none .nil (.node none .nil (.node (some acR) .nil .nil))) (.node none .nil (.node (some acS) .nil .nil)))))))
theorem asR:HC Tryz.prog .nil 325 axH:=.eq akO (show iE axH=ao0 by kernel_rfl)
def ao1:Es:=[([I 1],(.sl [.str 2 29295] 1 1 .any))]
def ao2:Es:=[([I 3],.nils)]
def ao3:Es:=[([I 5],(.sl [.str 1 43,.str 1 45] 2 1 .any))]
def ao4:Es:=[([I 2],(.sl [.str 3 6581857] 1 1 .any))]
def ao5:Es:=[([I 4],(.sl [.str 2 15677,.str 2 15649,.str 1 60,.str 2 15676] 4 1 .any))]
def ao6:Es:=[([I 6],(.sl [.str 1 42] 1 1 .any))]
def ao7:Es:=ao1++(ao2++(ao3++(ao4++(ao5++(ao6)))))
theorem akP:aV Tryz.prog .nil 361 ao7:=Aq (show tF Tryz.prog .nil [] from trivial) (n:=20000) (by decide) (by kernel_rfl)
def axI:T Es:=(.node none (.node (some ao1) (.node (some ao2) .nil .nil) (.node (some ao3) .nil .nil)) (.node (some ao4) (.node (some ao5) .nil .nil) (.node (some ao6) .nil .nil)))
theorem asS:HC Tryz.prog .nil 361 axI:=.eq akP (show iE axI=ao7 by kernel_rfl)
def axJ:List (Nat×T Es):=(191,aB8) ::(325,axH) ::(361,axI) ::[]
theorem sW:tF Tryz.prog .nil axJ:=(yn (yn (yn (show tF Tryz.prog .nil [] from trivial) (by decide) asS) (by decide) asR) (by decide) asQ)
def avc:Es:=[([.str 5 435761280369],(.tuple [.sl [I 0,I 0,I 0,.str 5 435761280369] 1 4 .any,I 0,I 0])),
 ([.str 3 7632240],(.tuple [.sl [I 0,I 0,I 0,.str 3 7632240] 1 4 .any,I 0,I 0])),
 ([.str 1 120],(.tuple [.sl [I 0,I 0,I 0,.str 1 120] 1 4 .any,I 0,I 0])),
 ([.str 4 1702521203],(.tuple [.sl [I 0,I 0,I 0,.str 4 1702521203] 1 4 .any,I 0,I 0])),
 ([.str 1 115],(.tuple [.sl [I 0,I 0,I 0,.str 1 115] 1 4 .any,I 0,I 0])),
 ([.str 4 1752397168],(.tuple [.sl [I 0,I 0,I 0,.str 4 1752397168] 1 4 .any,I 0,I 0])),
 ([.str 1 114],(.tuple [.sl [I 0,I 0,I 0,.str 1 114] 1 4 .any,I 0,I 0])),
 ([.str 3 7628135],(.tuple [.sl [I 0,I 0,I 0,.str 3 7628135] 1 4 .any,I 0,I 0])),
 ([.str 4 1886351972],(.tuple [.sl [I 0,I 0,I 0,.str 4 1886351972] 1 4 .any,I 0,I 0])),
 ([.str 2 29793],(.tuple [.sl [I 0,I 0,I 0,.str 2 29793] 1 4 .any,I 0,I 0])),
 ([.str 7 32199698088816483],(.tuple [.sl [I 0,I 0,I 0,.str 7 32199698088816483] 1 4 .any,I 0,I 0])),
 ([.str 3 6516329],(.tuple [.sl [I 0,I 0,I 0,.str 3 6516329] 1 4 .any,I 0,I 0])),
 ([.str 4 1684104562],(.tuple [.sl [I 0,I 0,I 0,.str 4 1684104562] 1 4 .any,I 0,I 0])),
 ([.str 3 6579297],(.tuple [.sl [I 0,I 0,I 0,.str 3 6579297] 1 4 .any,I 0,I 0])),
 ([.str 1 121],(.tuple [.sl [I 0,I 0,I 0,.str 1 121] 1 4 .any,I 0,I 0])),
 ([.str 8 8243122732010005874],(.tuple [.sl [I 0,I 0,I 0,.str 8 8243122732010005874] 1 4 .any,I 0,I 0])),
 ([.str 5 435744764535],(.tuple [.sl [I 0,I 0,I 0,.str 5 435744764535] 1 4 .any,I 0,I 0])),
 ([.str 4 1735289202],(.tuple [.sl [I 0,I 0,I 0,.str 4 1735289202] 1 4 .any,I 0,I 0])),
 ([.str 4 1819043171],(.tuple [.sl [I 0,I 0,I 0,.str 4 1819043171] 1 4 .any,I 0,I 0])),
 ([.str 4 2003790963],(.tuple [.sl [I 0,I 0,I 0,.str 4 2003790963] 1 4 .any,I 0,I 0])),
 ([.str 1 108],(.tuple [.sl [I 0,I 0,I 0,.str 1 108] 1 4 .any,I 0,I 0])),
 ([.str 6 133532402673005],(.tuple [.sl [I 0,I 0,I 0,.str 6 133532402673005] 1 4 .any,I 0,I 0]))]
theorem ao8:aV Tryz.prog .nil 123 avc:=Aq sW (n:=20000) (by decide) (by kernel_rfl)
end Ln
