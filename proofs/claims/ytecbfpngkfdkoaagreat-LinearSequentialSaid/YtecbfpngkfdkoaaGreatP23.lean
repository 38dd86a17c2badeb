/- A part of the proof. No condition. -/
import Derived.Test.YtecbfpngkfdkoaaGreatP8
import Derived.KernelRfl
namespace Ln
open Go.Sx Go Go.Proofs
def NZ:AV:=(.sl [.str 3 6581857,.str 4 1819242338,.str 5 461229090915,.str 5 469919427683,.str 5 495857003619,.str 7 28268862397837155,.str 4 1702063205,.str 5 435728179558,.str 3 7239014,.str 3 7234919,.str 2 26217,.str 2 28265,.str 3 7630441,.str 3 7628140,.str 4 1953720684,.str 4 1701536109,.str 5 448345170285,.str 5 465557548909,.str 4 1954047342,.str 3 7630702,.str 2 26223,.str 3 6647407,.str 2 28783,.str 2 29295,.str 4 1801677168,.str 4 1953722224,.str 3 6648432,.str 4 1886351984,.str 7 32199706694346098,.str 6 128009175786866,.str 6 121437875889522,.str 4 1885697139,.str 6 120282512849267,.str 4 1852139636,.str 4 1702195828,.str 4 1701869940,.str 5 435710945399] 37 1 .any)
abbrev dU(a b:Nat)(l r:T Es):T Es:=.node (some [([.int .u8 (.lit (a:Nat))],I (b:Nat))]) l r
abbrev dO(l r:T Es):T Es:=.node none l r
abbrev aW:T Es:=.nil
abbrev ahE(a b:Nat):T Es:=dU a b aW aW
def aom:T Es:=(dO (dO (dO (dO aW (dO aW (ahE 111 1))) (dO (dO aW (ahE 103 1)) (dO aW (ahE 119 1)))) (dO (dO (dO aW (ahE 99 1)) (dU 51 3 aW (ahE 115 1))) (dO (dU 43 6 aW (ahE 107 1)) (dU 59 6 (ahE 91 6) (ahE 123 6))))) (dO (dO (dO (dO aW (ahE 97 1)) (dU 49 3 aW (ahE 113 1))) (dO (dU 41 6 aW (ahE 105 1)) (dU 57 3 aW (ahE 121 1)))) (dO (dO (dO aW (ahE 101 1)) (dO aW (ahE 117 1))) (dO (dO aW (ahE 109 1)) (dU 61 6 (ahE 93 6) (ahE 125 6))))))
theorem ajX:aR Tryz.prog .nil 191 (iB aom):=zH (show sG Tryz.prog .nil [] from trivial) (n:=20000) (by decide) (by kernel_rfl)
def aon:T Es:=(dO (dO (dO (dO (ahE 32 0) (dU 48 3 aW (ahE 112 1))) (dO (dU 40 6 aW (ahE 104 1)) (dO aW (ahE 120 1)))) (dO (dO (dO aW (ahE 100 1)) (dO aW (ahE 116 1))) (dO (dU 44 6 aW (ahE 108 1)) (ahE 60 6)))) (dO (dO (dO aW (dU 50 3 aW (ahE 114 1))) (dO aW (dU 58 6 aW (ahE 122 1)))) (dO (dO aW (dO aW (ahE 118 1))) (dO (dU 46 6 aW (ahE 110 1)) aW))))
theorem ajY:aR Tryz.prog .nil 191 (iB aon):=zH (show sG Tryz.prog .nil [] from trivial) (n:=20000) (by decide) (by kernel_rfl)
def aoo:T Es:=(dO aom aon)
theorem ajZ:aR Tryz.prog .nil 191 (iB aoo):=aR.app (show aR Tryz.prog .nil 191 [] from trivial) (aR.app ajX ajY)
def aDt:T Es:=aoo
theorem asJ:EP Tryz.prog .nil 191 aDt:=.of ajZ
def aop:Es:=[([NZ,.str 4 1702521203],(.bool false))]
def aoq:Es:=[([NZ,.str 8 8243122732010005874],(.bool false))]
def abL:Es:=[([NZ,.str 2 29793],(.bool false))]
def abM:Es:=[([NZ,.str 6 133532402673005],(.bool false))]
def abN:Es:=[([NZ,.str 5 435761280369],(.bool false))]
def aia:Es:=[([NZ,.str 1 51],(.bool false))]
def aib:Es:=[([NZ,.str 3 7632240],(.bool false))]
def abO:Es:=[([NZ,.str 1 115],(.bool false)),([.sl [.str 2 29295] 1 1 .any,.str 2 15677],(.bool false)),([.sl [.str 3 6581857] 1 1 .any,.str 2 15677],(.bool false)),([.nils,.str 2 15677],(.bool false)),([.sl [.str 2 15677,.str 2 15649,.str 1 60,.str 2 15676] 4 1 .any,.str 2 15677],(.bool true))]
def abP:Es:=[([NZ,.str 7 32199698088816483],(.bool false))]
def aic:Es:=[([.sl [.str 2 29295] 1 1 .any,.str 1 43],(.bool false)),([.sl [.str 3 6581857] 1 1 .any,.str 1 43],(.bool false)),([.nils,.str 1 43],(.bool false)),([.sl [.str 2 15677,.str 2 15649,.str 1 60,.str 2 15676] 4 1 .any,.str 1 43],(.bool false)),([.sl [.str 1 43,.str 1 45] 2 1 .any,.str 1 43],(.bool true))]
def aid:Es:=[([NZ,.str 2 14649],(.bool false))]
def aie:Es:=[([NZ,.str 1 49],(.bool false))]
def abQ:Es:=[([NZ,.str 4 1684104562],(.bool false)),([NZ,.str 4 2003790963],(.bool false))]
def abR:Es:=[([NZ,.str 1 121],(.bool false))]
def aif:Es:=[([NZ,.str 3 6579297],(.bool false))]
def abS:Es:=[([NZ,.str 5 435744764535],(.bool false))]
def abT:Es:=[([NZ,.str 3 7628135],(.bool false))]
def aih:Es:=[([NZ,.str 1 48],(.bool false))]
def abU:Es:=[([NZ,.str 4 1735289202],(.bool false))]
def abV:Es:=[([NZ,.str 1 120],(.bool false))]
def abW:Es:=[([NZ,.str 1 108],(.bool false))]
def aii:Es:=[([.sl [.str 2 29295] 1 1 .any,.str 1 60],(.bool false)),([.sl [.str 3 6581857] 1 1 .any,.str 1 60],(.bool false)),([.nils,.str 1 60],(.bool false)),([.sl [.str 2 15677,.str 2 15649,.str 1 60,.str 2 15676] 4 1 .any,.str 1 60],(.bool true))]
def aor:Es:=[([NZ,.str 4 1752397168],(.bool false))]
def aij:Es:=[([NZ,.str 1 50],(.bool false))]
def abX:Es:=[([NZ,.str 1 114],(.bool false))]
def abY:Es:=[([NZ,.str 3 6516329],(.bool false))]
def abZ:Es:=[([NZ,.str 4 1819043171],(.bool false))]
def ab2:Es:=[([NZ,.str 4 1886351972],(.bool false))]
def aos:Es:=aop++(aoq++(abL++(abM++(abN++(aia++(aib++(abO++(abP++(aic++(aid++(aie++(abQ++(abR++(aif++(abS++(abT++(aih++(abU++(abV++(abW++(aii++(aor++(aij++(abX++(abY++(abZ++(ab2)))))))))))))))))))))))))))
theorem aj0:aR Tryz.prog .nil 325 aos:=zH (show sG Tryz.prog .nil [] from trivial) (n:=20000) (by decide) (by kernel_rfl)
def ayL:T Es:=(.node (some aop) (.node none (.node (some aoq) (.node none (.node none .nil (.node none .nil (.node none (.node (some abL) .nil .nil) .nil))) (.node none (.node none .nil (.node none .nil (.node (some abM) .nil .nil))) (.node none (.node none (.node (some abN) .nil .nil) .nil) .nil))) (.node none (.node none .nil (.node (some aia) (.node (some aib) .nil .nil) (.node (some abO) .nil (.node (some abP) .nil .nil)))) (.node none (.node (some aic) .nil .nil) (.node none (.node (some aid) .nil .nil) .nil)))) (.node none (.node none (.node none .nil (.node (some aie) .nil .nil)) (.node none (.node none .nil (.node none .nil (.node (some abQ) .nil .nil))) (.node none .nil (.node (some abR) .nil .nil)))) (.node none (.node none .nil (.node none (.node (some aif) .nil .nil) (.node (some abS) .nil (.node (some abT) .nil .nil)))) .nil))) (.node none (.node none (.node none (.node none .nil (.node (some aih) .nil .nil)) (.node none (.node none (.node none .nil (.node (some abU) .nil .nil)) .nil) (.node none .nil (.node (some abV) .nil .nil)))) (.node none .nil (.node none (.node none .nil (.node (some abW) .nil .nil)) (.node (some aii) .nil .nil)))) (.node (some aor) (.node none (.node none .nil (.node (some aij) .nil (.node (some abX) .nil .nil))) .nil) (.node none (.node none .nil (.node none .nil (.node (some abY) .nil .nil))) (.node none (.node none .nil (.node none .nil (.node (some abZ) .nil .nil))) (.node none .nil (.node (some ab2) .nil .nil)))))))
theorem asK:EP Tryz.prog .nil 325 ayL:=.eq aj0 (show iB ayL=aos by kernel_rfl)
def aot:Es:=[([I 1],(.sl [.str 2 29295] 1 1 .any))]
def aou:Es:=[([I 3],.nils)]
def aov:Es:=[([I 5],(.sl [.str 1 43,.str 1 45] 2 1 .any))]
def aow:Es:=[([I 2],(.sl [.str 3 6581857] 1 1 .any))]
def aox:Es:=[([I 4],(.sl [.str 2 15677,.str 2 15649,.str 1 60,.str 2 15676] 4 1 .any))]
def aoy:Es:=[([I 6],(.sl [.str 1 42] 1 1 .any))]
def aoz:Es:=aot++(aou++(aov++(aow++(aox++(aoy)))))
theorem aj1:aR Tryz.prog .nil 361 aoz:=zH (show sG Tryz.prog .nil [] from trivial) (n:=20000) (by decide) (by kernel_rfl)
def ayM:T Es:=(.node none (.node (some aot) (.node (some aou) .nil .nil) (.node (some aov) .nil .nil)) (.node (some aow) (.node (some aox) .nil .nil) (.node (some aoy) .nil .nil)))
theorem asL:EP Tryz.prog .nil 361 ayM:=.eq aj1 (show iB ayM=aoz by kernel_rfl)
def ayN:List (Nat×T Es):=(191,aDt) ::(325,ayL) ::(361,ayM) ::[]
theorem sn:sG Tryz.prog .nil ayN:=(xI (xI (xI (show sG Tryz.prog .nil [] from trivial) (by decide) asL) (by decide) asK) (by decide) asJ)
def avs:Es:=[([.str 5 435761280369],(.tuple [.sl [I 0,I 0,I 0,.str 5 435761280369] 1 4 .any,I 0,I 0])),
 ([.str 3 7632240],(.tuple [.sl [I 0,I 0,I 0,.str 3 7632240] 1 4 .any,I 0,I 0])),
 ([.str 1 120],(.tuple [.sl [I 0,I 0,I 0,.str 1 120] 1 4 .any,I 0,I 0])),
 ([.str 4 1702521203],(.tuple [.sl [I 0,I 0,I 0,.str 4 1702521203] 1 4 .any,I 0,I 0])),
 ([.str 1 115],(.tuple [.sl [I 0,I 0,I 0,.str 1 115] 1 4 .any,I 0,I 0])),
 ([.str 4 1752397168],(.tuple [.sl [I 0,I 0,I 0,.str 4 1752397168] 1 4 .any,I 0,I 0])),
 ([.str 1 114],(.tuple [.sl [I 0,I 0,I 0,.str 1 114] 1 4 .any,I 0,I 0])),
 ([.str 3 7628135],(.tuple [.sl [I 0,I 0,I 0,.str 3 7628135] 1 4 .any,I 0,I 0])),
 ([.str 4 1886351972],(.tuple [.sl [I 0,I 0,I 0,.str 4 1886351972] 1 4 .any,I 0,I 0])),
 ([.str 2 29793],(.tuple [.sl [I 0,I 0,I 0,.str 2 29793] 1 4 .any,I 0,I 0])),
 ([.str 7 32199698088816483],(.tuple [.sl [I 0,I 0,I 0,.str 7 32199698088816483] 1 4 .any,I 0,I 0])),
 ([.str 3 6516329],(.tuple [.sl [I 0,I 0,I 0,.str 3 6516329] 1 4 .any,I 0,I 0])),
 ([.str 4 1684104562],(.tuple [.sl [I 0,I 0,I 0,.str 4 1684104562] 1 4 .any,I 0,I 0])),
 ([.str 3 6579297],(.tuple [.sl [I 0,I 0,I 0,.str 3 6579297] 1 4 .any,I 0,I 0])),
 ([.str 1 121],(.tuple [.sl [I 0,I 0,I 0,.str 1 121] 1 4 .any,I 0,I 0])),
 ([.str 8 8243122732010005874],(.tuple [.sl [I 0,I 0,I 0,.str 8 8243122732010005874] 1 4 .any,I 0,I 0])),
 ([.str 5 435744764535],(.tuple [.sl [I 0,I 0,I 0,.str 5 435744764535] 1 4 .any,I 0,I 0])),
 ([.str 4 1735289202],(.tuple [.sl [I 0,I 0,I 0,.str 4 1735289202] 1 4 .any,I 0,I 0])),
 ([.str 4 1819043171],(.tuple [.sl [I 0,I 0,I 0,.str 4 1819043171] 1 4 .any,I 0,I 0])),
 ([.str 4 2003790963],(.tuple [.sl [I 0,I 0,I 0,.str 4 2003790963] 1 4 .any,I 0,I 0])),
 ([.str 1 108],(.tuple [.sl [I 0,I 0,I 0,.str 1 108] 1 4 .any,I 0,I 0])),
 ([.str 6 133532402673005],(.tuple [.sl [I 0,I 0,I 0,.str 6 133532402673005] 1 4 .any,I 0,I 0]))]
theorem aoA:aR Tryz.prog .nil 123 avs:=zH sn (n:=20000) (by decide) (by kernel_rfl)
end Ln
