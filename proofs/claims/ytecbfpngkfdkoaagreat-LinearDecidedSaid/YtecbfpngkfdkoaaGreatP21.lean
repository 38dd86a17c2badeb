/- A part of the proof. No condition. -/
import Derived.Test.YtecbfpngkfdkoaaGreatP8
import Derived.KernelRfl
namespace Ln
open Go.Sx Go Go.Proofs
def N5:AV:=(.sl [.str 3 6581857,.str 4 1819242338,.str 5 461229090915,.str 5 469919427683,.str 5 495857003619,.str 7 28268862397837155,.str 4 1702063205,.str 5 435728179558,.str 3 7239014,.str 3 7234919,.str 2 26217,.str 2 28265,.str 3 7630441,.str 3 7628140,.str 4 1953720684,.str 4 1701536109,.str 5 448345170285,.str 5 465557548909,.str 4 1954047342,.str 3 7630702,.str 2 26223,.str 3 6647407,.str 2 28783,.str 2 29295,.str 4 1801677168,.str 4 1953722224,.str 3 6648432,.str 4 1886351984,.str 7 32199706694346098,.str 6 128009175786866,.str 6 121437875889522,.str 4 1885697139,.str 6 120282512849267,.str 4 1852139636,.str 4 1702195828,.str 4 1701869940,.str 5 435710945399] 37 1 .any)
abbrev eX(a b:Nat)(l r:T Es):T Es:=.node (some [([.int .u8 (.lit (a:Nat))],I (b:Nat))]) l r
abbrev eL(l r:T Es):T Es:=.node none l r
abbrev bA:T Es:=.nil
abbrev agC(a b:Nat):T Es:=eX a b bA bA
def ano:T Es:=(eL (eL (eL (eL bA (eL bA (agC 111 1))) (eL (eL bA (agC 103 1)) (eL bA (agC 119 1)))) (eL (eL (eL bA (agC 99 1)) (eX 51 3 bA (agC 115 1))) (eL (eX 43 6 bA (agC 107 1)) (eX 59 6 (agC 91 6) (agC 123 6))))) (eL (eL (eL (eL bA (agC 97 1)) (eX 49 3 bA (agC 113 1))) (eL (eX 41 6 bA (agC 105 1)) (eX 57 3 bA (agC 121 1)))) (eL (eL (eL bA (agC 101 1)) (eL bA (agC 117 1))) (eL (eL bA (agC 109 1)) (eX 61 6 (agC 93 6) (agC 125 6))))))
theorem ajs:aT Tryz.prog .nil 191 (jb ano):=AR (show uw Tryz.prog .nil [] from trivial) (n:=20000) (by decide) (by kernel_rfl)
def anp:T Es:=(eL (eL (eL (eL (agC 32 0) (eX 48 3 bA (agC 112 1))) (eL (eX 40 6 bA (agC 104 1)) (eL bA (agC 120 1)))) (eL (eL (eL bA (agC 100 1)) (eL bA (agC 116 1))) (eL (eX 44 6 bA (agC 108 1)) (agC 60 6)))) (eL (eL (eL bA (eX 50 3 bA (agC 114 1))) (eL bA (eX 58 6 bA (agC 122 1)))) (eL (eL bA (eL bA (agC 118 1))) (eL (eX 46 6 bA (agC 110 1)) bA))))
theorem ajt:aT Tryz.prog .nil 191 (jb anp):=AR (show uw Tryz.prog .nil [] from trivial) (n:=20000) (by decide) (by kernel_rfl)
def anq:T Es:=(eL ano anp)
theorem aju:aT Tryz.prog .nil 191 (jb anq):=aT.app (show aT Tryz.prog .nil 191 [] from trivial) (aT.app ajs ajt)
def aBc:T Es:=anq
theorem arJ:FX Tryz.prog .nil 191 aBc:=.of aju
def anr:Es:=[([N5,.str 4 1702521203],(.bool false))]
def ans:Es:=[([N5,.str 8 8243122732010005874],(.bool false))]
def abd:Es:=[([N5,.str 2 29793],(.bool false))]
def abe:Es:=[([N5,.str 6 133532402673005],(.bool false))]
def abf:Es:=[([N5,.str 5 435761280369],(.bool false))]
def ahC:Es:=[([N5,.str 1 51],(.bool false))]
def ahD:Es:=[([N5,.str 3 7632240],(.bool false))]
def abg:Es:=[([N5,.str 1 115],(.bool false)),([.sl [.str 2 29295] 1 1 .any,.str 2 15677],(.bool false)),([.sl [.str 3 6581857] 1 1 .any,.str 2 15677],(.bool false)),([.nils,.str 2 15677],(.bool false)),([.sl [.str 2 15677,.str 2 15649,.str 1 60,.str 2 15676] 4 1 .any,.str 2 15677],(.bool true))]
def abh:Es:=[([N5,.str 7 32199698088816483],(.bool false))]
def ahE:Es:=[([.sl [.str 2 29295] 1 1 .any,.str 1 43],(.bool false)),([.sl [.str 3 6581857] 1 1 .any,.str 1 43],(.bool false)),([.nils,.str 1 43],(.bool false)),([.sl [.str 2 15677,.str 2 15649,.str 1 60,.str 2 15676] 4 1 .any,.str 1 43],(.bool false)),([.sl [.str 1 43,.str 1 45] 2 1 .any,.str 1 43],(.bool true))]
def ahF:Es:=[([N5,.str 2 14649],(.bool false))]
def ahG:Es:=[([N5,.str 1 49],(.bool false))]
def abi:Es:=[([N5,.str 4 1684104562],(.bool false)),([N5,.str 4 2003790963],(.bool false))]
def abk:Es:=[([N5,.str 1 121],(.bool false))]
def ahH:Es:=[([N5,.str 3 6579297],(.bool false))]
def abl:Es:=[([N5,.str 5 435744764535],(.bool false))]
def abm:Es:=[([N5,.str 3 7628135],(.bool false))]
def ahI:Es:=[([N5,.str 1 48],(.bool false))]
def abn:Es:=[([N5,.str 4 1735289202],(.bool false))]
def abo:Es:=[([N5,.str 1 120],(.bool false))]
def abp:Es:=[([N5,.str 1 108],(.bool false))]
def ahJ:Es:=[([.sl [.str 2 29295] 1 1 .any,.str 1 60],(.bool false)),([.sl [.str 3 6581857] 1 1 .any,.str 1 60],(.bool false)),([.nils,.str 1 60],(.bool false)),([.sl [.str 2 15677,.str 2 15649,.str 1 60,.str 2 15676] 4 1 .any,.str 1 60],(.bool true))]
def ant:Es:=[([N5,.str 4 1752397168],(.bool false))]
def ahK:Es:=[([N5,.str 1 50],(.bool false))]
def abq:Es:=[([N5,.str 1 114],(.bool false))]
def abr:Es:=[([N5,.str 3 6516329],(.bool false))]
def abt:Es:=[([N5,.str 4 1819043171],(.bool false))]
def abu:Es:=[([N5,.str 4 1886351972],(.bool false))]
def anu:Es:=anr++(ans++(abd++(abe++(abf++(ahC++(ahD++(abg++(abh++(ahE++(ahF++(ahG++(abi++(abk++(ahH++(abl++(abm++(ahI++(abn++(abo++(abp++(ahJ++(ant++(ahK++(abq++(abr++(abt++(abu)))))))))))))))))))))))))))
theorem ajv:aT Tryz.prog .nil 325 anu:=AR (show uw Tryz.prog .nil [] from trivial) (n:=20000) (by decide) (by kernel_rfl)
def awK:T Es:=(.node (some anr) (.node none (.node (some ans) (.node none (.node none .nil (.node none .nil (.node none (.node (some abd) .nil .nil) .nil))) (.node none (.node none .nil (.node none .nil (.node (some abe) .nil .nil))) (.node none (.node none (.node (some abf) .nil .nil) .nil) .nil))) (.node none (.node none .nil (.node (some ahC) (.node (some ahD) .nil .nil) (.node (some abg) .nil (.node (some abh) .nil .nil)))) (.node none (.node (some ahE) .nil .nil) (.node none (.node (some ahF) .nil .nil) .nil)))) (.node none (.node none (.node none .nil (.node (some ahG) .nil .nil)) (.node none (.node none .nil (.node none .nil (.node (some abi) .nil .nil))) (.node none .nil (.node (some abk) .nil .nil)))) (.node none (.node none .nil (.node none (.node (some ahH) .nil .nil) (.node (some abl) .nil (.node (some abm) .nil .nil)))) .nil))) (.node none (.node none (.node none (.node none .nil (.node (some ahI) .nil .nil)) (.node none (.node none (.node none .nil (.node (some abn) .nil .nil)) .nil) (.node none .nil (.node (some abo) .nil .nil)))) (.node none .nil (.node none (.node none .nil (.node (some abp) .nil .nil)) (.node (some ahJ) .nil .nil)))) (.node (some ant) (.node none (.node none .nil (.node (some ahK) .nil (.node (some abq) .nil .nil))) .nil) (.node none (.node none .nil (.node none .nil (.node (some abr) .nil .nil))) (.node none (.node none .nil (.node none .nil (.node (some abt) .nil .nil))) (.node none .nil (.node (some abu) .nil .nil)))))))
theorem arK:FX Tryz.prog .nil 325 awK:=.eq ajv (show jb awK=anu by kernel_rfl)
def anv:Es:=[([I 1],(.sl [.str 2 29295] 1 1 .any))]
def anw:Es:=[([I 3],.nils)]
def anx:Es:=[([I 5],(.sl [.str 1 43,.str 1 45] 2 1 .any))]
def anz:Es:=[([I 2],(.sl [.str 3 6581857] 1 1 .any))]
def anA:Es:=[([I 4],(.sl [.str 2 15677,.str 2 15649,.str 1 60,.str 2 15676] 4 1 .any))]
def anB:Es:=[([I 6],(.sl [.str 1 42] 1 1 .any))]
def anC:Es:=anv++(anw++(anx++(anz++(anA++(anB)))))
theorem ajw:aT Tryz.prog .nil 361 anC:=AR (show uw Tryz.prog .nil [] from trivial) (n:=20000) (by decide) (by kernel_rfl)
def awL:T Es:=(.node none (.node (some anv) (.node (some anw) .nil .nil) (.node (some anx) .nil .nil)) (.node (some anz) (.node (some anA) .nil .nil) (.node (some anB) .nil .nil)))
theorem arL:FX Tryz.prog .nil 361 awL:=.eq ajw (show jb awL=anC by kernel_rfl)
def awM:List (Nat×T Es):=(191,aBc) ::(325,awK) ::(361,awL) ::[]
theorem tS:uw Tryz.prog .nil awM:=(yR (yR (yR (show uw Tryz.prog .nil [] from trivial) (by decide) arL) (by decide) arK) (by decide) arJ)
def at7:Es:=[([.str 5 435761280369],(.tuple [.sl [I 0,I 0,I 0,.str 5 435761280369] 1 4 .any,I 0,I 0])),
 ([.str 3 7632240],(.tuple [.sl [I 0,I 0,I 0,.str 3 7632240] 1 4 .any,I 0,I 0])),
 ([.str 1 120],(.tuple [.sl [I 0,I 0,I 0,.str 1 120] 1 4 .any,I 0,I 0])),
 ([.str 4 1702521203],(.tuple [.sl [I 0,I 0,I 0,.str 4 1702521203] 1 4 .any,I 0,I 0])),
 ([.str 1 115],(.tuple [.sl [I 0,I 0,I 0,.str 1 115] 1 4 .any,I 0,I 0])),
 ([.str 4 1752397168],(.tuple [.sl [I 0,I 0,I 0,.str 4 1752397168] 1 4 .any,I 0,I 0])),
 ([.str 1 114],(.tuple [.sl [I 0,I 0,I 0,.str 1 114] 1 4 .any,I 0,I 0])),
 ([.str 3 7628135],(.tuple [.sl [I 0,I 0,I 0,.str 3 7628135] 1 4 .any,I 0,I 0])),
 ([.str 4 1886351972],(.tuple [.sl [I 0,I 0,I 0,.str 4 1886351972] 1 4 .any,I 0,I 0])),
 ([.str 2 29793],(.tuple [.sl [I 0,I 0,I 0,.str 2 29793] 1 4 .any,I 0,I 0])),
 ([.str 7 32199698088816483],(.tuple [.sl [I 0,I 0,I 0,.str 7 32199698088816483] 1 4 .any,I 0,I 0])),
 ([.str 3 6516329],(.tuple [.sl [I 0,I 0,I 0,.str 3 6516329] 1 4 .any,I 0,I 0])),
 ([.str 4 1684104562],(.tuple [.sl [I 0,I 0,I 0,.str 4 1684104562] 1 4 .any,I 0,I 0])),
 ([.str 3 6579297],(.tuple [.sl [I 0,I 0,I 0,.str 3 6579297] 1 4 .any,I 0,I 0])),
 ([.str 1 121],(.tuple [.sl [I 0,I 0,I 0,.str 1 121] 1 4 .any,I 0,I 0])),
 ([.str 8 8243122732010005874],(.tuple [.sl [I 0,I 0,I 0,.str 8 8243122732010005874] 1 4 .any,I 0,I 0])),
 ([.str 5 435744764535],(.tuple [.sl [I 0,I 0,I 0,.str 5 435744764535] 1 4 .any,I 0,I 0])),
 ([.str 4 1735289202],(.tuple [.sl [I 0,I 0,I 0,.str 4 1735289202] 1 4 .any,I 0,I 0])),
 ([.str 4 1819043171],(.tuple [.sl [I 0,I 0,I 0,.str 4 1819043171] 1 4 .any,I 0,I 0])),
 ([.str 4 2003790963],(.tuple [.sl [I 0,I 0,I 0,.str 4 2003790963] 1 4 .any,I 0,I 0])),
 ([.str 1 108],(.tuple [.sl [I 0,I 0,I 0,.str 1 108] 1 4 .any,I 0,I 0])),
 ([.str 6 133532402673005],(.tuple [.sl [I 0,I 0,I 0,.str 6 133532402673005] 1 4 .any,I 0,I 0]))]
theorem anD:aT Tryz.prog .nil 123 at7:=AR tS (n:=20000) (by decide) (by kernel_rfl)
end Ln
