/- A part of the proof. No condition. -/
import Derived.Test.YtecbfpngkfdkoaaGreatP21
namespace Ln
open Go.Sx Go Go.Proofs
def acS:Es:=[([.agg [I 0,I 1,.str 0 0,.nils]],(.agg [I 0,I 1,.str 0 0,.nils])),
 ([.agg [I 0,I 0,.str 0 0,.nils]],(.agg [I 0,I 0,.str 0 0,.nils])),
 ([.agg [I 1,I 1,.str 0 0,.nils]],(.agg [I 1,I 1,.str 0 0,.nils])),
 ([.agg [I 1,I 0,.str 0 0,.nils]],(.agg [I 1,I 0,.str 0 0,.nils])),
 ([.agg [I 2,I 0,.str 0 0,.sl [] 0 4 .any]],(.agg [I 2,I 0,.str 0 0,.nils]))]
theorem Uo:aC Tryz.prog .nil 62 acS:=mZ (tab:=[]) trivial (n:=20000) (by decide) (by kernel_rfl)
def Wx:Es:=[([vM,I 4,.str 8 8243122732010005874],(.tuple [.agg ((xG.drop 90).take 45),.bool true])),
 ([vM,I 4,.str 5 435761280369],(.tuple [.agg ((xG.drop 0).take 45),.bool true]))]
theorem QZ:aC Tryz.prog .nil 129 Wx:=mZ (tab:=[]) trivial (n:=20000) (by decide) (by kernel_rfl)
def Wy:Es:=[([vM,.str 8 8243122732010005874,.agg [I 200,I 50]],(.tuple [.agg [I 0,I 0,.str 0 0,.nils],I 0])),
 ([vM,.str 5 435761280369,.agg [I 200,I 50]],(.tuple [.agg [I 2,I 0,.str 0 0,.nils],I 0]))]
theorem Q0:aC Tryz.prog .nil 132 Wy:=mZ (tab:=[]) trivial (n:=20000) (by decide) (by kernel_rfl)
def Wz:Es:=[([.agg [I 0,I 0,.str 0 0,.nils],.agg [I 0,I 0,.str 0 0,.nils]],(I 0)),
 ([.agg [I 0,I 0,.str 0 0,.nils],.agg [I 0,I 1,.str 0 0,.nils]],(I (-1))),
 ([.agg [I 0,I 1,.str 0 0,.nils],.agg [I 0,I 0,.str 0 0,.nils]],(I 1)),
 ([.agg [I 0,I 1,.str 0 0,.nils],.agg [I 0,I 1,.str 0 0,.nils]],(I 0))]
theorem Q1:aC Tryz.prog .nil 139 Wz:=mZ (tab:=[]) trivial (n:=20000) (by decide) (by kernel_rfl)
def WA:Es:=[([vM,.str 8 8243122732010005874,.str 5 435744764535,.agg [I 0,I 0,.str 0 0,.nils],.sl [I 0,I 1,.str 0 0,.nils] 1 4 .any,.agg [I 200,I 50]],(.tuple [.bool true,I 0])),
 ([vM,.str 8 8243122732010005874,.str 4 1684104562,.agg [I 0,I 0,.str 0 0,.nils],.nils,.agg [I 200,I 50]],(.tuple [.bool true,I 0])),
 ([vM,.str 8 8243122732010005874,.str 4 1684104562,.agg [I 0,I 1,.str 0 0,.nils],.nils,.agg [I 200,I 50]],(.tuple [.bool true,I 0]))]
theorem Q2:aC Tryz.prog .nil 149 WA:=mZ (tab:=[]) trivial (n:=20000) (by decide) (by kernel_rfl)
def WB:Es:=[([vM,.str 8 8243122732010005874,.str 5 435744764535,.agg [I 0,I 0,.str 0 0,.nils],.sl [I 0,I 1,.str 0 0,.nils] 1 4 .any,.agg [I 0,I 0,.str 0 0,.nils],.agg [I 200,I 50]],(.tuple [.bool true,I 0])),
 ([vM,.str 8 8243122732010005874,.str 4 1684104562,.agg [I 0,I 0,.str 0 0,.nils],.nils,.agg [I 0,I 0,.str 0 0,.nils],.agg [I 200,I 50]],(.tuple [.bool true,I 0])),
 ([vM,.str 8 8243122732010005874,.str 4 1684104562,.agg [I 0,I 1,.str 0 0,.nils],.nils,.agg [I 0,I 0,.str 0 0,.nils],.agg [I 200,I 50]],(.tuple [.bool false,I 0])),
 ([vM,.str 8 8243122732010005874,.str 4 1684104562,.agg [I 0,I 0,.str 0 0,.nils],.nils,.agg [I 0,I 1,.str 0 0,.nils],.agg [I 200,I 50]],(.tuple [.bool false,I 0])),
 ([vM,.str 8 8243122732010005874,.str 4 1684104562,.agg [I 0,I 1,.str 0 0,.nils],.nils,.agg [I 0,I 1,.str 0 0,.nils],.agg [I 200,I 50]],(.tuple [.bool true,I 0]))]
theorem Q3:aC Tryz.prog .nil 150 WB:=mZ (tab:=[]) trivial (n:=20000) (by decide) (by kernel_rfl)
def WC:Es:=[([vM,.str 8 8243122732010005874,.str 5 435744764535,.agg [I 0,I 0,.str 0 0,.nils],.sl [I 0,I 1,.str 0 0,.nils] 1 4 .any,.agg [I 0,I 0,.str 0 0,.nils],.agg [I 200,I 50]],(.tuple [.agg [I 0,I 1,.str 0 0,.nils],I 0])),
 ([vM,.str 8 8243122732010005874,.str 4 1684104562,.agg [I 0,I 0,.str 0 0,.nils],.nils,.agg [I 0,I 0,.str 0 0,.nils],.agg [I 200,I 50]],(.tuple [.agg [I 0,I 0,.str 0 0,.nils],I 0])),
 ([vM,.str 8 8243122732010005874,.str 4 1684104562,.agg [I 0,I 1,.str 0 0,.nils],.nils,.agg [I 0,I 1,.str 0 0,.nils],.agg [I 200,I 50]],(.tuple [.agg [I 0,I 1,.str 0 0,.nils],I 0]))]
theorem Q4:aC Tryz.prog .nil 151 WC:=mZ (tab:=[]) trivial (n:=20000) (by decide) (by kernel_rfl)
def WD:Es:=[([.agg [I 0,I 1,.str 0 0,.nils]],(I 0)),
 ([.agg [I 0,I 0,.str 0 0,.nils]],(I 0)),
 ([.agg [I 2,I 0,.str 0 0,.nils]],(I 0))]
theorem Q5:aC Tryz.prog .nil 159 WD:=mZ (tab:=[]) trivial (n:=20000) (by decide) (by kernel_rfl)
def vKm:Es:=[([],vM)]
theorem Za:aC Tryz.prog .nil 12 vKm:=⟨N9,trivial⟩
def WE:List (Nat×T Es):=[(62,one acS),(129,one Wx),(132,one Wy),(139,one Wz),(149,one WA),(150,one WB),(151,one WC),(159,one WD),(12,one vKm)]
theorem J9:nE Tryz.prog .nil WE:=(sd (sd (sd (sd (sd (sd (sd (sd (sd (show nE Tryz.prog .nil [] from trivial) (by decide) (.one Za)) (by decide) (.one Q5)) (by decide) (.one Q4)) (by decide) (.one Q3)) (by decide) (.one Q2)) (by decide) (.one Q1)) (by decide) (.one Q0)) (by decide) (.one QZ)) (by decide) (.one Uo))
def WG:Es:=[([.agg [I 0,I 0,.str 0 0,.nils]],(.int .u64 (.lit 1036025603977799020))),
 ([.agg [I 0,I 1,.str 0 0,.nils]],(.int .u64 (.lit 5536678271428152152))),
 ([.agg [I 2,I 0,.str 0 0,.nils]],(.int .u64 (.lit 17458373292249916716)))]
theorem Q6:aC Tryz.prog .nil 209 WG:=mZ J9 (n:=20000) (by decide) (by kernel_rfl)
def WH:List (Nat×T Es):=(209,one WG) ::WE
theorem Ka:nE Tryz.prog .nil WH:=sd J9 (by decide) (.one Q6)
def acT:Es:=[([.sl [I 0,I 0,.str 5 435744764535,.sl [I 0,I 1,.str 0 0,.nils] 1 4 .any,I 0,I 0,.str 0 0,.nils,I 0,I 1,.str 4 1684104562,.nils,I 0,I 0,.str 0 0,.nils,I 1,I 1,.str 0 0,.nils,I 0,I 0,.str 0 0,.nils,I 1,I 0,.str 0 0,.nils,I 0,I 0,.str 0 0,.nils] 4 8 .any],(.tuple [.sl [I 0,I 0,I 3,I (-1),.str 5 435744764535,.sl [I 0,I 1,.str 0 0,.nils] 1 4 .any,I 0,I 0,.str 0 0,.nils,I 1,I 1,I 2,I (-1),.str 4 1684104562,.nils,I 0,I 0,.str 0 0,.nils] 2 10 .any,I 0])),
 ([.sl [I 0,I 0,.str 5 435744764535,.sl [I 0,I 1,.str 0 0,.nils] 1 4 .any,I 0,I 0,.str 0 0,.nils,I 0,I 1,.str 4 1684104562,.nils,I 0,I 0,.str 0 0,.nils,I 1,I 1,.str 0 0,.nils,I 0,I 1,.str 0 0,.nils,I 1,I 0,.str 0 0,.nils,I 0,I 0,.str 0 0,.nils] 4 8 .any],(.tuple [.sl [I 0,I 0,I 3,I (-1),.str 5 435744764535,.sl [I 0,I 1,.str 0 0,.nils] 1 4 .any,I 0,I 0,.str 0 0,.nils,I 1,I 1,I 2,I (-1),.str 4 1684104562,.nils,I 0,I 1,.str 0 0,.nils] 2 10 .any,I 0])),
 ([.sl [I 0,I 0,.str 5 435744764535,.sl [I 0,I 1,.str 0 0,.nils] 1 4 .any,I 0,I 0,.str 0 0,.nils,I 0,I 1,.str 4 1684104562,.nils,I 0,I 0,.str 0 0,.nils,I 1,I 1,.str 0 0,.nils,I 0,I 1,.str 0 0,.nils,I 0,I 1,.str 4 1684104562,.nils,I 0,I 0,.str 0 0,.nils,I 1,I 1,.str 0 0,.nils,I 0,I 0,.str 0 0,.nils,I 1,I 0,.str 0 0,.nils,I 0,I 0,.str 0 0,.nils] 6 8 .any],(.tuple [.sl [I 0,I 0,I 5,I (-1),.str 5 435744764535,.sl [I 0,I 1,.str 0 0,.nils] 1 4 .any,I 0,I 0,.str 0 0,.nils,I 1,I 1,I 2,I (-1),.str 4 1684104562,.nils,I 0,I 1,.str 0 0,.nils,I 1,I 3,I 4,I (-1),.str 4 1684104562,.nils,I 0,I 0,.str 0 0,.nils] 3 10 .any,I 0])),
 ([.nils],(.tuple [.nils,I 0]))]
theorem Up:aC Tryz.prog .nil 32 acT:=mZ Ka (n:=20000) (by decide) (by kernel_rfl)
def WJ:List (Nat×T Es):=(32,one acT) ::WH
theorem Kb:nE Tryz.prog .nil WJ:=sd Ka (by decide) (.one Up)
def acU:Es:=[([vM,.str 8 8243122732010005874,.sl [I 0,I 0,.str 5 435744764535,.sl [I 0,I 1,.str 0 0,.nils] 1 4 .any,I 0,I 0,.str 0 0,.nils,I 0,I 1,.str 4 1684104562,.nils,I 0,I 0,.str 0 0,.nils,I 1,I 1,.str 0 0,.nils,I 0,I 0,.str 0 0,.nils,I 1,I 0,.str 0 0,.nils,I 0,I 0,.str 0 0,.nils] 4 8 .any,.agg [I 200,I 50]],(.tuple [.sl [I 1,I 0] 2 1 .any,.agg [.nils],I 0])),
 ([vM,.str 8 8243122732010005874,.sl [I 0,I 0,.str 5 435744764535,.sl [I 0,I 1,.str 0 0,.nils] 1 4 .any,I 0,I 0,.str 0 0,.nils,I 0,I 1,.str 4 1684104562,.nils,I 0,I 0,.str 0 0,.nils,I 1,I 1,.str 0 0,.nils,I 0,I 1,.str 0 0,.nils,I 1,I 0,.str 0 0,.nils,I 0,I 0,.str 0 0,.nils] 4 8 .any,.agg [I 200,I 50]],(.tuple [.sl [I 0,I 1] 2 1 .any,.agg [.nils],I 0])),
 ([vM,.str 8 8243122732010005874,.sl [I 0,I 0,.str 5 435744764535,.sl [I 0,I 1,.str 0 0,.nils] 1 4 .any,I 0,I 0,.str 0 0,.nils,I 0,I 1,.str 4 1684104562,.nils,I 0,I 0,.str 0 0,.nils,I 1,I 1,.str 0 0,.nils,I 0,I 1,.str 0 0,.nils,I 0,I 1,.str 4 1684104562,.nils,I 0,I 0,.str 0 0,.nils,I 1,I 1,.str 0 0,.nils,I 0,I 0,.str 0 0,.nils,I 1,I 0,.str 0 0,.nils,I 0,I 0,.str 0 0,.nils] 6 8 .any,.agg [I 200,I 50]],(.tuple [.nils,.agg [.sl [I 0,I 0,I 0,.str 0 0,.nils,I 1,I 0,I 1,.str 0 0,.nils,I 3,I 0,I 1,.str 0 0,.nils] 3 5 .any],I 0])),
 ([vM,.str 5 435761280369,.nils,.agg [I 200,I 50]],(.tuple [.sl [] 0 1 .any,.agg [.nils],I 0]))]
theorem Uq:aC Tryz.prog .nil 16 acU:=mZ Kb (n:=20000) (by decide) (by kernel_rfl)
def WK:List (Nat×T Es):=(16,one acU) ::WJ
theorem Kc:nE Tryz.prog .nil WK:=sd Kb (by decide) (.one Uq)
def acV:Es:=[([vM,.str 8 8243122732010005874,.sl [I 0,I 0,.str 5 435744764535,.sl [I 0,I 1,.str 0 0,.nils] 1 4 .any,I 0,I 0,.str 0 0,.nils,I 0,I 1,.str 4 1684104562,.nils,I 0,I 0,.str 0 0,.nils,I 1,I 1,.str 0 0,.nils,I 0,I 1,.str 0 0,.nils,I 0,I 1,.str 4 1684104562,.nils,I 0,I 0,.str 0 0,.nils,I 1,I 1,.str 0 0,.nils,I 0,I 0,.str 0 0,.nils,I 1,I 0,.str 0 0,.nils,I 0,I 0,.str 0 0,.nils] 6 8 .any,.agg [.sl [I 0,I 0,I 0,.str 0 0,.nils,I 1,I 0,I 1,.str 0 0,.nils,I 3,I 0,I 1,.str 0 0,.nils] 3 5 .any],.agg [I 200,I 50]],(I 0))]
theorem Ur:aC Tryz.prog .nil 27 acV:=mZ Kc (n:=20000) (by decide) (by kernel_rfl)
def WL:List (Nat×T Es):=(27,one acV) ::WK
theorem Kd:nE Tryz.prog .nil WL:=sd Kc (by decide) (.one Ur)
def acW:Es:=[([],(.bool true))]
theorem Us:aC Tryz.prog .nil 69 acW:=mZ Kd (n:=20000) (by decide) (by kernel_rfl)
def acX:List (Nat×T Es):=(69,one acW) ::WL
theorem Q7:nE Tryz.prog .nil acX:=sd Kd (by decide) (.one Us)
def air:Es:=[([],(.bool true))]
theorem Ut:aC Tryz.prog .nil 23 air:=mZ Q7 (n:=20000) (by decide) (by kernel_rfl)
theorem Q8:Pt Tryz.prog .nil 23 [] (.bool true):=Ut.1
end Ln
