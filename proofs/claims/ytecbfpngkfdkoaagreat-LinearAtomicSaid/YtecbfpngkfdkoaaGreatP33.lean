/- A part of the proof. No condition. -/
import Derived.Test.YtecbfpngkfdkoaaGreatP17
import Derived.Test.YtecbfpngkfdkoaaGreatP32
namespace Ln
open Go.Sx Go Go.Proofs
def Zq(a b:Int):AV:=.agg [I a,I b,.str 0 0,.nils]
def QV:AV:=.str 4 1684104562
def QX:AV:=.str 5 435744764535
theorem cx{f:Nat}{l l':List AV}{v v':AV}(h:Ent Tryz.prog .nil f l v)(hl:AV.II l l'=true:=by kernel_rfl)(hv:AV.beq v v'=true:=by kernel_rfl):Ent Tryz.prog .nil f l' v':=by rw[←AV.iN _ _ hl,←AV.eq_of_beq _ _ hv];exact h
def aA6:Es:=[([Zq 0 1],(Zq 0 1)),
 ([Zq 0 0],(Zq 0 0)),
 ([Zq 1 1],(Zq 1 1)),
 ([Zq 1 0],(Zq 1 0)),
 ([.agg [I 2,I 0,.str 0 0,.sl [] 0 4 .any]],(Zq 2 0))]
theorem aq7:aT Tryz.prog .nil 62 aA6:=⟨cx (vZ.Oh ⟨⟨0,1,[]⟩,by decide⟩),⟨cx (vZ.Oh ⟨⟨0,0,[]⟩,by decide⟩),⟨cx (vZ.Oh ⟨⟨1,1,[]⟩,by decide⟩),⟨cx (vZ.Oh ⟨⟨1,0,[]⟩,by decide⟩),AE (tab:=[]) trivial (n:=20000) (by decide) (by kernel_rfl)⟩⟩⟩⟩
def atX:Es:=[([vM,I 4,rN],(.tuple [.agg ((pW.drop 90).take 45),.bool true])),
 ([vM,I 4,qN],(.tuple [.agg ((pW.drop 0).take 45),.bool true]))]
theorem amP:aT Tryz.prog .nil 129 atX:=⟨cx (JB.Oh ⟨2,by decide⟩),⟨cx (JB.Oh ⟨0,by decide⟩),trivial⟩⟩
def atY:Es:=[([vM,rN,iW],(.tuple [Zq 0 0,I 0])),
 ([vM,qN,iW],(.tuple [Zq 2 0,I 0]))]
theorem amQ:aT Tryz.prog .nil 132 atY:=⟨cx (Hy.Oh ⟨2,by decide⟩),⟨cx (Hy.Oh ⟨0,by decide⟩),trivial⟩⟩
def atZ:Es:=[([Zq 0 0,Zq 0 0],(I 0)),
 ([Zq 0 0,Zq 0 1],(I (-1))),
 ([Zq 0 1,Zq 0 0],(I 1)),
 ([Zq 0 1,Zq 0 1],(I 0))]
theorem amR:aT Tryz.prog .nil 139 atZ:=⟨cx (zR.Oh ⟨⟨0,0,[]⟩,⟨0,0,[]⟩,by decide,by decide⟩),⟨cx (zR.Oh ⟨⟨0,0,[]⟩,⟨0,1,[]⟩,by decide,by decide⟩),⟨cx (zR.Oh ⟨⟨0,1,[]⟩,⟨0,0,[]⟩,by decide,by decide⟩),⟨cx (zR.Oh ⟨⟨0,1,[]⟩,⟨0,1,[]⟩,by decide,by decide⟩),trivial⟩⟩⟩⟩
def at0:Es:=[([vM,rN,QX,Zq 0 0,.sl [I 0,I 1,.str 0 0,.nils] 1 4 .any,iW],(.tuple [.bool true,I 0])),
 ([vM,rN,QV,Zq 0 0,.nils,iW],(.tuple [.bool true,I 0])),
 ([vM,rN,QV,Zq 0 1,.nils,iW],(.tuple [.bool true,I 0]))]
theorem amS:aT Tryz.prog .nil 149 at0:=⟨cx (DJ.Oh ⟨.write,⟨0,0,[]⟩,[⟨0,1⟩],by unfold jL;decide,rfl⟩),⟨cx (DJ.Oh ⟨.readR,⟨0,0,[]⟩,[],by unfold jL;decide,rfl⟩),⟨cx (DJ.Oh ⟨.readR,⟨0,1,[]⟩,[],by unfold jL;decide,rfl⟩),trivial⟩⟩⟩
def at1:Es:=[([vM,rN,QX,Zq 0 0,.sl [I 0,I 1,.str 0 0,.nils] 1 4 .any,Zq 0 0,iW],(.tuple [.bool true,I 0])),
 ([vM,rN,QV,Zq 0 0,.nils,Zq 0 0,iW],(.tuple [.bool true,I 0])),
 ([vM,rN,QV,Zq 0 1,.nils,Zq 0 0,iW],(.tuple [.bool false,I 0])),
 ([vM,rN,QV,Zq 0 0,.nils,Zq 0 1,iW],(.tuple [.bool false,I 0])),
 ([vM,rN,QV,Zq 0 1,.nils,Zq 0 1,iW],(.tuple [.bool true,I 0]))]
theorem amT:aT Tryz.prog .nil 150 at1:=⟨cx (mI.Oh ⟨⟨.write,⟨0,0,[]⟩,[⟨0,1⟩],by unfold jL;decide,rfl⟩,⟨0,0⟩⟩),⟨cx (mI.Oh ⟨⟨.readR,⟨0,0,[]⟩,[],by unfold jL;decide,rfl⟩,⟨0,0⟩⟩),⟨cx (mI.Oh ⟨⟨.readR,⟨0,1,[]⟩,[],by unfold jL;decide,rfl⟩,⟨0,0⟩⟩),⟨cx (mI.Oh ⟨⟨.readR,⟨0,0,[]⟩,[],by unfold jL;decide,rfl⟩,⟨0,1⟩⟩),⟨cx (mI.Oh ⟨⟨.readR,⟨0,1,[]⟩,[],by unfold jL;decide,rfl⟩,⟨0,1⟩⟩),trivial⟩⟩⟩⟩⟩
def at2:Es:=[([vM,rN,QX,Zq 0 0,.sl [I 0,I 1,.str 0 0,.nils] 1 4 .any,Zq 0 0,iW],(.tuple [Zq 0 1,I 0])),
 ([vM,rN,QV,Zq 0 0,.nils,Zq 0 0,iW],(.tuple [Zq 0 0,I 0])),
 ([vM,rN,QV,Zq 0 1,.nils,Zq 0 1,iW],(.tuple [Zq 0 1,I 0]))]
theorem amU:aT Tryz.prog .nil 151 at2:=⟨cx (AW.Oh ⟨⟨.write,⟨0,0,[]⟩,[⟨0,1⟩],by unfold jL;decide,rfl⟩,⟨0,0⟩⟩),⟨cx (AW.Oh ⟨⟨.readR,⟨0,0,[]⟩,[],by unfold jL;decide,rfl⟩,⟨0,0⟩⟩),⟨cx (AW.Oh ⟨⟨.readR,⟨0,1,[]⟩,[],by unfold jL;decide,rfl⟩,⟨0,1⟩⟩),trivial⟩⟩⟩
def at3:Es:=[([Zq 0 1],(I 0)),
 ([Zq 0 0],(I 0)),
 ([Zq 2 0],(I 0))]
theorem amV:aT Tryz.prog .nil 159 at3:=⟨cx (DY.Oh (⟨0,1⟩:U)),⟨cx (DY.Oh (⟨0,0⟩:U)),⟨cx (DY.Oh (⟨2,0⟩:U)),trivial⟩⟩⟩
def vKm:Es:=[([],vM)]
theorem awA:aT Tryz.prog .nil 12 vKm:=⟨Wa,trivial⟩
def at4:List (Nat×T Es):=[(62,one aA6),(129,one atX),(132,one atY),(139,one atZ),(149,one at0),(150,one at1),(151,one at2),(159,one at3),(12,one vKm)]
theorem aa1:sG Tryz.prog .nil at4:=(yr (yr (yr (yr (yr (yr (yr (yr (yr (show sG Tryz.prog .nil [] from trivial) (by decide) (.one awA)) (by decide) (.one amV)) (by decide) (.one amU)) (by decide) (.one amT)) (by decide) (.one amS)) (by decide) (.one amR)) (by decide) (.one amQ)) (by decide) (.one amP)) (by decide) (.one aq7))
def at6:Es:=[([Zq 0 0],(.int .u64 (.lit 1036025603977799020))),
 ([Zq 0 1],(.int .u64 (.lit 5536678271428152152))),
 ([Zq 2 0],(.int .u64 (.lit 17458373292249916716)))]
theorem amW:aT Tryz.prog .nil 209 at6:=AE aa1 (n:=20000) (by decide) (by kernel_rfl)
def at7:List (Nat×T Es):=(209,one at6) ::at4
theorem aa2:sG Tryz.prog .nil at7:=yr aa1 (by decide) (.one amW)
def aA7:Es:=[([.sl [I 0,I 0,QX,.sl [I 0,I 1,.str 0 0,.nils] 1 4 .any,I 0,I 0,.str 0 0,.nils,I 0,I 1,QV,.nils,I 0,I 0,.str 0 0,.nils,I 1,I 1,.str 0 0,.nils,I 0,I 0,.str 0 0,.nils,I 1,I 0,.str 0 0,.nils,I 0,I 0,.str 0 0,.nils] 4 8 .any],(.tuple [.sl [I 0,I 0,I 3,I (-1),QX,.sl [I 0,I 1,.str 0 0,.nils] 1 4 .any,I 0,I 0,.str 0 0,.nils,I 1,I 1,I 2,I (-1),QV,.nils,I 0,I 0,.str 0 0,.nils] 2 10 .any,I 0])),
 ([.sl [I 0,I 0,QX,.sl [I 0,I 1,.str 0 0,.nils] 1 4 .any,I 0,I 0,.str 0 0,.nils,I 0,I 1,QV,.nils,I 0,I 0,.str 0 0,.nils,I 1,I 1,.str 0 0,.nils,I 0,I 1,.str 0 0,.nils,I 1,I 0,.str 0 0,.nils,I 0,I 0,.str 0 0,.nils] 4 8 .any],(.tuple [.sl [I 0,I 0,I 3,I (-1),QX,.sl [I 0,I 1,.str 0 0,.nils] 1 4 .any,I 0,I 0,.str 0 0,.nils,I 1,I 1,I 2,I (-1),QV,.nils,I 0,I 1,.str 0 0,.nils] 2 10 .any,I 0])),
 ([.sl [I 0,I 0,QX,.sl [I 0,I 1,.str 0 0,.nils] 1 4 .any,I 0,I 0,.str 0 0,.nils,I 0,I 1,QV,.nils,I 0,I 0,.str 0 0,.nils,I 1,I 1,.str 0 0,.nils,I 0,I 1,.str 0 0,.nils,I 0,I 1,QV,.nils,I 0,I 0,.str 0 0,.nils,I 1,I 1,.str 0 0,.nils,I 0,I 0,.str 0 0,.nils,I 1,I 0,.str 0 0,.nils,I 0,I 0,.str 0 0,.nils] 6 8 .any],(.tuple [.sl [I 0,I 0,I 5,I (-1),QX,.sl [I 0,I 1,.str 0 0,.nils] 1 4 .any,I 0,I 0,.str 0 0,.nils,I 1,I 1,I 2,I (-1),QV,.nils,I 0,I 1,.str 0 0,.nils,I 1,I 3,I 4,I (-1),QV,.nils,I 0,I 0,.str 0 0,.nils] 3 10 .any,I 0])),
 ([.nils],(.tuple [.nils,I 0]))]
theorem aq8:aT Tryz.prog .nil 32 aA7:=AE aa2 (n:=20000) (by decide) (by kernel_rfl)
def at8:List (Nat×T Es):=(32,one aA7) ::at7
theorem aa3:sG Tryz.prog .nil at8:=yr aa2 (by decide) (.one aq8)
def aA8:Es:=[([vM,rN,.sl [I 0,I 0,QX,.sl [I 0,I 1,.str 0 0,.nils] 1 4 .any,I 0,I 0,.str 0 0,.nils,I 0,I 1,QV,.nils,I 0,I 0,.str 0 0,.nils,I 1,I 1,.str 0 0,.nils,I 0,I 0,.str 0 0,.nils,I 1,I 0,.str 0 0,.nils,I 0,I 0,.str 0 0,.nils] 4 8 .any,iW],(.tuple [.sl [I 1,I 0] 2 1 .any,.agg [.nils],I 0])),
 ([vM,rN,.sl [I 0,I 0,QX,.sl [I 0,I 1,.str 0 0,.nils] 1 4 .any,I 0,I 0,.str 0 0,.nils,I 0,I 1,QV,.nils,I 0,I 0,.str 0 0,.nils,I 1,I 1,.str 0 0,.nils,I 0,I 1,.str 0 0,.nils,I 1,I 0,.str 0 0,.nils,I 0,I 0,.str 0 0,.nils] 4 8 .any,iW],(.tuple [.sl [I 0,I 1] 2 1 .any,.agg [.nils],I 0])),
 ([vM,rN,.sl [I 0,I 0,QX,.sl [I 0,I 1,.str 0 0,.nils] 1 4 .any,I 0,I 0,.str 0 0,.nils,I 0,I 1,QV,.nils,I 0,I 0,.str 0 0,.nils,I 1,I 1,.str 0 0,.nils,I 0,I 1,.str 0 0,.nils,I 0,I 1,QV,.nils,I 0,I 0,.str 0 0,.nils,I 1,I 1,.str 0 0,.nils,I 0,I 0,.str 0 0,.nils,I 1,I 0,.str 0 0,.nils,I 0,I 0,.str 0 0,.nils] 6 8 .any,iW],(.tuple [.nils,.agg [.sl [I 0,I 0,I 0,.str 0 0,.nils,I 1,I 0,I 1,.str 0 0,.nils,I 3,I 0,I 1,.str 0 0,.nils] 3 5 .any],I 0])),
 ([vM,qN,.nils,iW],(.tuple [.sl [] 0 1 .any,.agg [.nils],I 0]))]
theorem aq9:aT Tryz.prog .nil 16 aA8:=AE aa3 (n:=20000) (by decide) (by kernel_rfl)
def at9:List (Nat×T Es):=(16,one aA8) ::at8
theorem aa4:sG Tryz.prog .nil at9:=yr aa3 (by decide) (.one aq9)
def aA9:Es:=[([vM,rN,.sl [I 0,I 0,QX,.sl [I 0,I 1,.str 0 0,.nils] 1 4 .any,I 0,I 0,.str 0 0,.nils,I 0,I 1,QV,.nils,I 0,I 0,.str 0 0,.nils,I 1,I 1,.str 0 0,.nils,I 0,I 1,.str 0 0,.nils,I 0,I 1,QV,.nils,I 0,I 0,.str 0 0,.nils,I 1,I 1,.str 0 0,.nils,I 0,I 0,.str 0 0,.nils,I 1,I 0,.str 0 0,.nils,I 0,I 0,.str 0 0,.nils] 6 8 .any,.agg [.sl [I 0,I 0,I 0,.str 0 0,.nils,I 1,I 0,I 1,.str 0 0,.nils,I 3,I 0,I 1,.str 0 0,.nils] 3 5 .any],iW],(I 0))]
theorem ara:aT Tryz.prog .nil 27 aA9:=AE aa4 (n:=20000) (by decide) (by kernel_rfl)
def aua:List (Nat×T Es):=(27,one aA9) ::at9
theorem aa5:sG Tryz.prog .nil aua:=yr aa4 (by decide) (.one ara)
def aBa:Es:=[([],(.bool true))]
theorem arb:aT Tryz.prog .nil 69 aBa:=AE aa5 (n:=20000) (by decide) (by kernel_rfl)
def aBb:List (Nat×T Es):=(69,one aBa) ::aua
theorem amX:sG Tryz.prog .nil aBb:=yr aa5 (by decide) (.one arb)
def aIL:Es:=[([],(.bool true))]
theorem arc:aT Tryz.prog .nil 23 aIL:=AE amX (n:=20000) (by decide) (by kernel_rfl)
theorem amY:Ent Tryz.prog .nil 23 [] (.bool true):=arc.1
end Ln
