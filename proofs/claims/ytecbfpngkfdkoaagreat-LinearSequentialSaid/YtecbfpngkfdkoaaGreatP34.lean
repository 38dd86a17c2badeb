/- A part of the proof. No condition. -/
import Derived.Test.YtecbfpngkfdkoaaGreatP20
import Derived.Test.YtecbfpngkfdkoaaGreatP33
namespace Ln
open Go.Sx Go Go.Proofs
def Qv(a b:Int):AV:=.agg [I a,I b,.str 0 0,.nils]
def Qx:AV:=.str 4 1684104562
def Qy:AV:=.str 5 435744764535
theorem cw{f:Nat}{l l':List AV}{v v':AV}(h:Ent Tryz.prog .nil f l v)(hl:AV.Ir l l'=true:=by kernel_rfl)(hv:AV.beq v v'=true:=by kernel_rfl):Ent Tryz.prog .nil f l' v':=by rw[←AV.jm _ _ hl,←AV.eq_of_beq _ _ hv];exact h
def aCt:Es:=[([Qv 0 1],(Qv 0 1)),
 ([Qv 0 0],(Qv 0 0)),
 ([Qv 1 1],(Qv 1 1)),
 ([Qv 1 0],(Qv 1 0)),
 ([.agg [I 2,I 0,.str 0 0,.sl [] 0 4 .any]],(Qv 2 0))]
theorem ar1:aR Tryz.prog .nil 62 aCt:=⟨cw (vq.MQ ⟨⟨0,1,[]⟩,by decide⟩),⟨cw (vq.MQ ⟨⟨0,0,[]⟩,by decide⟩),⟨cw (vq.MQ ⟨⟨1,1,[]⟩,by decide⟩),⟨cw (vq.MQ ⟨⟨1,0,[]⟩,by decide⟩),zH (tab:=[]) trivial (n:=20000) (by decide) (by kernel_rfl)⟩⟩⟩⟩
def auL:Es:=[([vM,I 4,rN],(.tuple [.agg ((qx.drop 90).take 45),.bool true])),
 ([vM,I 4,qN],(.tuple [.agg ((qx.drop 0).take 45),.bool true]))]
theorem anA:aR Tryz.prog .nil 129 auL:=⟨cw (Jl.MQ ⟨2,by decide⟩),⟨cw (Jl.MQ ⟨0,by decide⟩),trivial⟩⟩
def auM:Es:=[([vM,rN,dp],(.tuple [Qv 0 0,I 0])),
 ([vM,qN,dp],(.tuple [Qv 2 0,I 0]))]
theorem anB:aR Tryz.prog .nil 132 auM:=⟨cw (GV.MQ ⟨2,by decide⟩),⟨cw (GV.MQ ⟨0,by decide⟩),trivial⟩⟩
def auN:Es:=[([Qv 0 0,Qv 0 0],(I 0)),
 ([Qv 0 0,Qv 0 1],(I (-1))),
 ([Qv 0 1,Qv 0 0],(I 1)),
 ([Qv 0 1,Qv 0 1],(I 0))]
theorem anC:aR Tryz.prog .nil 139 auN:=⟨cw (yW.MQ ⟨⟨0,0,[]⟩,⟨0,0,[]⟩,by decide,by decide⟩),⟨cw (yW.MQ ⟨⟨0,0,[]⟩,⟨0,1,[]⟩,by decide,by decide⟩),⟨cw (yW.MQ ⟨⟨0,1,[]⟩,⟨0,0,[]⟩,by decide,by decide⟩),⟨cw (yW.MQ ⟨⟨0,1,[]⟩,⟨0,1,[]⟩,by decide,by decide⟩),trivial⟩⟩⟩⟩
def auO:Es:=[([vM,rN,Qy,Qv 0 0,.sl [I 0,I 1,.str 0 0,.nils] 1 4 .any,dp],(.tuple [.bool true,I 0])),
 ([vM,rN,Qx,Qv 0 0,.nils,dp],(.tuple [.bool true,I 0])),
 ([vM,rN,Qx,Qv 0 1,.nils,dp],(.tuple [.bool true,I 0]))]
theorem anD:aR Tryz.prog .nil 149 auO:=⟨cw (C5.MQ ⟨.write,⟨0,0,[]⟩,[⟨0,1⟩],by unfold kx;decide,rfl⟩),⟨cw (C5.MQ ⟨.readR,⟨0,0,[]⟩,[],by unfold kx;decide,rfl⟩),⟨cw (C5.MQ ⟨.readR,⟨0,1,[]⟩,[],by unfold kx;decide,rfl⟩),trivial⟩⟩⟩
def auP:Es:=[([vM,rN,Qy,Qv 0 0,.sl [I 0,I 1,.str 0 0,.nils] 1 4 .any,Qv 0 0,dp],(.tuple [.bool true,I 0])),
 ([vM,rN,Qx,Qv 0 0,.nils,Qv 0 0,dp],(.tuple [.bool true,I 0])),
 ([vM,rN,Qx,Qv 0 1,.nils,Qv 0 0,dp],(.tuple [.bool false,I 0])),
 ([vM,rN,Qx,Qv 0 0,.nils,Qv 0 1,dp],(.tuple [.bool false,I 0])),
 ([vM,rN,Qx,Qv 0 1,.nils,Qv 0 1,dp],(.tuple [.bool true,I 0]))]
theorem anE:aR Tryz.prog .nil 150 auP:=⟨cw (nL.MQ ⟨⟨.write,⟨0,0,[]⟩,[⟨0,1⟩],by unfold kx;decide,rfl⟩,⟨0,0⟩⟩),⟨cw (nL.MQ ⟨⟨.readR,⟨0,0,[]⟩,[],by unfold kx;decide,rfl⟩,⟨0,0⟩⟩),⟨cw (nL.MQ ⟨⟨.readR,⟨0,1,[]⟩,[],by unfold kx;decide,rfl⟩,⟨0,0⟩⟩),⟨cw (nL.MQ ⟨⟨.readR,⟨0,0,[]⟩,[],by unfold kx;decide,rfl⟩,⟨0,1⟩⟩),⟨cw (nL.MQ ⟨⟨.readR,⟨0,1,[]⟩,[],by unfold kx;decide,rfl⟩,⟨0,1⟩⟩),trivial⟩⟩⟩⟩⟩
def auQ:Es:=[([vM,rN,Qy,Qv 0 0,.sl [I 0,I 1,.str 0 0,.nils] 1 4 .any,Qv 0 0,dp],(.tuple [Qv 0 1,I 0])),
 ([vM,rN,Qx,Qv 0 0,.nils,Qv 0 0,dp],(.tuple [Qv 0 0,I 0])),
 ([vM,rN,Qx,Qv 0 1,.nils,Qv 0 1,dp],(.tuple [Qv 0 1,I 0]))]
theorem anF:aR Tryz.prog .nil 151 auQ:=⟨cw (Ah.MQ ⟨⟨.write,⟨0,0,[]⟩,[⟨0,1⟩],by unfold kx;decide,rfl⟩,⟨0,0⟩⟩),⟨cw (Ah.MQ ⟨⟨.readR,⟨0,0,[]⟩,[],by unfold kx;decide,rfl⟩,⟨0,0⟩⟩),⟨cw (Ah.MQ ⟨⟨.readR,⟨0,1,[]⟩,[],by unfold kx;decide,rfl⟩,⟨0,1⟩⟩),trivial⟩⟩⟩
def auR:Es:=[([Qv 0 1],(I 0)),
 ([Qv 0 0],(I 0)),
 ([Qv 2 0],(I 0))]
theorem anG:aR Tryz.prog .nil 159 auR:=⟨cw (Dm.MQ (⟨0,1⟩:U)),⟨cw (Dm.MQ (⟨0,0⟩:U)),⟨cw (Dm.MQ (⟨2,0⟩:U)),trivial⟩⟩⟩
def vKm:Es:=[([],vM)]
theorem axT:aR Tryz.prog .nil 12 vKm:=⟨Wt,trivial⟩
def auS:List (Nat×T Es):=[(62,one aCt),(129,one auL),(132,one auM),(139,one auN),(149,one auO),(150,one auP),(151,one auQ),(159,one auR),(12,one vKm)]
theorem abn:sG Tryz.prog .nil auS:=(xI (xI (xI (xI (xI (xI (xI (xI (xI (show sG Tryz.prog .nil [] from trivial) (by decide) (.one axT)) (by decide) (.one anG)) (by decide) (.one anF)) (by decide) (.one anE)) (by decide) (.one anD)) (by decide) (.one anC)) (by decide) (.one anB)) (by decide) (.one anA)) (by decide) (.one ar1))
def auT:Es:=[([Qv 0 0],(.int .u64 (.lit 1036025603977799020))),
 ([Qv 0 1],(.int .u64 (.lit 5536678271428152152))),
 ([Qv 2 0],(.int .u64 (.lit 17458373292249916716)))]
theorem anH:aR Tryz.prog .nil 209 auT:=zH abn (n:=20000) (by decide) (by kernel_rfl)
def auU:List (Nat×T Es):=(209,one auT) ::auS
theorem abo:sG Tryz.prog .nil auU:=xI abn (by decide) (.one anH)
def aCu:Es:=[([.sl [I 0,I 0,Qy,.sl [I 0,I 1,.str 0 0,.nils] 1 4 .any,I 0,I 0,.str 0 0,.nils,I 0,I 1,Qx,.nils,I 0,I 0,.str 0 0,.nils,I 1,I 1,.str 0 0,.nils,I 0,I 0,.str 0 0,.nils,I 1,I 0,.str 0 0,.nils,I 0,I 0,.str 0 0,.nils] 4 8 .any],(.tuple [.sl [I 0,I 0,I 3,I (-1),Qy,.sl [I 0,I 1,.str 0 0,.nils] 1 4 .any,I 0,I 0,.str 0 0,.nils,I 1,I 1,I 2,I (-1),Qx,.nils,I 0,I 0,.str 0 0,.nils] 2 10 .any,I 0])),
 ([.sl [I 0,I 0,Qy,.sl [I 0,I 1,.str 0 0,.nils] 1 4 .any,I 0,I 0,.str 0 0,.nils,I 0,I 1,Qx,.nils,I 0,I 0,.str 0 0,.nils,I 1,I 1,.str 0 0,.nils,I 0,I 1,.str 0 0,.nils,I 1,I 0,.str 0 0,.nils,I 0,I 0,.str 0 0,.nils] 4 8 .any],(.tuple [.sl [I 0,I 0,I 3,I (-1),Qy,.sl [I 0,I 1,.str 0 0,.nils] 1 4 .any,I 0,I 0,.str 0 0,.nils,I 1,I 1,I 2,I (-1),Qx,.nils,I 0,I 1,.str 0 0,.nils] 2 10 .any,I 0])),
 ([.sl [I 0,I 0,Qy,.sl [I 0,I 1,.str 0 0,.nils] 1 4 .any,I 0,I 0,.str 0 0,.nils,I 0,I 1,Qx,.nils,I 0,I 0,.str 0 0,.nils,I 1,I 1,.str 0 0,.nils,I 0,I 1,.str 0 0,.nils,I 0,I 1,Qx,.nils,I 0,I 0,.str 0 0,.nils,I 1,I 1,.str 0 0,.nils,I 0,I 0,.str 0 0,.nils,I 1,I 0,.str 0 0,.nils,I 0,I 0,.str 0 0,.nils] 6 8 .any],(.tuple [.sl [I 0,I 0,I 5,I (-1),Qy,.sl [I 0,I 1,.str 0 0,.nils] 1 4 .any,I 0,I 0,.str 0 0,.nils,I 1,I 1,I 2,I (-1),Qx,.nils,I 0,I 1,.str 0 0,.nils,I 1,I 3,I 4,I (-1),Qx,.nils,I 0,I 0,.str 0 0,.nils] 3 10 .any,I 0])),
 ([.nils],(.tuple [.nils,I 0]))]
theorem ar2:aR Tryz.prog .nil 32 aCu:=zH abo (n:=20000) (by decide) (by kernel_rfl)
def auV:List (Nat×T Es):=(32,one aCu) ::auU
theorem abp:sG Tryz.prog .nil auV:=xI abo (by decide) (.one ar2)
def aCv:Es:=[([vM,rN,.sl [I 0,I 0,Qy,.sl [I 0,I 1,.str 0 0,.nils] 1 4 .any,I 0,I 0,.str 0 0,.nils,I 0,I 1,Qx,.nils,I 0,I 0,.str 0 0,.nils,I 1,I 1,.str 0 0,.nils,I 0,I 0,.str 0 0,.nils,I 1,I 0,.str 0 0,.nils,I 0,I 0,.str 0 0,.nils] 4 8 .any,dp],(.tuple [.sl [I 1,I 0] 2 1 .any,.agg [.nils],I 0])),
 ([vM,rN,.sl [I 0,I 0,Qy,.sl [I 0,I 1,.str 0 0,.nils] 1 4 .any,I 0,I 0,.str 0 0,.nils,I 0,I 1,Qx,.nils,I 0,I 0,.str 0 0,.nils,I 1,I 1,.str 0 0,.nils,I 0,I 1,.str 0 0,.nils,I 1,I 0,.str 0 0,.nils,I 0,I 0,.str 0 0,.nils] 4 8 .any,dp],(.tuple [.sl [I 0,I 1] 2 1 .any,.agg [.nils],I 0])),
 ([vM,rN,.sl [I 0,I 0,Qy,.sl [I 0,I 1,.str 0 0,.nils] 1 4 .any,I 0,I 0,.str 0 0,.nils,I 0,I 1,Qx,.nils,I 0,I 0,.str 0 0,.nils,I 1,I 1,.str 0 0,.nils,I 0,I 1,.str 0 0,.nils,I 0,I 1,Qx,.nils,I 0,I 0,.str 0 0,.nils,I 1,I 1,.str 0 0,.nils,I 0,I 0,.str 0 0,.nils,I 1,I 0,.str 0 0,.nils,I 0,I 0,.str 0 0,.nils] 6 8 .any,dp],(.tuple [.nils,.agg [.sl [I 0,I 0,I 0,.str 0 0,.nils,I 1,I 0,I 1,.str 0 0,.nils,I 3,I 0,I 1,.str 0 0,.nils] 3 5 .any],I 0])),
 ([vM,qN,.nils,dp],(.tuple [.sl [] 0 1 .any,.agg [.nils],I 0]))]
theorem ar3:aR Tryz.prog .nil 16 aCv:=zH abp (n:=20000) (by decide) (by kernel_rfl)
def auW:List (Nat×T Es):=(16,one aCv) ::auV
theorem abq:sG Tryz.prog .nil auW:=xI abp (by decide) (.one ar3)
def aCw:Es:=[([vM,rN,.sl [I 0,I 0,Qy,.sl [I 0,I 1,.str 0 0,.nils] 1 4 .any,I 0,I 0,.str 0 0,.nils,I 0,I 1,Qx,.nils,I 0,I 0,.str 0 0,.nils,I 1,I 1,.str 0 0,.nils,I 0,I 1,.str 0 0,.nils,I 0,I 1,Qx,.nils,I 0,I 0,.str 0 0,.nils,I 1,I 1,.str 0 0,.nils,I 0,I 0,.str 0 0,.nils,I 1,I 0,.str 0 0,.nils,I 0,I 0,.str 0 0,.nils] 6 8 .any,.agg [.sl [I 0,I 0,I 0,.str 0 0,.nils,I 1,I 0,I 1,.str 0 0,.nils,I 3,I 0,I 1,.str 0 0,.nils] 3 5 .any],dp],(I 0))]
theorem ar4:aR Tryz.prog .nil 27 aCw:=zH abq (n:=20000) (by decide) (by kernel_rfl)
def auX:List (Nat×T Es):=(27,one aCw) ::auW
theorem abr:sG Tryz.prog .nil auX:=xI abq (by decide) (.one ar4)
def aCx:Es:=[([],(.bool true))]
theorem ar5:aR Tryz.prog .nil 69 aCx:=zH abr (n:=20000) (by decide) (by kernel_rfl)
def aCy:List (Nat×T Es):=(69,one aCx) ::auX
theorem anI:sG Tryz.prog .nil aCy:=xI abr (by decide) (.one ar5)
def aKS:Es:=[([],(.bool true))]
theorem ar6:aR Tryz.prog .nil 23 aKS:=zH anI (n:=20000) (by decide) (by kernel_rfl)
theorem anJ:Ent Tryz.prog .nil 23 [] (.bool true):=ar6.1
end Ln
