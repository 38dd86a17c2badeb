/- A part of the proof. No condition. -/
import Derived.Test.YtecbfpngkfdkoaaGreatP17
import Derived.Test.YtecbfpngkfdkoaaGreatP31
namespace Ln
open Go.Sx Go Go.Proofs
def Qq(a b:Int):AV:=.agg [I a,I b,.str 0 0,.nils]
def Qy:AV:=.str 4 1684104562
def Qz:AV:=.str 5 435744764535
theorem df{f:Nat}{l l':List AV}{v v':AV}(h:Ent Tryz.prog .nil f l v)(hl:AV.IU l l'=true:=by kernel_rfl)(hv:AV.beq v v'=true:=by kernel_rfl):Ent Tryz.prog .nil f l' v':=by rw[←AV.jP _ _ hl,←AV.eq_of_beq _ _ hv];exact h
def aAk:Es:=[([Qq 0 1],(Qq 0 1)),
 ([Qq 0 0],(Qq 0 0)),
 ([Qq 1 1],(Qq 1 1)),
 ([Qq 1 0],(Qq 1 0)),
 ([.agg [I 2,I 0,.str 0 0,.sl [] 0 4 .any]],(Qq 2 0))]
theorem aqW:aT Tryz.prog .nil 62 aAk:=⟨df (wX.NT ⟨⟨0,1,[]⟩,by decide⟩),⟨df (wX.NT ⟨⟨0,0,[]⟩,by decide⟩),⟨df (wX.NT ⟨⟨1,1,[]⟩,by decide⟩),⟨df (wX.NT ⟨⟨1,0,[]⟩,by decide⟩),AR (tab:=[]) trivial (n:=20000) (by decide) (by kernel_rfl)⟩⟩⟩⟩
def atn:Es:=[([vM,I 4,rN],(.tuple [.agg ((sU.drop 90).take 45),.bool true])),
 ([vM,I 4,qN],(.tuple [.agg ((sU.drop 0).take 45),.bool true]))]
theorem amK:aT Tryz.prog .nil 129 atn:=⟨df (JL.NT ⟨2,by decide⟩),⟨df (JL.NT ⟨0,by decide⟩),trivial⟩⟩
def ato:Es:=[([vM,rN,mF],(.tuple [Qq 0 0,I 0])),
 ([vM,qN,mF],(.tuple [Qq 2 0,I 0]))]
theorem amL:aT Tryz.prog .nil 132 ato:=⟨df (HD.NT ⟨2,by decide⟩),⟨df (HD.NT ⟨0,by decide⟩),trivial⟩⟩
def atp:Es:=[([Qq 0 0,Qq 0 0],(I 0)),
 ([Qq 0 0,Qq 0 1],(I (-1))),
 ([Qq 0 1,Qq 0 0],(I 1)),
 ([Qq 0 1,Qq 0 1],(I 0))]
theorem amM:aT Tryz.prog .nil 139 atp:=⟨df (Ai.NT ⟨⟨0,0,[]⟩,⟨0,0,[]⟩,by decide,by decide⟩),⟨df (Ai.NT ⟨⟨0,0,[]⟩,⟨0,1,[]⟩,by decide,by decide⟩),⟨df (Ai.NT ⟨⟨0,1,[]⟩,⟨0,0,[]⟩,by decide,by decide⟩),⟨df (Ai.NT ⟨⟨0,1,[]⟩,⟨0,1,[]⟩,by decide,by decide⟩),trivial⟩⟩⟩⟩
def atq:Es:=[([vM,rN,Qz,Qq 0 0,.sl [I 0,I 1,.str 0 0,.nils] 1 4 .any,mF],(.tuple [.bool true,I 0])),
 ([vM,rN,Qy,Qq 0 0,.nils,mF],(.tuple [.bool true,I 0])),
 ([vM,rN,Qy,Qq 0 1,.nils,mF],(.tuple [.bool true,I 0]))]
theorem amN:aT Tryz.prog .nil 149 atq:=⟨df (Eb.NT ⟨.write,⟨0,0,[]⟩,[⟨0,1⟩],by unfold iX;decide,rfl⟩),⟨df (Eb.NT ⟨.wL,⟨0,0,[]⟩,[],by unfold iX;decide,rfl⟩),⟨df (Eb.NT ⟨.wL,⟨0,1,[]⟩,[],by unfold iX;decide,rfl⟩),trivial⟩⟩⟩
def atr:Es:=[([vM,rN,Qz,Qq 0 0,.sl [I 0,I 1,.str 0 0,.nils] 1 4 .any,Qq 0 0,mF],(.tuple [.bool true,I 0])),
 ([vM,rN,Qy,Qq 0 0,.nils,Qq 0 0,mF],(.tuple [.bool true,I 0])),
 ([vM,rN,Qy,Qq 0 1,.nils,Qq 0 0,mF],(.tuple [.bool false,I 0])),
 ([vM,rN,Qy,Qq 0 0,.nils,Qq 0 1,mF],(.tuple [.bool false,I 0])),
 ([vM,rN,Qy,Qq 0 1,.nils,Qq 0 1,mF],(.tuple [.bool true,I 0]))]
theorem amO:aT Tryz.prog .nil 150 atr:=⟨df (oW.NT ⟨⟨.write,⟨0,0,[]⟩,[⟨0,1⟩],by unfold iX;decide,rfl⟩,⟨0,0⟩⟩),⟨df (oW.NT ⟨⟨.wL,⟨0,0,[]⟩,[],by unfold iX;decide,rfl⟩,⟨0,0⟩⟩),⟨df (oW.NT ⟨⟨.wL,⟨0,1,[]⟩,[],by unfold iX;decide,rfl⟩,⟨0,0⟩⟩),⟨df (oW.NT ⟨⟨.wL,⟨0,0,[]⟩,[],by unfold iX;decide,rfl⟩,⟨0,1⟩⟩),⟨df (oW.NT ⟨⟨.wL,⟨0,1,[]⟩,[],by unfold iX;decide,rfl⟩,⟨0,1⟩⟩),trivial⟩⟩⟩⟩⟩
def ats:Es:=[([vM,rN,Qz,Qq 0 0,.sl [I 0,I 1,.str 0 0,.nils] 1 4 .any,Qq 0 0,mF],(.tuple [Qq 0 1,I 0])),
 ([vM,rN,Qy,Qq 0 0,.nils,Qq 0 0,mF],(.tuple [Qq 0 0,I 0])),
 ([vM,rN,Qy,Qq 0 1,.nils,Qq 0 1,mF],(.tuple [Qq 0 1,I 0]))]
theorem amP:aT Tryz.prog .nil 151 ats:=⟨df (Bj.NT ⟨⟨.write,⟨0,0,[]⟩,[⟨0,1⟩],by unfold iX;decide,rfl⟩,⟨0,0⟩⟩),⟨df (Bj.NT ⟨⟨.wL,⟨0,0,[]⟩,[],by unfold iX;decide,rfl⟩,⟨0,0⟩⟩),⟨df (Bj.NT ⟨⟨.wL,⟨0,1,[]⟩,[],by unfold iX;decide,rfl⟩,⟨0,1⟩⟩),trivial⟩⟩⟩
def att:Es:=[([Qq 0 1],(I 0)),
 ([Qq 0 0],(I 0)),
 ([Qq 2 0],(I 0))]
theorem amQ:aT Tryz.prog .nil 159 att:=⟨df (Ej.NT (⟨0,1⟩:U)),⟨df (Ej.NT (⟨0,0⟩:U)),⟨df (Ej.NT (⟨2,0⟩:U)),trivial⟩⟩⟩
def vKm:Es:=[([],vM)]
theorem avO:aT Tryz.prog .nil 12 vKm:=⟨V8,trivial⟩
def atu:List (Nat×T Es):=[(62,one aAk),(129,one atn),(132,one ato),(139,one atp),(149,one atq),(150,one atr),(151,one ats),(159,one att),(12,one vKm)]
theorem aaO:uw Tryz.prog .nil atu:=(yR (yR (yR (yR (yR (yR (yR (yR (yR (show uw Tryz.prog .nil [] from trivial) (by decide) (.one avO)) (by decide) (.one amQ)) (by decide) (.one amP)) (by decide) (.one amO)) (by decide) (.one amN)) (by decide) (.one amM)) (by decide) (.one amL)) (by decide) (.one amK)) (by decide) (.one aqW))
def atv:Es:=[([Qq 0 0],(.int .u64 (.lit 1036025603977799020))),
 ([Qq 0 1],(.int .u64 (.lit 5536678271428152152))),
 ([Qq 2 0],(.int .u64 (.lit 17458373292249916716)))]
theorem amR:aT Tryz.prog .nil 209 atv:=AR aaO (n:=20000) (by decide) (by kernel_rfl)
def atw:List (Nat×T Es):=(209,one atv) ::atu
theorem aaP:uw Tryz.prog .nil atw:=yR aaO (by decide) (.one amR)
def aAl:Es:=[([.sl [I 0,I 0,Qz,.sl [I 0,I 1,.str 0 0,.nils] 1 4 .any,I 0,I 0,.str 0 0,.nils,I 0,I 1,Qy,.nils,I 0,I 0,.str 0 0,.nils,I 1,I 1,.str 0 0,.nils,I 0,I 0,.str 0 0,.nils,I 1,I 0,.str 0 0,.nils,I 0,I 0,.str 0 0,.nils] 4 8 .any],(.tuple [.sl [I 0,I 0,I 3,I (-1),Qz,.sl [I 0,I 1,.str 0 0,.nils] 1 4 .any,I 0,I 0,.str 0 0,.nils,I 1,I 1,I 2,I (-1),Qy,.nils,I 0,I 0,.str 0 0,.nils] 2 10 .any,I 0])),
 ([.sl [I 0,I 0,Qz,.sl [I 0,I 1,.str 0 0,.nils] 1 4 .any,I 0,I 0,.str 0 0,.nils,I 0,I 1,Qy,.nils,I 0,I 0,.str 0 0,.nils,I 1,I 1,.str 0 0,.nils,I 0,I 1,.str 0 0,.nils,I 1,I 0,.str 0 0,.nils,I 0,I 0,.str 0 0,.nils] 4 8 .any],(.tuple [.sl [I 0,I 0,I 3,I (-1),Qz,.sl [I 0,I 1,.str 0 0,.nils] 1 4 .any,I 0,I 0,.str 0 0,.nils,I 1,I 1,I 2,I (-1),Qy,.nils,I 0,I 1,.str 0 0,.nils] 2 10 .any,I 0])),
 ([.sl [I 0,I 0,Qz,.sl [I 0,I 1,.str 0 0,.nils] 1 4 .any,I 0,I 0,.str 0 0,.nils,I 0,I 1,Qy,.nils,I 0,I 0,.str 0 0,.nils,I 1,I 1,.str 0 0,.nils,I 0,I 1,.str 0 0,.nils,I 0,I 1,Qy,.nils,I 0,I 0,.str 0 0,.nils,I 1,I 1,.str 0 0,.nils,I 0,I 0,.str 0 0,.nils,I 1,I 0,.str 0 0,.nils,I 0,I 0,.str 0 0,.nils] 6 8 .any],(.tuple [.sl [I 0,I 0,I 5,I (-1),Qz,.sl [I 0,I 1,.str 0 0,.nils] 1 4 .any,I 0,I 0,.str 0 0,.nils,I 1,I 1,I 2,I (-1),Qy,.nils,I 0,I 1,.str 0 0,.nils,I 1,I 3,I 4,I (-1),Qy,.nils,I 0,I 0,.str 0 0,.nils] 3 10 .any,I 0])),
 ([.nils],(.tuple [.nils,I 0]))]
theorem aqX:aT Tryz.prog .nil 32 aAl:=AR aaP (n:=20000) (by decide) (by kernel_rfl)
def atx:List (Nat×T Es):=(32,one aAl) ::atw
theorem aaQ:uw Tryz.prog .nil atx:=yR aaP (by decide) (.one aqX)
def aAm:Es:=[([vM,rN,.sl [I 0,I 0,Qz,.sl [I 0,I 1,.str 0 0,.nils] 1 4 .any,I 0,I 0,.str 0 0,.nils,I 0,I 1,Qy,.nils,I 0,I 0,.str 0 0,.nils,I 1,I 1,.str 0 0,.nils,I 0,I 0,.str 0 0,.nils,I 1,I 0,.str 0 0,.nils,I 0,I 0,.str 0 0,.nils] 4 8 .any,mF],(.tuple [.sl [I 1,I 0] 2 1 .any,.agg [.nils],I 0])),
 ([vM,rN,.sl [I 0,I 0,Qz,.sl [I 0,I 1,.str 0 0,.nils] 1 4 .any,I 0,I 0,.str 0 0,.nils,I 0,I 1,Qy,.nils,I 0,I 0,.str 0 0,.nils,I 1,I 1,.str 0 0,.nils,I 0,I 1,.str 0 0,.nils,I 1,I 0,.str 0 0,.nils,I 0,I 0,.str 0 0,.nils] 4 8 .any,mF],(.tuple [.sl [I 0,I 1] 2 1 .any,.agg [.nils],I 0])),
 ([vM,rN,.sl [I 0,I 0,Qz,.sl [I 0,I 1,.str 0 0,.nils] 1 4 .any,I 0,I 0,.str 0 0,.nils,I 0,I 1,Qy,.nils,I 0,I 0,.str 0 0,.nils,I 1,I 1,.str 0 0,.nils,I 0,I 1,.str 0 0,.nils,I 0,I 1,Qy,.nils,I 0,I 0,.str 0 0,.nils,I 1,I 1,.str 0 0,.nils,I 0,I 0,.str 0 0,.nils,I 1,I 0,.str 0 0,.nils,I 0,I 0,.str 0 0,.nils] 6 8 .any,mF],(.tuple [.nils,.agg [.sl [I 0,I 0,I 0,.str 0 0,.nils,I 1,I 0,I 1,.str 0 0,.nils,I 3,I 0,I 1,.str 0 0,.nils] 3 5 .any],I 0])),
 ([vM,qN,.nils,mF],(.tuple [.sl [] 0 1 .any,.agg [.nils],I 0]))]
theorem aqY:aT Tryz.prog .nil 16 aAm:=AR aaQ (n:=20000) (by decide) (by kernel_rfl)
def aty:List (Nat×T Es):=(16,one aAm) ::atx
theorem aaR:uw Tryz.prog .nil aty:=yR aaQ (by decide) (.one aqY)
def aAn:Es:=[([vM,rN,.sl [I 0,I 0,Qz,.sl [I 0,I 1,.str 0 0,.nils] 1 4 .any,I 0,I 0,.str 0 0,.nils,I 0,I 1,Qy,.nils,I 0,I 0,.str 0 0,.nils,I 1,I 1,.str 0 0,.nils,I 0,I 1,.str 0 0,.nils,I 0,I 1,Qy,.nils,I 0,I 0,.str 0 0,.nils,I 1,I 1,.str 0 0,.nils,I 0,I 0,.str 0 0,.nils,I 1,I 0,.str 0 0,.nils,I 0,I 0,.str 0 0,.nils] 6 8 .any,.agg [.sl [I 0,I 0,I 0,.str 0 0,.nils,I 1,I 0,I 1,.str 0 0,.nils,I 3,I 0,I 1,.str 0 0,.nils] 3 5 .any],mF],(I 0))]
theorem aqZ:aT Tryz.prog .nil 27 aAn:=AR aaR (n:=20000) (by decide) (by kernel_rfl)
def atz:List (Nat×T Es):=(27,one aAn) ::aty
theorem aaS:uw Tryz.prog .nil atz:=yR aaR (by decide) (.one aqZ)
def aAo:Es:=[([],(.bool true))]
theorem aq0:aT Tryz.prog .nil 69 aAo:=AR aaS (n:=20000) (by decide) (by kernel_rfl)
def aAp:List (Nat×T Es):=(69,one aAo) ::atz
theorem amS:uw Tryz.prog .nil aAp:=yR aaS (by decide) (.one aq0)
def aHC:Es:=[([],(.bool true))]
theorem aq1:aT Tryz.prog .nil 23 aHC:=AR amS (n:=20000) (by decide) (by kernel_rfl)
theorem amT:Ent Tryz.prog .nil 23 [] (.bool true):=aq1.1
end Ln
