/- A part of the proof. No condition. -/
import Derived.Test.YtecbfpngkfdkoaaGreatP17
import Derived.Test.YtecbfpngkfdkoaaGreatP31
namespace Ln
open Go.Sx Go Go.Proofs
def QQ(a b:Int):AV:=.agg [I a,I b,.str 0 0,.nils]
def QX:AV:=.str 4 1684104562
def QZ:AV:=.str 5 435744764535
theorem cd{f:Nat}{l l':List AV}{v v':AV}(h:Ent Tryz.prog .nil f l v)(hl:AV.GK l l'=true:=by kernel_rfl)(hv:AV.beq v v'=true:=by kernel_rfl):Ent Tryz.prog .nil f l' v':=by rw[←AV.hJ _ _ hl,←AV.eq_of_beq _ _ hv];exact h
def av0:Es:=[([QQ 0 1],(QQ 0 1)),
 ([QQ 0 0],(QQ 0 0)),
 ([QQ 1 1],(QQ 1 1)),
 ([QQ 1 0],(QQ 1 0)),
 ([.agg [I 2,I 0,.str 0 0,.sl [] 0 4 .any]],(QQ 2 0))]
theorem amf:aO Tryz.prog .nil 62 av0:=⟨cd (tn.LJ ⟨⟨0,1,[]⟩,by decide⟩),⟨cd (tn.LJ ⟨⟨0,0,[]⟩,by decide⟩),⟨cd (tn.LJ ⟨⟨1,1,[]⟩,by decide⟩),⟨cd (tn.LJ ⟨⟨1,0,[]⟩,by decide⟩),xL (tab:=[]) trivial (n:=20000) (by decide) (by kernel_rfl)⟩⟩⟩⟩
def aow:Es:=[([vM,I 4,rN],(.tuple [.agg ((ph.drop 90).take 45),.bool true])),
 ([vM,I 4,qN],(.tuple [.agg ((ph.drop 0).take 45),.bool true]))]
theorem ais:aO Tryz.prog .nil 129 aow:=⟨cd (HR.LJ ⟨2,by decide⟩),⟨cd (HR.LJ ⟨0,by decide⟩),trivial⟩⟩
def aox:Es:=[([vM,rN,Ui],(.tuple [QQ 0 0,I 0])),
 ([vM,qN,Ui],(.tuple [QQ 2 0,I 0]))]
theorem ait:aO Tryz.prog .nil 132 aox:=⟨cd (MO.LJ ⟨2,by decide⟩),⟨cd (MO.LJ ⟨0,by decide⟩),trivial⟩⟩
def aoy:Es:=[([QQ 0 0,QQ 0 0],(I 0)),
 ([QQ 0 0,QQ 0 1],(I (-1))),
 ([QQ 0 1,QQ 0 0],(I 1)),
 ([QQ 0 1,QQ 0 1],(I 0))]
theorem aiu:aO Tryz.prog .nil 139 aoy:=⟨cd (w6.LJ ⟨⟨0,0,[]⟩,⟨0,0,[]⟩,by decide,by decide⟩),⟨cd (w6.LJ ⟨⟨0,0,[]⟩,⟨0,1,[]⟩,by decide,by decide⟩),⟨cd (w6.LJ ⟨⟨0,1,[]⟩,⟨0,0,[]⟩,by decide,by decide⟩),⟨cd (w6.LJ ⟨⟨0,1,[]⟩,⟨0,1,[]⟩,by decide,by decide⟩),trivial⟩⟩⟩⟩
def aoz:Es:=[([vM,rN,QZ,QQ 0 0,.sl [I 0,I 1,.str 0 0,.nils] 1 4 .any,Ui],(.tuple [.bool true,I 0])),
 ([vM,rN,QX,QQ 0 0,.nils,Ui],(.tuple [.bool true,I 0])),
 ([vM,rN,QX,QQ 0 1,.nils,Ui],(.tuple [.bool true,I 0]))]
theorem aiv:aO Tryz.prog .nil 149 aoz:=⟨cd (II.LJ ⟨.write,⟨0,0,[]⟩,[⟨0,1⟩],by unfold gV;decide,rfl⟩),⟨cd (II.LJ ⟨.sY,⟨0,0,[]⟩,[],by unfold gV;decide,rfl⟩),⟨cd (II.LJ ⟨.sY,⟨0,1,[]⟩,[],by unfold gV;decide,rfl⟩),trivial⟩⟩⟩
def aoA:Es:=[([vM,rN,QZ,QQ 0 0,.sl [I 0,I 1,.str 0 0,.nils] 1 4 .any,QQ 0 0,Ui],(.tuple [.bool true,I 0])),
 ([vM,rN,QX,QQ 0 0,.nils,QQ 0 0,Ui],(.tuple [.bool true,I 0])),
 ([vM,rN,QX,QQ 0 1,.nils,QQ 0 0,Ui],(.tuple [.bool false,I 0])),
 ([vM,rN,QX,QQ 0 0,.nils,QQ 0 1,Ui],(.tuple [.bool false,I 0])),
 ([vM,rN,QX,QQ 0 1,.nils,QQ 0 1,Ui],(.tuple [.bool true,I 0]))]
theorem aiw:aO Tryz.prog .nil 150 aoA:=⟨cd (pA.LJ ⟨⟨.write,⟨0,0,[]⟩,[⟨0,1⟩],by unfold gV;decide,rfl⟩,⟨0,0⟩⟩),⟨cd (pA.LJ ⟨⟨.sY,⟨0,0,[]⟩,[],by unfold gV;decide,rfl⟩,⟨0,0⟩⟩),⟨cd (pA.LJ ⟨⟨.sY,⟨0,1,[]⟩,[],by unfold gV;decide,rfl⟩,⟨0,0⟩⟩),⟨cd (pA.LJ ⟨⟨.sY,⟨0,0,[]⟩,[],by unfold gV;decide,rfl⟩,⟨0,1⟩⟩),⟨cd (pA.LJ ⟨⟨.sY,⟨0,1,[]⟩,[],by unfold gV;decide,rfl⟩,⟨0,1⟩⟩),trivial⟩⟩⟩⟩⟩
def aoB:Es:=[([vM,rN,QZ,QQ 0 0,.sl [I 0,I 1,.str 0 0,.nils] 1 4 .any,QQ 0 0,Ui],(.tuple [QQ 0 1,I 0])),
 ([vM,rN,QX,QQ 0 0,.nils,QQ 0 0,Ui],(.tuple [QQ 0 0,I 0])),
 ([vM,rN,QX,QQ 0 1,.nils,QQ 0 1,Ui],(.tuple [QQ 0 1,I 0]))]
theorem aix:aO Tryz.prog .nil 151 aoB:=⟨cd (EM.LJ ⟨⟨.write,⟨0,0,[]⟩,[⟨0,1⟩],by unfold gV;decide,rfl⟩,⟨0,0⟩⟩),⟨cd (EM.LJ ⟨⟨.sY,⟨0,0,[]⟩,[],by unfold gV;decide,rfl⟩,⟨0,0⟩⟩),⟨cd (EM.LJ ⟨⟨.sY,⟨0,1,[]⟩,[],by unfold gV;decide,rfl⟩,⟨0,1⟩⟩),trivial⟩⟩⟩
def aoC:Es:=[([QQ 0 1],(I 0)),
 ([QQ 0 0],(I 0)),
 ([QQ 2 0],(I 0))]
theorem aiy:aO Tryz.prog .nil 159 aoC:=⟨cd (B6.LJ (⟨0,1⟩:U)),⟨cd (B6.LJ (⟨0,0⟩:U)),⟨cd (B6.LJ (⟨2,0⟩:U)),trivial⟩⟩⟩
def vKm:Es:=[([],vM)]
theorem arC:aO Tryz.prog .nil 12 vKm:=⟨Sz,trivial⟩
def aoD:List (Nat×T Es):=[(62,one av0),(129,one aow),(132,one aox),(139,one aoy),(149,one aoz),(150,one aoA),(151,one aoB),(159,one aoC),(12,one vKm)]
theorem WU:qy Tryz.prog .nil aoD:=(vp (vp (vp (vp (vp (vp (vp (vp (vp (show qy Tryz.prog .nil [] from trivial) (by decide) (.one arC)) (by decide) (.one aiy)) (by decide) (.one aix)) (by decide) (.one aiw)) (by decide) (.one aiv)) (by decide) (.one aiu)) (by decide) (.one ait)) (by decide) (.one ais)) (by decide) (.one amf))
def aoE:Es:=[([QQ 0 0],(.int .u64 (.lit 1036025603977799020))),
 ([QQ 0 1],(.int .u64 (.lit 5536678271428152152))),
 ([QQ 2 0],(.int .u64 (.lit 17458373292249916716)))]
theorem aiz:aO Tryz.prog .nil 209 aoE:=xL WU (n:=20000) (by decide) (by kernel_rfl)
def aoF:List (Nat×T Es):=(209,one aoE) ::aoD
theorem WV:qy Tryz.prog .nil aoF:=vp WU (by decide) (.one aiz)
def av1:Es:=[([.sl [I 0,I 0,QZ,.sl [I 0,I 1,.str 0 0,.nils] 1 4 .any,I 0,I 0,.str 0 0,.nils,I 0,I 1,QX,.nils,I 0,I 0,.str 0 0,.nils,I 1,I 1,.str 0 0,.nils,I 0,I 0,.str 0 0,.nils,I 1,I 0,.str 0 0,.nils,I 0,I 0,.str 0 0,.nils] 4 8 .any],(.tuple [.sl [I 0,I 0,I 3,I (-1),QZ,.sl [I 0,I 1,.str 0 0,.nils] 1 4 .any,I 0,I 0,.str 0 0,.nils,I 1,I 1,I 2,I (-1),QX,.nils,I 0,I 0,.str 0 0,.nils] 2 10 .any,I 0])),
 ([.sl [I 0,I 0,QZ,.sl [I 0,I 1,.str 0 0,.nils] 1 4 .any,I 0,I 0,.str 0 0,.nils,I 0,I 1,QX,.nils,I 0,I 0,.str 0 0,.nils,I 1,I 1,.str 0 0,.nils,I 0,I 1,.str 0 0,.nils,I 1,I 0,.str 0 0,.nils,I 0,I 0,.str 0 0,.nils] 4 8 .any],(.tuple [.sl [I 0,I 0,I 3,I (-1),QZ,.sl [I 0,I 1,.str 0 0,.nils] 1 4 .any,I 0,I 0,.str 0 0,.nils,I 1,I 1,I 2,I (-1),QX,.nils,I 0,I 1,.str 0 0,.nils] 2 10 .any,I 0])),
 ([.sl [I 0,I 0,QZ,.sl [I 0,I 1,.str 0 0,.nils] 1 4 .any,I 0,I 0,.str 0 0,.nils,I 0,I 1,QX,.nils,I 0,I 0,.str 0 0,.nils,I 1,I 1,.str 0 0,.nils,I 0,I 1,.str 0 0,.nils,I 0,I 1,QX,.nils,I 0,I 0,.str 0 0,.nils,I 1,I 1,.str 0 0,.nils,I 0,I 0,.str 0 0,.nils,I 1,I 0,.str 0 0,.nils,I 0,I 0,.str 0 0,.nils] 6 8 .any],(.tuple [.sl [I 0,I 0,I 5,I (-1),QZ,.sl [I 0,I 1,.str 0 0,.nils] 1 4 .any,I 0,I 0,.str 0 0,.nils,I 1,I 1,I 2,I (-1),QX,.nils,I 0,I 1,.str 0 0,.nils,I 1,I 3,I 4,I (-1),QX,.nils,I 0,I 0,.str 0 0,.nils] 3 10 .any,I 0])),
 ([.nils],(.tuple [.nils,I 0]))]
theorem amg:aO Tryz.prog .nil 32 av1:=xL WV (n:=20000) (by decide) (by kernel_rfl)
def aoG:List (Nat×T Es):=(32,one av1) ::aoF
theorem WW:qy Tryz.prog .nil aoG:=vp WV (by decide) (.one amg)
def av2:Es:=[([vM,rN,.sl [I 0,I 0,QZ,.sl [I 0,I 1,.str 0 0,.nils] 1 4 .any,I 0,I 0,.str 0 0,.nils,I 0,I 1,QX,.nils,I 0,I 0,.str 0 0,.nils,I 1,I 1,.str 0 0,.nils,I 0,I 0,.str 0 0,.nils,I 1,I 0,.str 0 0,.nils,I 0,I 0,.str 0 0,.nils] 4 8 .any,Ui],(.tuple [.sl [I 1,I 0] 2 1 .any,.agg [.nils],I 0])),
 ([vM,rN,.sl [I 0,I 0,QZ,.sl [I 0,I 1,.str 0 0,.nils] 1 4 .any,I 0,I 0,.str 0 0,.nils,I 0,I 1,QX,.nils,I 0,I 0,.str 0 0,.nils,I 1,I 1,.str 0 0,.nils,I 0,I 1,.str 0 0,.nils,I 1,I 0,.str 0 0,.nils,I 0,I 0,.str 0 0,.nils] 4 8 .any,Ui],(.tuple [.sl [I 0,I 1] 2 1 .any,.agg [.nils],I 0])),
 ([vM,rN,.sl [I 0,I 0,QZ,.sl [I 0,I 1,.str 0 0,.nils] 1 4 .any,I 0,I 0,.str 0 0,.nils,I 0,I 1,QX,.nils,I 0,I 0,.str 0 0,.nils,I 1,I 1,.str 0 0,.nils,I 0,I 1,.str 0 0,.nils,I 0,I 1,QX,.nils,I 0,I 0,.str 0 0,.nils,I 1,I 1,.str 0 0,.nils,I 0,I 0,.str 0 0,.nils,I 1,I 0,.str 0 0,.nils,I 0,I 0,.str 0 0,.nils] 6 8 .any,Ui],(.tuple [.nils,.agg [.sl [I 0,I 0,I 0,.str 0 0,.nils,I 1,I 0,I 1,.str 0 0,.nils,I 3,I 0,I 1,.str 0 0,.nils] 3 5 .any],I 0])),
 ([vM,qN,.nils,Ui],(.tuple [.sl [] 0 1 .any,.agg [.nils],I 0]))]
theorem amh:aO Tryz.prog .nil 16 av2:=xL WW (n:=20000) (by decide) (by kernel_rfl)
def aoH:List (Nat×T Es):=(16,one av2) ::aoG
theorem WX:qy Tryz.prog .nil aoH:=vp WW (by decide) (.one amh)
def av3:Es:=[([vM,rN,.sl [I 0,I 0,QZ,.sl [I 0,I 1,.str 0 0,.nils] 1 4 .any,I 0,I 0,.str 0 0,.nils,I 0,I 1,QX,.nils,I 0,I 0,.str 0 0,.nils,I 1,I 1,.str 0 0,.nils,I 0,I 1,.str 0 0,.nils,I 0,I 1,QX,.nils,I 0,I 0,.str 0 0,.nils,I 1,I 1,.str 0 0,.nils,I 0,I 0,.str 0 0,.nils,I 1,I 0,.str 0 0,.nils,I 0,I 0,.str 0 0,.nils] 6 8 .any,.agg [.sl [I 0,I 0,I 0,.str 0 0,.nils,I 1,I 0,I 1,.str 0 0,.nils,I 3,I 0,I 1,.str 0 0,.nils] 3 5 .any],Ui],(I 0))]
theorem ami:aO Tryz.prog .nil 27 av3:=xL WX (n:=20000) (by decide) (by kernel_rfl)
def aoI:List (Nat×T Es):=(27,one av3) ::aoH
theorem WY:qy Tryz.prog .nil aoI:=vp WX (by decide) (.one ami)
def av4:Es:=[([],(.bool true))]
theorem amj:aO Tryz.prog .nil 69 av4:=xL WY (n:=20000) (by decide) (by kernel_rfl)
def av5:List (Nat×T Es):=(69,one av4) ::aoI
theorem aiA:qy Tryz.prog .nil av5:=vp WY (by decide) (.one amj)
def aCX:Es:=[([],(.bool true))]
theorem amk:aO Tryz.prog .nil 23 aCX:=xL aiA (n:=20000) (by decide) (by kernel_rfl)
theorem aiB:Ent Tryz.prog .nil 23 [] (.bool true):=amk.1
end Ln
