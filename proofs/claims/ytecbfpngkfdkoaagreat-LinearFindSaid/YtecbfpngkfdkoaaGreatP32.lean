/- A part of the proof. No condition. -/
import Derived.Test.YtecbfpngkfdkoaaGreatP17
import Derived.Test.YtecbfpngkfdkoaaGreatP31
namespace Ln
open Go.Sx Go Go.Proofs
theorem dd{f:Nat}{l l':List AV}{v v':AV}(h:Ent Tryz.prog .nil f l v)(hl:AV.JQ l l'=true:=by kernel_rfl)(hv:AV.beq v v'=true:=by kernel_rfl):Ent Tryz.prog .nil f l' v':=by rw[←AV.ju _ _ hl,←AV.eq_of_beq _ _ hv];exact h
def aA6:Es:=[([.agg [I 0,I 1,.str 0 0,.nils]],(.agg [I 0,I 1,.str 0 0,.nils])),
 ([.agg [I 0,I 0,.str 0 0,.nils]],(.agg [I 0,I 0,.str 0 0,.nils])),
 ([.agg [I 1,I 1,.str 0 0,.nils]],(.agg [I 1,I 1,.str 0 0,.nils])),
 ([.agg [I 1,I 0,.str 0 0,.nils]],(.agg [I 1,I 0,.str 0 0,.nils])),
 ([.agg [I 2,I 0,.str 0 0,.sl [] 0 4 .any]],(.agg [I 2,I 0,.str 0 0,.nils]))]
theorem asa:aV Tryz.prog .nil 62 aA6:=⟨dd (wi.Px ⟨⟨0,1,[]⟩,by decide⟩),⟨dd (wi.Px ⟨⟨0,0,[]⟩,by decide⟩),⟨dd (wi.Px ⟨⟨1,1,[]⟩,by decide⟩),⟨dd (wi.Px ⟨⟨1,0,[]⟩,by decide⟩),Aq (tab:=[]) trivial (n:=20000) (by decide) (by kernel_rfl)⟩⟩⟩⟩
def auv:Es:=[([vM,I 4,.str 8 8243122732010005874],(.tuple [.agg ((sb.drop 90).take 45),.bool true])),
 ([vM,I 4,.str 5 435761280369],(.tuple [.agg ((sb.drop 0).take 45),.bool true]))]
theorem aob:aV Tryz.prog .nil 129 auv:=⟨dd (KW.Px ⟨2,by decide⟩),⟨dd (KW.Px ⟨0,by decide⟩),trivial⟩⟩
def auw:Es:=[([vM,.str 8 8243122732010005874,.agg [I 200,I 50]],(.tuple [.agg [I 0,I 0,.str 0 0,.nils],I 0])),
 ([vM,.str 5 435761280369,.agg [I 200,I 50]],(.tuple [.agg [I 2,I 0,.str 0 0,.nils],I 0]))]
theorem aoc:aV Tryz.prog .nil 132 auw:=⟨dd (IL.Px ⟨2,by decide⟩),⟨dd (IL.Px ⟨0,by decide⟩),trivial⟩⟩
def auy:Es:=[([.agg [I 0,I 0,.str 0 0,.nils],.agg [I 0,I 0,.str 0 0,.nils]],(I 0)),
 ([.agg [I 0,I 0,.str 0 0,.nils],.agg [I 0,I 1,.str 0 0,.nils]],(I (-1))),
 ([.agg [I 0,I 1,.str 0 0,.nils],.agg [I 0,I 0,.str 0 0,.nils]],(I 1)),
 ([.agg [I 0,I 1,.str 0 0,.nils],.agg [I 0,I 1,.str 0 0,.nils]],(I 0))]
theorem aod:aV Tryz.prog .nil 139 auy:=⟨dd (zF.Px ⟨⟨0,0,[]⟩,⟨0,0,[]⟩,by decide,by decide⟩),⟨dd (zF.Px ⟨⟨0,0,[]⟩,⟨0,1,[]⟩,by decide,by decide⟩),⟨dd (zF.Px ⟨⟨0,1,[]⟩,⟨0,0,[]⟩,by decide,by decide⟩),⟨dd (zF.Px ⟨⟨0,1,[]⟩,⟨0,1,[]⟩,by decide,by decide⟩),trivial⟩⟩⟩⟩
def auz:Es:=[([vM,.str 8 8243122732010005874,.str 5 435744764535,.agg [I 0,I 0,.str 0 0,.nils],.sl [I 0,I 1,.str 0 0,.nils] 1 4 .any,.agg [I 200,I 50]],(.tuple [.bool true,I 0])),
 ([vM,.str 8 8243122732010005874,.str 4 1684104562,.agg [I 0,I 0,.str 0 0,.nils],.nils,.agg [I 200,I 50]],(.tuple [.bool true,I 0])),
 ([vM,.str 8 8243122732010005874,.str 4 1684104562,.agg [I 0,I 1,.str 0 0,.nils],.nils,.agg [I 200,I 50]],(.tuple [.bool true,I 0]))]
theorem aoe:aV Tryz.prog .nil 149 auz:=⟨dd (ES.Px ⟨.write,⟨0,0,[]⟩,[⟨0,1⟩],by unfold iz;decide,rfl⟩),⟨dd (ES.Px ⟨.vZ,⟨0,0,[]⟩,[],by unfold iz;decide,rfl⟩),⟨dd (ES.Px ⟨.vZ,⟨0,1,[]⟩,[],by unfold iz;decide,rfl⟩),trivial⟩⟩⟩
def auA:Es:=[([vM,.str 8 8243122732010005874,.str 5 435744764535,.agg [I 0,I 0,.str 0 0,.nils],.sl [I 0,I 1,.str 0 0,.nils] 1 4 .any,.agg [I 0,I 0,.str 0 0,.nils],.agg [I 200,I 50]],(.tuple [.bool true,I 0])),
 ([vM,.str 8 8243122732010005874,.str 4 1684104562,.agg [I 0,I 0,.str 0 0,.nils],.nils,.agg [I 0,I 0,.str 0 0,.nils],.agg [I 200,I 50]],(.tuple [.bool true,I 0])),
 ([vM,.str 8 8243122732010005874,.str 4 1684104562,.agg [I 0,I 1,.str 0 0,.nils],.nils,.agg [I 0,I 0,.str 0 0,.nils],.agg [I 200,I 50]],(.tuple [.bool false,I 0])),
 ([vM,.str 8 8243122732010005874,.str 4 1684104562,.agg [I 0,I 0,.str 0 0,.nils],.nils,.agg [I 0,I 1,.str 0 0,.nils],.agg [I 200,I 50]],(.tuple [.bool false,I 0])),
 ([vM,.str 8 8243122732010005874,.str 4 1684104562,.agg [I 0,I 1,.str 0 0,.nils],.nils,.agg [I 0,I 1,.str 0 0,.nils],.agg [I 200,I 50]],(.tuple [.bool true,I 0]))]
theorem aof:aV Tryz.prog .nil 150 auA:=⟨dd (nU.Px ⟨⟨.write,⟨0,0,[]⟩,[⟨0,1⟩],by unfold iz;decide,rfl⟩,⟨0,0⟩⟩),⟨dd (nU.Px ⟨⟨.vZ,⟨0,0,[]⟩,[],by unfold iz;decide,rfl⟩,⟨0,0⟩⟩),⟨dd (nU.Px ⟨⟨.vZ,⟨0,1,[]⟩,[],by unfold iz;decide,rfl⟩,⟨0,0⟩⟩),⟨dd (nU.Px ⟨⟨.vZ,⟨0,0,[]⟩,[],by unfold iz;decide,rfl⟩,⟨0,1⟩⟩),⟨dd (nU.Px ⟨⟨.vZ,⟨0,1,[]⟩,[],by unfold iz;decide,rfl⟩,⟨0,1⟩⟩),trivial⟩⟩⟩⟩⟩
def auB:Es:=[([vM,.str 8 8243122732010005874,.str 5 435744764535,.agg [I 0,I 0,.str 0 0,.nils],.sl [I 0,I 1,.str 0 0,.nils] 1 4 .any,.agg [I 0,I 0,.str 0 0,.nils],.agg [I 200,I 50]],(.tuple [.agg [I 0,I 1,.str 0 0,.nils],I 0])),
 ([vM,.str 8 8243122732010005874,.str 4 1684104562,.agg [I 0,I 0,.str 0 0,.nils],.nils,.agg [I 0,I 0,.str 0 0,.nils],.agg [I 200,I 50]],(.tuple [.agg [I 0,I 0,.str 0 0,.nils],I 0])),
 ([vM,.str 8 8243122732010005874,.str 4 1684104562,.agg [I 0,I 1,.str 0 0,.nils],.nils,.agg [I 0,I 1,.str 0 0,.nils],.agg [I 200,I 50]],(.tuple [.agg [I 0,I 1,.str 0 0,.nils],I 0]))]
theorem aog:aV Tryz.prog .nil 151 auB:=⟨dd (AO.Px ⟨⟨.write,⟨0,0,[]⟩,[⟨0,1⟩],by unfold iz;decide,rfl⟩,⟨0,0⟩⟩),⟨dd (AO.Px ⟨⟨.vZ,⟨0,0,[]⟩,[],by unfold iz;decide,rfl⟩,⟨0,0⟩⟩),⟨dd (AO.Px ⟨⟨.vZ,⟨0,1,[]⟩,[],by unfold iz;decide,rfl⟩,⟨0,1⟩⟩),trivial⟩⟩⟩
def auC:Es:=[([.agg [I 0,I 1,.str 0 0,.nils]],(I 0)),
 ([.agg [I 0,I 0,.str 0 0,.nils]],(I 0)),
 ([.agg [I 2,I 0,.str 0 0,.nils]],(I 0))]
theorem aoh:aV Tryz.prog .nil 159 auC:=⟨dd (Fc.Px (⟨0,1⟩:U)),⟨dd (Fc.Px (⟨0,0⟩:U)),⟨dd (Fc.Px (⟨2,0⟩:U)),trivial⟩⟩⟩
def vKm:Es:=[([],vM)]
theorem awM:aV Tryz.prog .nil 12 vKm:=⟨XS,trivial⟩
def auD:List (Nat×T Es):=[(62,one aA6),(129,one auv),(132,one auw),(139,one auy),(149,one auz),(150,one auA),(151,one auB),(159,one auC),(12,one vKm)]
theorem ab7:tF Tryz.prog .nil auD:=(yn (yn (yn (yn (yn (yn (yn (yn (yn (show tF Tryz.prog .nil [] from trivial) (by decide) (.one awM)) (by decide) (.one aoh)) (by decide) (.one aog)) (by decide) (.one aof)) (by decide) (.one aoe)) (by decide) (.one aod)) (by decide) (.one aoc)) (by decide) (.one aob)) (by decide) (.one asa))
def auE:Es:=[([.agg [I 0,I 0,.str 0 0,.nils]],(.int .u64 (.lit 1036025603977799020))),
 ([.agg [I 0,I 1,.str 0 0,.nils]],(.int .u64 (.lit 5536678271428152152))),
 ([.agg [I 2,I 0,.str 0 0,.nils]],(.int .u64 (.lit 17458373292249916716)))]
theorem aoi:aV Tryz.prog .nil 209 auE:=Aq ab7 (n:=20000) (by decide) (by kernel_rfl)
def auF:List (Nat×T Es):=(209,one auE) ::auD
theorem ab8:tF Tryz.prog .nil auF:=yn ab7 (by decide) (.one aoi)
def aA7:Es:=[([.sl [I 0,I 0,.str 5 435744764535,.sl [I 0,I 1,.str 0 0,.nils] 1 4 .any,I 0,I 0,.str 0 0,.nils,I 0,I 1,.str 4 1684104562,.nils,I 0,I 0,.str 0 0,.nils,I 1,I 1,.str 0 0,.nils,I 0,I 0,.str 0 0,.nils,I 1,I 0,.str 0 0,.nils,I 0,I 0,.str 0 0,.nils] 4 8 .any],(.tuple [.sl [I 0,I 0,I 3,I (-1),.str 5 435744764535,.sl [I 0,I 1,.str 0 0,.nils] 1 4 .any,I 0,I 0,.str 0 0,.nils,I 1,I 1,I 2,I (-1),.str 4 1684104562,.nils,I 0,I 0,.str 0 0,.nils] 2 10 .any,I 0])),
 ([.sl [I 0,I 0,.str 5 435744764535,.sl [I 0,I 1,.str 0 0,.nils] 1 4 .any,I 0,I 0,.str 0 0,.nils,I 0,I 1,.str 4 1684104562,.nils,I 0,I 0,.str 0 0,.nils,I 1,I 1,.str 0 0,.nils,I 0,I 1,.str 0 0,.nils,I 1,I 0,.str 0 0,.nils,I 0,I 0,.str 0 0,.nils] 4 8 .any],(.tuple [.sl [I 0,I 0,I 3,I (-1),.str 5 435744764535,.sl [I 0,I 1,.str 0 0,.nils] 1 4 .any,I 0,I 0,.str 0 0,.nils,I 1,I 1,I 2,I (-1),.str 4 1684104562,.nils,I 0,I 1,.str 0 0,.nils] 2 10 .any,I 0])),
 ([.sl [I 0,I 0,.str 5 435744764535,.sl [I 0,I 1,.str 0 0,.nils] 1 4 .any,I 0,I 0,.str 0 0,.nils,I 0,I 1,.str 4 1684104562,.nils,I 0,I 0,.str 0 0,.nils,I 1,I 1,.str 0 0,.nils,I 0,I 1,.str 0 0,.nils,I 0,I 1,.str 4 1684104562,.nils,I 0,I 0,.str 0 0,.nils,I 1,I 1,.str 0 0,.nils,I 0,I 0,.str 0 0,.nils,I 1,I 0,.str 0 0,.nils,I 0,I 0,.str 0 0,.nils] 6 8 .any],(.tuple [.sl [I 0,I 0,I 5,I (-1),.str 5 435744764535,.sl [I 0,I 1,.str 0 0,.nils] 1 4 .any,I 0,I 0,.str 0 0,.nils,I 1,I 1,I 2,I (-1),.str 4 1684104562,.nils,I 0,I 1,.str 0 0,.nils,I 1,I 3,I 4,I (-1),.str 4 1684104562,.nils,I 0,I 0,.str 0 0,.nils] 3 10 .any,I 0])),
 ([.nils],(.tuple [.nils,I 0]))]
theorem asb:aV Tryz.prog .nil 32 aA7:=Aq ab8 (n:=20000) (by decide) (by kernel_rfl)
def auG:List (Nat×T Es):=(32,one aA7) ::auF
theorem ab9:tF Tryz.prog .nil auG:=yn ab8 (by decide) (.one asb)
def aA8:Es:=[([vM,.str 8 8243122732010005874,.sl [I 0,I 0,.str 5 435744764535,.sl [I 0,I 1,.str 0 0,.nils] 1 4 .any,I 0,I 0,.str 0 0,.nils,I 0,I 1,.str 4 1684104562,.nils,I 0,I 0,.str 0 0,.nils,I 1,I 1,.str 0 0,.nils,I 0,I 0,.str 0 0,.nils,I 1,I 0,.str 0 0,.nils,I 0,I 0,.str 0 0,.nils] 4 8 .any,.agg [I 200,I 50]],(.tuple [.sl [I 1,I 0] 2 1 .any,.agg [.nils],I 0])),
 ([vM,.str 8 8243122732010005874,.sl [I 0,I 0,.str 5 435744764535,.sl [I 0,I 1,.str 0 0,.nils] 1 4 .any,I 0,I 0,.str 0 0,.nils,I 0,I 1,.str 4 1684104562,.nils,I 0,I 0,.str 0 0,.nils,I 1,I 1,.str 0 0,.nils,I 0,I 1,.str 0 0,.nils,I 1,I 0,.str 0 0,.nils,I 0,I 0,.str 0 0,.nils] 4 8 .any,.agg [I 200,I 50]],(.tuple [.sl [I 0,I 1] 2 1 .any,.agg [.nils],I 0])),
 ([vM,.str 8 8243122732010005874,.sl [I 0,I 0,.str 5 435744764535,.sl [I 0,I 1,.str 0 0,.nils] 1 4 .any,I 0,I 0,.str 0 0,.nils,I 0,I 1,.str 4 1684104562,.nils,I 0,I 0,.str 0 0,.nils,I 1,I 1,.str 0 0,.nils,I 0,I 1,.str 0 0,.nils,I 0,I 1,.str 4 1684104562,.nils,I 0,I 0,.str 0 0,.nils,I 1,I 1,.str 0 0,.nils,I 0,I 0,.str 0 0,.nils,I 1,I 0,.str 0 0,.nils,I 0,I 0,.str 0 0,.nils] 6 8 .any,.agg [I 200,I 50]],(.tuple [.nils,.agg [.sl [I 0,I 0,I 0,.str 0 0,.nils,I 1,I 0,I 1,.str 0 0,.nils,I 3,I 0,I 1,.str 0 0,.nils] 3 5 .any],I 0])),
 ([vM,.str 5 435761280369,.nils,.agg [I 200,I 50]],(.tuple [.sl [] 0 1 .any,.agg [.nils],I 0]))]
theorem asc:aV Tryz.prog .nil 16 aA8:=Aq ab9 (n:=20000) (by decide) (by kernel_rfl)
def auH:List (Nat×T Es):=(16,one aA8) ::auG
theorem aca:tF Tryz.prog .nil auH:=yn ab9 (by decide) (.one asc)
def aA9:Es:=[([vM,.str 8 8243122732010005874,.sl [I 0,I 0,.str 5 435744764535,.sl [I 0,I 1,.str 0 0,.nils] 1 4 .any,I 0,I 0,.str 0 0,.nils,I 0,I 1,.str 4 1684104562,.nils,I 0,I 0,.str 0 0,.nils,I 1,I 1,.str 0 0,.nils,I 0,I 1,.str 0 0,.nils,I 0,I 1,.str 4 1684104562,.nils,I 0,I 0,.str 0 0,.nils,I 1,I 1,.str 0 0,.nils,I 0,I 0,.str 0 0,.nils,I 1,I 0,.str 0 0,.nils,I 0,I 0,.str 0 0,.nils] 6 8 .any,.agg [.sl [I 0,I 0,I 0,.str 0 0,.nils,I 1,I 0,I 1,.str 0 0,.nils,I 3,I 0,I 1,.str 0 0,.nils] 3 5 .any],.agg [I 200,I 50]],(I 0))]
theorem asd:aV Tryz.prog .nil 27 aA9:=Aq aca (n:=20000) (by decide) (by kernel_rfl)
def auI:List (Nat×T Es):=(27,one aA9) ::auH
theorem acb:tF Tryz.prog .nil auI:=yn aca (by decide) (.one asd)
def aBa:Es:=[([],(.bool true))]
theorem ase:aV Tryz.prog .nil 69 aBa:=Aq acb (n:=20000) (by decide) (by kernel_rfl)
def aBb:List (Nat×T Es):=(69,one aBa) ::auI
theorem aoj:tF Tryz.prog .nil aBb:=yn acb (by decide) (.one ase)
def aIx:Es:=[([],(.bool true))]
theorem asf:aV Tryz.prog .nil 23 aIx:=Aq aoj (n:=20000) (by decide) (by kernel_rfl)
theorem aok:Ent Tryz.prog .nil 23 [] (.bool true):=asf.1
end Ln
