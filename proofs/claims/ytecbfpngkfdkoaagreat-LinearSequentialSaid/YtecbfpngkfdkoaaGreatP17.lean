/- A part of the proof. No condition. -/
import Derived.Test.YtecbfpngkfdkoaaGreatP15
import Derived.Test.YtecbfpngkfdkoaaGreatP16
set_option linter.unusedSimpArgs false
set_option linter.unusedVariables false
set_option linter.unusedSectionVars false
namespace Ln
open Go.Sx Go Go.Proofs
def awe:aX→Nat
 |.put=>0|.get=>1|.inc=>0|.readC=>1|.add=>2|.write=>0|.readR=>1
def DI(i:Nat):List AV:=(qx.drop (45*(match i with|0=>3|1=>4|_=>6))).take 45
def aqW:Option AV→List AV
 |some (.sl l _ _ _)=>l
 |_=>[]
def opR(c:aX):List AV:=((aqW (DI c.fZ)[37]?).drop (3*awe c)).take 3
def Y0:zF where
 sys:=DI
 cmd c:=Iq c.fZ (awe c)
 WH c:=(aqW (Iq c.fZ (awe c))[1]?).take 11
 par c:=(aqW (opR c)[1]?).take 4
 act c:=(aqW (opR c)[2]?).take 14
def uQ(i:Nat):List AV:=[I 0,vI i,.str 0 0,.nils]
def aBt(c:aX)(n:Nat):List AV:=match c.fZ with
 |0=>[I 2,I 0,.str 0 0,match n with|0=>.nils|n+1=>.sl ((List.range (n+1)).flatMap uQ) (n+1) 4 .any]
 |_=>uQ 0
def at2(c:aX):List AV:=match c.ar with
 |0=>[]
 |_=>xR (nmC c) (uQ 8)
def ahd(c:aX)(n:Nat):List AV:=xR 115 (aBt c n)++at2 c
def aam(c:aX)(n:Nat):List AV:=ahd c n++xR 114 (uQ 10)
def aan(c:aX)(n:Nat):List AV:=xR 115 (aBt c n)++xR 108 (eU yu)++at2 c
def qTP:aX→Nat→aI
 |.put,0=>(.leaf 1094 (.tuple [.bool true,I 0]))
 |.put,1=>(.leaf 1153 (.tuple [.bool true,I 0]))
 |.put,2=>(.leaf 1212 (.tuple [.bool true,I 0]))
 |.put,3=>(.leaf 1270 (.tuple [.bool false,I 0]))
 |.get,0=>(.leaf 982 (.tuple [.bool false,I 0]))
 |.get,1=>(.leaf 1042 (.tuple [.bool true,I 0]))
 |.get,2=>(.leaf 1101 (.tuple [.bool true,I 0]))
 |.get,3=>(.leaf 1160 (.tuple [.bool true,I 0]))
 |.inc,0=>(.ask 702 .lss (.var 0) (.lit 99) (.leaf 114 (.tuple [.bool true,I 0])) (.leaf 113 (.tuple [.bool false,I 0])))
 |.readC,0=>(.leaf 558 (.tuple [.bool true,I 0]))
 |.add,0=>(.leaf 652 (.tuple [.bool true,I 0]))
 |.write,0=>(.leaf 652 (.tuple [.bool true,I 0]))
 |_,_=>(.leaf 558 (.tuple [.bool true,I 0]))
def aTP(c:aX)(n:Nat):List AV:=[vM,.sl (ahd c n) (1+c.ar) 5 .any,zJ 2 (Y0.cmd c),dp]
theorem kTP{c:aX}{n:Nat}(h:Sh c n):aI.cn (CF aL) 174 (qTP c n) ⟨ah 174 (fx 174) (aTP c n),[],.nil,bz⟩ [] []=true:=by cases h<;>kernel_rfl
theorem zTP{c:aX}{n:Nat}(h:Sh c n):AV.Bb (aTP c n)=true:=by cases h<;>kernel_rfl
def qTQ:aX→Nat→aI
 |.put,0=>(.ask 976 .lss (.var 10) (.lit 0) (.leaf 130 (.tuple [.bool false,I 0])) (.ask 6 .gtr (.var 10) (.lit 0) (.leaf 130 (.tuple [.bool false,I 0])) (.leaf 226 (.tuple [.bool true,I 0]))))
 |.put,1=>(.ask 1035 .lss (.var 10) (.lit 0) (.leaf 130 (.tuple [.bool false,I 0])) (.ask 6 .gtr (.var 10) (.lit 0) (.leaf 130 (.tuple [.bool false,I 0])) (.leaf 226 (.tuple [.bool true,I 0]))))
 |.put,2=>(.ask 1094 .lss (.var 10) (.lit 0) (.leaf 130 (.tuple [.bool false,I 0])) (.ask 6 .gtr (.var 10) (.lit 0) (.leaf 130 (.tuple [.bool false,I 0])) (.leaf 226 (.tuple [.bool true,I 0]))))
 |.put,3=>(.ask 1153 .lss (.var 10) (.lit 0) (.leaf 130 (.tuple [.bool false,I 0])) (.ask 6 .gtr (.var 10) (.lit 0) (.leaf 130 (.tuple [.bool false,I 0])) (.leaf 226 (.tuple [.bool true,I 0]))))
 |.get,0=>(.leaf 1082 (.tuple [.bool false,I 13]))
 |.get,1=>(.ask 1322 .lss (.var 10) (.var 0) (.leaf 130 (.tuple [.bool false,I 0])) (.ask 6 .gtr (.var 10) (.var 0) (.leaf 130 (.tuple [.bool false,I 0])) (.leaf 226 (.tuple [.bool true,I 0]))))
 |.get,2=>(.ask 1381 .lss (.var 10) (.var 0) (.leaf 130 (.tuple [.bool false,I 0])) (.ask 6 .gtr (.var 10) (.var 0) (.leaf 130 (.tuple [.bool false,I 0])) (.leaf 226 (.tuple [.bool true,I 0]))))
 |.get,3=>(.ask 1440 .lss (.var 10) (.var 0) (.leaf 130 (.tuple [.bool false,I 0])) (.ask 6 .gtr (.var 10) (.var 0) (.leaf 130 (.tuple [.bool false,I 0])) (.leaf 226 (.tuple [.bool true,I 0]))))
 |.inc,0=>(.ask 1148 .lss (.var 10) (.bin .add .i64 (.var 0) (.lit 1)) (.leaf 130 (.tuple [.bool false,I 0])) (.ask 6 .gtr (.var 10) (.bin .add .i64 (.var 0) (.lit 1)) (.leaf 130 (.tuple [.bool false,I 0])) (.leaf 226 (.tuple [.bool true,I 0]))))
 |.readC,0=>(.ask 913 .lss (.var 10) (.var 0) (.leaf 130 (.tuple [.bool false,I 0])) (.ask 6 .gtr (.var 10) (.var 0) (.leaf 130 (.tuple [.bool false,I 0])) (.leaf 226 (.tuple [.bool true,I 0]))))
 |.add,0=>(.ask 1290 .lss (.var 10) (.bin .add .i64 (.var 0) (.var 8)) (.leaf 130 (.tuple [.bool false,I 0])) (.ask 6 .gtr (.var 10) (.bin .add .i64 (.var 0) (.var 8)) (.leaf 130 (.tuple [.bool false,I 0])) (.leaf 226 (.tuple [.bool true,I 0]))))
 |.write,0=>(.ask 976 .lss (.var 10) (.lit 0) (.leaf 130 (.tuple [.bool false,I 0])) (.ask 6 .gtr (.var 10) (.lit 0) (.leaf 130 (.tuple [.bool false,I 0])) (.leaf 226 (.tuple [.bool true,I 0]))))
 |_,_=>(.ask 913 .lss (.var 10) (.var 0) (.leaf 130 (.tuple [.bool false,I 0])) (.ask 6 .gtr (.var 10) (.var 0) (.leaf 130 (.tuple [.bool false,I 0])) (.leaf 226 (.tuple [.bool true,I 0]))))
def aTQ(c:aX)(n:Nat):List AV:=[vM,.sl (aam c n) (1+c.ar+1) 5 .any,zJ 16 (Y0.cmd c),dp]
theorem kTQ{c:aX}{n:Nat}(h:Sh c n):aI.cn (CF aL) 174 (qTQ c n) ⟨ah 174 (fx 174) (aTQ c n),[],.nil,bz⟩ [] []=true:=by cases h<;>kernel_rfl
theorem zTQ{c:aX}{n:Nat}(h:Sh c n):AV.Bb (aTQ c n)=true:=by cases h<;>kernel_rfl
def qEN:aX→Nat→aI
 |.put,0=>(.leaf 1070 (.tuple [.agg [I 2,I 0,.str 0 0,.sl [I 0,vI 8,.str 0 0,.nils] 1 4 .any],I 0]))
 |.put,1=>(.leaf 1172 (.tuple [.agg [I 2,I 0,.str 0 0,.sl [I 0,vI 0,.str 0 0,.nils,I 0,vI 8,.str 0 0,.nils] 2 4 .any],I 0]))
 |.put,2=>(.leaf 1274 (.tuple [.agg [I 2,I 0,.str 0 0,.sl [I 0,vI 0,.str 0 0,.nils,I 0,vI 1,.str 0 0,.nils,I 0,vI 8,.str 0 0,.nils] 3 4 .any],I 0]))
 |.put,3=>(.leaf 1376 (.tuple [.agg [I 2,I 0,.str 0 0,.sl [I 0,vI 0,.str 0 0,.nils,I 0,vI 1,.str 0 0,.nils,I 0,vI 2,.str 0 0,.nils,I 0,vI 8,.str 0 0,.nils] 4 4 .any],I 0]))
 |.get,0=>(.leaf 978 (.tuple [.agg [I 2,I 0,.str 0 0,.nils],I 0]))
 |.get,1=>(.leaf 1037 (.tuple [.agg [I 2,I 0,.str 0 0,.nils],I 0]))
 |.get,2=>(.leaf 1214 (.tuple [.agg [I 2,I 0,.str 0 0,.sl [I 0,vI 1,.str 0 0,.nils] 1 4 .any],I 0]))
 |.get,3=>(.leaf 1375 (.tuple [.agg [I 2,I 0,.str 0 0,.sl [I 0,vI 1,.str 0 0,.nils,I 0,vI 2,.str 0 0,.nils] 2 4 .any],I 0]))
 |.inc,0=>(.leaf 869 (.tuple [.agg [I 0,.int .i64 (.bin .add .i64 (.var 0) (.lit 1)),.str 0 0,.nils],I 0]))
 |.readC,0=>(.leaf 634 (.tuple [.agg [I 0,vI 0,.str 0 0,.nils],I 0]))
 |.add,0=>(.leaf 1011 (.tuple [.agg [I 0,.int .i64 (.bin .add .i64 (.var 0) (.var 8)),.str 0 0,.nils],I 0]))
 |.write,0=>(.leaf 728 (.tuple [.agg [I 0,vI 8,.str 0 0,.nils],I 0]))
 |_,_=>(.leaf 634 (.tuple [.agg [I 0,vI 0,.str 0 0,.nils],I 0]))
def aEN(c:aX)(n:Nat):List AV:=[vM,.sl (aam c n) (1+c.ar+1) 5 .any,zJ 9 (Y0.cmd c),dp,zN]
theorem kEN{c:aX}{n:Nat}(h:Sh c n):aI.cn (CF aL) 169 (qEN c n) ⟨ah 169 (fx 169) (aEN c n),[],.nil,bz⟩ [] []=true:=by cases h<;>kernel_rfl
theorem zEN{c:aX}{n:Nat}(h:Sh c n):AV.Bb (aEN c n)=true:=by cases h<;>kernel_rfl
def qES:aX→Nat→aI
 |.put,0=>(.leaf 1053 (.tuple [.agg [I 2,I 0,.str 0 0,.sl [I 0,vI 8,.str 0 0,.nils] 1 4 .any],I 0]))
 |.put,1=>(.leaf 1155 (.tuple [.agg [I 2,I 0,.str 0 0,.sl [I 0,vI 0,.str 0 0,.nils,I 0,vI 8,.str 0 0,.nils] 2 4 .any],I 0]))
 |.put,2=>(.leaf 1257 (.tuple [.agg [I 2,I 0,.str 0 0,.sl [I 0,vI 0,.str 0 0,.nils,I 0,vI 1,.str 0 0,.nils,I 0,vI 8,.str 0 0,.nils] 3 4 .any],I 0]))
 |.put,3=>(.leaf 1359 (.tuple [.agg [I 2,I 0,.str 0 0,.sl [I 0,vI 0,.str 0 0,.nils,I 0,vI 1,.str 0 0,.nils,I 0,vI 2,.str 0 0,.nils,I 0,vI 8,.str 0 0,.nils] 4 4 .any],I 0]))
 |.get,0=>(.leaf 978 (.tuple [.agg [I 2,I 0,.str 0 0,.nils],I 0]))
 |.get,1=>(.leaf 1037 (.tuple [.agg [I 2,I 0,.str 0 0,.nils],I 0]))
 |.get,2=>(.leaf 1214 (.tuple [.agg [I 2,I 0,.str 0 0,.sl [I 0,vI 1,.str 0 0,.nils] 1 4 .any],I 0]))
 |.get,3=>(.leaf 1375 (.tuple [.agg [I 2,I 0,.str 0 0,.sl [I 0,vI 1,.str 0 0,.nils,I 0,vI 2,.str 0 0,.nils] 2 4 .any],I 0]))
 |.inc,0=>(.leaf 869 (.tuple [.agg [I 0,.int .i64 (.bin .add .i64 (.var 0) (.lit 1)),.str 0 0,.nils],I 0]))
 |.readC,0=>(.leaf 634 (.tuple [.agg [I 0,vI 0,.str 0 0,.nils],I 0]))
 |.add,0=>(.leaf 994 (.tuple [.agg [I 0,.int .i64 (.bin .add .i64 (.var 0) (.var 8)),.str 0 0,.nils],I 0]))
 |.write,0=>(.leaf 711 (.tuple [.agg [I 0,vI 8,.str 0 0,.nils],I 0]))
 |_,_=>(.leaf 634 (.tuple [.agg [I 0,vI 0,.str 0 0,.nils],I 0]))
def aES(c:aX)(n:Nat):List AV:=[vM,.sl (aan c n) (2+c.ar) 5 .any,zJ 0 (Y0.act c),dp,zN]
theorem kES{c:aX}{n:Nat}(h:Sh c n):aI.cn (CF aL) 169 (qES c n) ⟨ah 169 (fx 169) (aES c n),[],.nil,bz⟩ [] []=true:=by cases h<;>kernel_rfl
theorem zES{c:aX}{n:Nat}(h:Sh c n):AV.Bb (aES c n)=true:=by cases h<;>kernel_rfl
def qEL:aX→Nat→aI
 |.put,0=>(.leaf 697 (.tuple [.agg [I 0,I 0,.str 0 0,.nils],I 0]))
 |.put,1=>(.leaf 756 (.tuple [.agg [I 0,I 0,.str 0 0,.nils],I 0]))
 |.put,2=>(.leaf 815 (.tuple [.agg [I 0,I 0,.str 0 0,.nils],I 0]))
 |.put,3=>(.leaf 874 (.tuple [.agg [I 0,I 0,.str 0 0,.nils],I 0]))
 |.get,0=>(.leaf 861 (.tuple [.agg [I 0,I 0,.str 0 0,.nils],I 13]))
 |.get,1=>(.leaf 1043 (.tuple [.agg [I 0,vI 0,.str 0 0,.nils],I 0]))
 |.get,2=>(.leaf 1102 (.tuple [.agg [I 0,vI 0,.str 0 0,.nils],I 0]))
 |.get,3=>(.leaf 1161 (.tuple [.agg [I 0,vI 0,.str 0 0,.nils],I 0]))
 |.inc,0=>(.leaf 869 (.tuple [.agg [I 0,.int .i64 (.bin .add .i64 (.var 0) (.lit 1)),.str 0 0,.nils],I 0]))
 |.readC,0=>(.leaf 634 (.tuple [.agg [I 0,vI 0,.str 0 0,.nils],I 0]))
 |.add,0=>(.leaf 994 (.tuple [.agg [I 0,.int .i64 (.bin .add .i64 (.var 0) (.var 8)),.str 0 0,.nils],I 0]))
 |.write,0=>(.leaf 697 (.tuple [.agg [I 0,I 0,.str 0 0,.nils],I 0]))
 |_,_=>(.leaf 634 (.tuple [.agg [I 0,vI 0,.str 0 0,.nils],I 0]))
def aEL(c:aX)(n:Nat):List AV:=[vM,.sl (aan c n) (2+c.ar) 5 .any,zJ 7 (Y0.act c),dp,zN]
theorem kEL{c:aX}{n:Nat}(h:Sh c n):aI.cn (CF aL) 169 (qEL c n) ⟨ah 169 (fx 169) (aEL c n),[],.nil,bz⟩ [] []=true:=by cases h<;>kernel_rfl
theorem zEL{c:aX}{n:Nat}(h:Sh c n):AV.Bb (aEL c n)=true:=by cases h<;>kernel_rfl
def qIM:Nat→aI
 |0=>(.leaf 477 (.tuple [.agg [I 2,I 0,.str 0 0,.nils],I 0]))
 |1=>(.leaf 415 (.tuple [.agg [I 0,I 0,.str 0 0,.nils],I 0]))
 |_=>(.leaf 415 (.tuple [.agg [I 0,I 0,.str 0 0,.nils],I 0]))
def aIM(i:Nat):List AV:=[vM,.nils,zJ 29 (xP i),dp,zN]
theorem kIM{i:Nat}(h:i<3):aI.cn (CF aL) 169 (qIM i) ⟨ah 169 (fx 169) (aIM i),[],.nil,bz⟩ [] []=true∧AV.Bb (aIM i)=true:=by
 match i,h with
 |0,_=>exact⟨by kernel_rfl,by kernel_rfl⟩
 |1,_=>exact⟨by kernel_rfl,by kernel_rfl⟩
 |2,_=>exact⟨by kernel_rfl,by kernel_rfl⟩
def qIS:Nat→aI
 |0=>(.leaf 477 (.tuple [.agg [I 2,I 0,.str 0 0,.nils],I 0]))
 |1=>(.leaf 415 (.tuple [.agg [I 0,I 0,.str 0 0,.nils],I 0]))
 |_=>(.leaf 415 (.tuple [.agg [I 0,I 0,.str 0 0,.nils],I 0]))
def aIS(i:Nat):List AV:=[vM,.nils,zJ 29 (DI i),dp,zN]
theorem kIS{i:Nat}(h:i<3):aI.cn (CF aL) 169 (qIS i) ⟨ah 169 (fx 169) (aIS i),[],.nil,bz⟩ [] []=true∧AV.Bb (aIS i)=true:=by
 match i,h with
 |0,_=>exact⟨by kernel_rfl,by kernel_rfl⟩
 |1,_=>exact⟨by kernel_rfl,by kernel_rfl⟩
 |2,_=>exact⟨by kernel_rfl,by kernel_rfl⟩
def aDY(i:Nat):List AV:=[vM,I 5,U2 i]
def vDY(i:Nat):AV:=.tuple [.agg (DI i),.bool true]
def qDY(i:Nat):aI:=.leaf (match i with|0=>1635|1=>1988|_=>1126) (vDY i)
theorem kDY{i:Nat}(h:i<3):aI.cn (CF aL) 129 (qDY i) ⟨ah 129 (fx 129) (aDY i),[],.nil,bz⟩ [] []=true∧AV.Bb (aDY i)=true∧AV.lits (vDY i)=true:=by
 match i,h with
 |0,_=>exact⟨by kernel_rfl,by kernel_rfl,by kernel_rfl⟩
 |1,_=>exact⟨by kernel_rfl,by kernel_rfl,by kernel_rfl⟩
 |2,_=>exact⟨by kernel_rfl,by kernel_rfl,by kernel_rfl⟩
def aNC(c:aX):List AV:=[((xP c.fZ)[36]?).getD .nils,.str c.name.1 c.name.2,.fn 172 [] []]
def vNC(c:aX):AV:=.tuple [.agg (Y0.cmd c),.bool true]
def qNC(c:aX):aI:=.leaf (match c with|.put=>38|.get=>67|.inc=>38|.readC=>67|.add=>96|.write=>38|.readR=>67) (vNC c)
theorem kNC(c:aX):aI.cn (CF aL) 171 (qNC c) ⟨ah 171 (fx 171) (aNC c),[],.nil,bz⟩ [] []=true∧AV.Bb (aNC c)=true∧AV.dA (aNC c)=true∧AV.lits (vNC c)=true:=by cases c<;>exact⟨by kernel_rfl,by kernel_rfl,by kernel_rfl,by kernel_rfl⟩
def aNO(c:aX):List AV:=[((DI c.fZ)[37]?).getD .nils,.str c.name.1 c.name.2,.fn 177 [] []]
def vNO(c:aX):AV:=.tuple [.agg (Y0.op c),.bool true]
def qNO(c:aX):aI:=.leaf (match c with|.put=>38|.get=>67|.inc=>38|.readC=>67|.add=>96|.write=>38|.readR=>67) (vNO c)
theorem kNO(c:aX):aI.cn (CF aL) 176 (qNO c) ⟨ah 176 (fx 176) (aNO c),[],.nil,bz⟩ [] []=true∧AV.Bb (aNO c)=true∧AV.dA (aNO c)=true∧AV.lits (vNO c)=true:=by cases c<;>exact⟨by kernel_rfl,by kernel_rfl,by kernel_rfl,by kernel_rfl⟩
def kE:AV→Int
 |.agg [_,_,_,_,_,_,.int _ (.lit n)]=>n
 |_=>-1
def exT(p:Bool)(c:aX):AV:=zJ (bif p then 16 else 2) (Y0.cmd c)
def kT:Bool→aX→Int
 |false,.put=>66
 |false,.get=>125
 |false,.inc=>221
 |false,.readC=>275
 |false,.add=>337
 |false,.write=>440
 |false,.readR=>484
 |true,.put=>99
 |true,.get=>158
 |true,.inc=>244
 |true,.readC=>292
 |true,.add=>358
 |true,.write=>457
 |true,.readR=>501
theorem at4(p:Bool)(c:aX):kE (exT p c)=kT p c:=by cases p<;>cases c<;>kernel_rfl
inductive Tg where
 |im|is|en|es|el
deriving DecidableEq
def kI:Tg→Nat→Int
 |.im,0=>23
 |.im,1=>198
 |.im,_=>396
 |.is,0=>534
 |.is,1=>653
 |.is,_=>939
 |_,_=>-1
def kV:Tg→aX→Int
 |.en,.put=>83
 |.en,.get=>142
 |.en,.inc=>233
 |.en,.readC=>285
 |.en,.add=>347
 |.en,.write=>450
 |.en,.readR=>494
 |.es,.put=>573
 |.es,.get=>606
 |.es,.inc=>684
 |.es,.readC=>717
 |.es,.add=>747
 |.es,.write=>978
 |.es,.readR=>1003
 |.el,.put=>585
 |.el,.get=>618
 |.el,.inc=>691
 |.el,.readC=>720
 |.el,.add=>754
 |.el,.write=>981
 |.el,.readR=>1006
 |_,_=>-1
end Ln
