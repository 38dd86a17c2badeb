/- A part of the proof. No condition. -/
import Derived.Test.YtecbfpngkfdkoaaGreatP12
import Derived.KernelRfl
namespace Ln
open Go.Sx Go Go.Proofs
def ut:AV:=.tuple [.agg [I 0,I 0,.str 0 0,.nils],I 15]
def wd:aV:=.leaf 20 (.tuple [.agg (uS 0),I 0])
def wl:AV:=.tuple [.agg [I 0,I 0,.str 0 0,.nils],I 0]
def Zk:aV:=(.ask 27 .gtr (.lit 0) (.var 12) (.leaf 50 ut) (.ask 0 .lss (.lit 1048576) (.var 12) (.leaf 144 wl) (.ask 18 .geq (.lit 0) (.var 12) (.leaf 32 ut) (.leaf 126 wl))))
def Jw:List AV:=[vM,rN,.agg [vI 12,I 9]]
theorem agG:be 73 Zk Jw:=bi
def agI:aV:=(.ask 128 .gtr (.lit 0) (.var 12) (em 59 false 15) (.ask 0 .lss (.lit 1048576) (.var 12) (em 179 true 0) (.ask 18 .geq (.lit 0) (.var 12) (em 41 false 15) (em 161 true 0))))
def Oh:List AV:=[vM,rN,.str 4 1684104562,.agg (uS 0),.nils,.agg [vI 12,I 9]]
theorem alk:be 154 agI Oh:=bi
def Zm:aV:=(.ask 122 .gtr (.lit 0) (.var 12) (.leaf 50 ut) (.ask 0 .lss (.lit 1048576) (.var 12) (ce 162 0 2 wd wd) (.ask 18 .geq (.lit 0) (.var 12) (.leaf 32 ut) (ce 144 0 2 wd wd))))
def Jx:List AV:=[vM,rN,.str 4 1684104562,.agg (uS 0),.nils,.agg (uS 10),.agg [vI 12,I 9]]
theorem agK:be 156 Zm Jx:=bi
end Ln
