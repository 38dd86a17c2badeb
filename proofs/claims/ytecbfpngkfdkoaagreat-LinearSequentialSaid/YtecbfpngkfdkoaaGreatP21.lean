/- A part of the proof. No condition. -/
import Derived.Test.YtecbfpngkfdkoaaGreatP12
import Derived.KernelRfl
namespace Ln
open Go.Sx Go Go.Proofs
def ag5:aI:=d6 12 6 3 (f7 68 0) io
def ahB:aI:=d6 12 6 3 (f7 38 1) io
def aex:aI:=d4 76 6 0 (d6 16 6 3 (f7 68 0) io) (d4 4 6 1 (d4 4 7 0 ag5 (d4 0 7 1 ag5 ahB)) (d4 4 6 2 (d4 4 7 0 ag5 ahB) (d4 4 6 3 (d4 4 7 0 (d6 26 6 3 io (f7 38 1)) (d6 12 6 3 io (f7 38 1))) (d6 18 6 3 (f7 38 1) io))))
def aha:aI:=d6 12 4 3 (f7 68 0) io
def agZ:aI:=d6 12 4 3 (f7 38 1) io
def agY:aI:=d4 4 4 3 (d4 4 5 0 (d6 26 4 3 io (f7 38 1)) (d6 12 4 3 io (f7 38 1))) (d6 18 4 3 (f7 38 1) io)
def aeC:aI:=d4 76 4 0 (d6 16 4 3 (f7 68 0) io) (d4 4 4 1 (d4 4 5 0 aha (d4 0 5 1 aha agZ)) (d4 4 4 2 (d4 4 5 0 aha agZ) agY))
def ahz:aI:=d6 12 4 3 aex io
def aeF:aI:=d4 76 4 0 (d6 16 4 3 aex io) (d4 4 4 1 (d4 4 5 0 ahz (d4 0 5 1 ahz agZ)) (d4 4 4 2 (d4 4 5 0 ahz agZ) agY))
def aeK:aI:=d4 4 0 3 (d4 4 1 0 (d6 26 0 3 io (f7 31 1)) (d6 12 0 3 io (f7 31 1))) (d6 18 0 3 (f7 31 1) io)
def agT:aI:=d6 12 0 3 (f7 31 1) io
def agU:aI:=d4 4 2 3 (d4 4 3 0 (d6 26 2 3 io (f7 38 1)) (d6 12 2 3 io (f7 38 1))) (d6 18 2 3 (f7 38 1) io)
def agX:aI:=d6 12 2 3 (f7 38 1) io
def ag0:aI:=d4 4 1 0 agT (d4 0 1 1 agT agT)
def ag1:aI:=d6 12 0 3 (f7 50 0) io
def ag2:aI:=d6 16 0 3 (f7 31 1) io
def ag4:aI:=d6 12 2 3 (f7 68 0) io
def ahi:aI:=d6 12 2 3 aeC io
def ahy:aI:=d6 12 2 3 aeF io
def aiv:aI:=(d4 46 0 0 (d6 16 0 3 (f7 50 0) io) (d4 4 0 1 (d4 4 1 0 ag1 (d4 0 1 1 ag1 agT)) (d4 4 0 2 (d4 4 1 0 ag1 agT) aeK)))
theorem akn:bi 159 aiv [.agg (uS 0)]:=co
def aiw:aI:=(d4 46 0 0 ag2 (d4 4 0 1 ag0 (d4 4 0 2 (d4 4 1 0 (d6 12 0 3 (d4 58 2 0 (d6 16 2 3 (f7 68 0) io) (d4 4 2 1 (d4 4 3 0 ag4 (d4 0 3 1 ag4 agX)) (d4 4 2 2 (d4 4 3 0 ag4 agX) agU))) io) agT) aeK)))
theorem ako:bi 159 aiw [.agg [vI 0,vI 1,.str 0 0,.sl (uS 2) 1 4 .any]]:=co
def aix:aI:=(d4 46 0 0 ag2 (d4 4 0 1 ag0 (d4 4 0 2 (d4 4 1 0 (d6 12 0 3 (d4 58 2 0 (d6 16 2 3 aeC io) (d4 4 2 1 (d4 4 3 0 ahi (d4 0 3 1 ahi agX)) (d4 4 2 2 (d4 4 3 0 ahi agX) agU))) io) agT) aeK)))
theorem akp:bi 159 aix [.agg [vI 0,vI 1,.str 0 0,.sl (uS 2++uS 4) 2 4 .any]]:=co
def aiy:aI:=(d4 46 0 0 ag2 (d4 4 0 1 ag0 (d4 4 0 2 (d4 4 1 0 (d6 12 0 3 (d4 58 2 0 (d6 16 2 3 aeF io) (d4 4 2 1 (d4 4 3 0 ahy (d4 0 3 1 ahy agX)) (d4 4 2 2 (d4 4 3 0 ahy agX) agU))) io) agT) aeK)))
theorem akq:bi 159 aiy [.agg [vI 0,vI 1,.str 0 0,.sl (uS 2++uS 4++uS 6) 3 4 .any]]:=co
end Ln
