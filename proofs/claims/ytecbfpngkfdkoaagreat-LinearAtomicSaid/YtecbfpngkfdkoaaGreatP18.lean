/- A part of the proof. No condition. -/
import Derived.Test.YtecbfpngkfdkoaaGreatP12
import Derived.KernelRfl
namespace Ln
open Go.Sx Go Go.Proofs
def agV:aL:=d8 12 6 3 (f8 68 0) ip
def ag2:aL:=d8 12 6 3 (f8 38 1) ip
def adJ:aL:=d5 76 6 0 (d8 16 6 3 (f8 68 0) ip) (d5 4 6 1 (d5 4 7 0 agV (d5 0 7 1 agV ag2)) (d5 4 6 2 (d5 4 7 0 agV ag2) (d5 4 6 3 (d5 4 7 0 (d8 26 6 3 ip (f8 38 1)) (d8 12 6 3 ip (f8 38 1))) (d8 18 6 3 (f8 38 1) ip))))
def agX:aL:=d8 12 4 3 (f8 68 0) ip
def aev:aL:=d8 12 4 3 (f8 38 1) ip
def aeu:aL:=d5 4 4 3 (d5 4 5 0 (d8 26 4 3 ip (f8 38 1)) (d8 12 4 3 ip (f8 38 1))) (d8 18 4 3 (f8 38 1) ip)
def adN:aL:=d5 76 4 0 (d8 16 4 3 (f8 68 0) ip) (d5 4 4 1 (d5 4 5 0 agX (d5 0 5 1 agX aev)) (d5 4 4 2 (d5 4 5 0 agX aev) aeu))
def ag1:aL:=d8 12 4 3 adJ ip
def adU:aL:=d5 76 4 0 (d8 16 4 3 adJ ip) (d5 4 4 1 (d5 4 5 0 ag1 (d5 0 5 1 ag1 aev)) (d5 4 4 2 (d5 4 5 0 ag1 aev) aeu))
def ad9:aL:=d5 4 0 3 (d5 4 1 0 (d8 26 0 3 ip (f8 31 1)) (d8 12 0 3 ip (f8 31 1))) (d8 18 0 3 (f8 31 1) ip)
def aen:aL:=d8 12 0 3 (f8 31 1) ip
def aeq:aL:=d5 4 2 3 (d5 4 3 0 (d8 26 2 3 ip (f8 38 1)) (d8 12 2 3 ip (f8 38 1))) (d8 18 2 3 (f8 38 1) ip)
def aet:aL:=d8 12 2 3 (f8 38 1) ip
def aeA:aL:=d5 4 1 0 aen (d5 0 1 1 aen aen)
def aeF:aL:=d8 12 0 3 (f8 50 0) ip
def aeJ:aL:=d8 16 0 3 (f8 31 1) ip
def agU:aL:=d8 12 2 3 (f8 68 0) ip
def agZ:aL:=d8 12 2 3 adN ip
def ag0:aL:=d8 12 2 3 adU ip
def aip:aL:=(d5 46 0 0 (d8 16 0 3 (f8 50 0) ip) (d5 4 0 1 (d5 4 1 0 aeF (d5 0 1 1 aeF aen)) (d5 4 0 2 (d5 4 1 0 aeF aen) ad9)))
theorem akm:bi 159 aip [.agg (uS 0)]:=bv
def aiq:aL:=(d5 46 0 0 aeJ (d5 4 0 1 aeA (d5 4 0 2 (d5 4 1 0 (d8 12 0 3 (d5 58 2 0 (d8 16 2 3 (f8 68 0) ip) (d5 4 2 1 (d5 4 3 0 agU (d5 0 3 1 agU aet)) (d5 4 2 2 (d5 4 3 0 agU aet) aeq))) ip) aen) ad9)))
theorem akn:bi 159 aiq [.agg [vI 0,vI 1,.str 0 0,.sl (uS 2) 1 4 .any]]:=bv
def air:aL:=(d5 46 0 0 aeJ (d5 4 0 1 aeA (d5 4 0 2 (d5 4 1 0 (d8 12 0 3 (d5 58 2 0 (d8 16 2 3 adN ip) (d5 4 2 1 (d5 4 3 0 agZ (d5 0 3 1 agZ aet)) (d5 4 2 2 (d5 4 3 0 agZ aet) aeq))) ip) aen) ad9)))
theorem ako:bi 159 air [.agg [vI 0,vI 1,.str 0 0,.sl (uS 2++uS 4) 2 4 .any]]:=bv
def ais:aL:=(d5 46 0 0 aeJ (d5 4 0 1 aeA (d5 4 0 2 (d5 4 1 0 (d8 12 0 3 (d5 58 2 0 (d8 16 2 3 adU ip) (d5 4 2 1 (d5 4 3 0 ag0 (d5 0 3 1 ag0 aet)) (d5 4 2 2 (d5 4 3 0 ag0 aet) aeq))) ip) aen) ad9)))
theorem akp:bi 159 ais [.agg [vI 0,vI 1,.str 0 0,.sl (uS 2++uS 4++uS 6) 3 4 .any]]:=bv
end Ln
