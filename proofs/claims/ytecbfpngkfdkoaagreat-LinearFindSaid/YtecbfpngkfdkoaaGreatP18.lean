/- A part of the proof. No condition. -/
import Derived.Test.YtecbfpngkfdkoaaGreatP12
import Derived.KernelRfl
namespace Ln
open Go.Sx Go Go.Proofs
def aeL:aO:=co 12 6 3 (d9 68 0) f8
def ae7:aO:=co 12 6 3 (d9 38 1) f8
def aeo:aO:=bv 76 6 0 (co 16 6 3 (d9 68 0) f8) (bv 4 6 1 (bv 4 7 0 aeL (bv 0 7 1 aeL ae7)) (bv 4 6 2 (bv 4 7 0 aeL ae7) (bv 4 6 3 (bv 4 7 0 (co 26 6 3 f8 (d9 38 1)) (co 12 6 3 f8 (d9 38 1))) (co 18 6 3 (d9 38 1) f8))))
def aeP:aO:=co 12 4 3 (d9 68 0) f8
def aew:aO:=co 12 4 3 (d9 38 1) f8
def aev:aO:=bv 4 4 3 (bv 4 5 0 (co 26 4 3 f8 (d9 38 1)) (co 12 4 3 f8 (d9 38 1))) (co 18 4 3 (d9 38 1) f8)
def aep:aO:=bv 76 4 0 (co 16 4 3 (d9 68 0) f8) (bv 4 4 1 (bv 4 5 0 aeP (bv 0 5 1 aeP aew)) (bv 4 4 2 (bv 4 5 0 aeP aew) aev))
def ae6:aO:=co 12 4 3 aeo f8
def aeq:aO:=bv 76 4 0 (co 16 4 3 aeo f8) (bv 4 4 1 (bv 4 5 0 ae6 (bv 0 5 1 ae6 aew)) (bv 4 4 2 (bv 4 5 0 ae6 aew) aev))
def aer:aO:=bv 4 0 3 (bv 4 1 0 (co 26 0 3 f8 (d9 31 1)) (co 12 0 3 f8 (d9 31 1))) (co 18 0 3 (d9 31 1) f8)
def aes:aO:=co 12 0 3 (d9 31 1) f8
def aet:aO:=bv 4 2 3 (bv 4 3 0 (co 26 2 3 f8 (d9 38 1)) (co 12 2 3 f8 (d9 38 1))) (co 18 2 3 (d9 38 1) f8)
def aeu:aO:=co 12 2 3 (d9 38 1) f8
def aex:aO:=bv 4 1 0 aes (bv 0 1 1 aes aes)
def aeA:aO:=co 12 0 3 (d9 50 0) f8
def aeF:aO:=co 16 0 3 (d9 31 1) f8
def aeK:aO:=co 12 2 3 (d9 68 0) f8
def aeU:aO:=co 12 2 3 aep f8
def ae0:aO:=co 12 2 3 aeq f8
def ajk:aO:=(bv 46 0 0 (co 16 0 3 (d9 50 0) f8) (bv 4 0 1 (bv 4 1 0 aeA (bv 0 1 1 aeA aes)) (bv 4 0 2 (bv 4 1 0 aeA aes) aer)))
theorem ale:an 159 ajk [.agg (uS 0)]:=be
def ajl:aO:=(bv 46 0 0 aeF (bv 4 0 1 aex (bv 4 0 2 (bv 4 1 0 (co 12 0 3 (bv 58 2 0 (co 16 2 3 (d9 68 0) f8) (bv 4 2 1 (bv 4 3 0 aeK (bv 0 3 1 aeK aeu)) (bv 4 2 2 (bv 4 3 0 aeK aeu) aet))) f8) aes) aer)))
theorem alf:an 159 ajl [.agg [vI 0,vI 1,.str 0 0,.sl (uS 2) 1 4 .any]]:=be
def ajm:aO:=(bv 46 0 0 aeF (bv 4 0 1 aex (bv 4 0 2 (bv 4 1 0 (co 12 0 3 (bv 58 2 0 (co 16 2 3 aep f8) (bv 4 2 1 (bv 4 3 0 aeU (bv 0 3 1 aeU aeu)) (bv 4 2 2 (bv 4 3 0 aeU aeu) aet))) f8) aes) aer)))
theorem alg:an 159 ajm [.agg [vI 0,vI 1,.str 0 0,.sl (uS 2++uS 4) 2 4 .any]]:=be
def ajn:aO:=(bv 46 0 0 aeF (bv 4 0 1 aex (bv 4 0 2 (bv 4 1 0 (co 12 0 3 (bv 58 2 0 (co 16 2 3 aeq f8) (bv 4 2 1 (bv 4 3 0 ae0 (bv 0 3 1 ae0 aeu)) (bv 4 2 2 (bv 4 3 0 ae0 aeu) aet))) f8) aes) aer)))
theorem alh:an 159 ajn [.agg [vI 0,vI 1,.str 0 0,.sl (uS 2++uS 4++uS 6) 3 4 .any]]:=be
end Ln
