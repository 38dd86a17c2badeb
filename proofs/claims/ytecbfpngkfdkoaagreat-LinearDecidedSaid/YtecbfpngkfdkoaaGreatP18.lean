/- A part of the proof. No condition. -/
import Derived.Test.YtecbfpngkfdkoaaGreatP12
import Derived.KernelRfl
namespace Ln
open Go.Sx Go Go.Proofs
def agu:aP:=d4 12 6 3 (d9 68 0) gc
def agB:aP:=d4 12 6 3 (d9 38 1) gc
def ado:aP:=ce 76 6 0 (d4 16 6 3 (d9 68 0) gc) (ce 4 6 1 (ce 4 7 0 agu (ce 0 7 1 agu agB)) (ce 4 6 2 (ce 4 7 0 agu agB) (ce 4 6 3 (ce 4 7 0 (d4 26 6 3 gc (d9 38 1)) (d4 12 6 3 gc (d9 38 1))) (d4 18 6 3 (d9 38 1) gc))))
def agv:aP:=d4 12 4 3 (d9 68 0) gc
def ad3:aP:=d4 12 4 3 (d9 38 1) gc
def ad2:aP:=ce 4 4 3 (ce 4 5 0 (d4 26 4 3 gc (d9 38 1)) (d4 12 4 3 gc (d9 38 1))) (d4 18 4 3 (d9 38 1) gc)
def adp:aP:=ce 76 4 0 (d4 16 4 3 (d9 68 0) gc) (ce 4 4 1 (ce 4 5 0 agv (ce 0 5 1 agv ad3)) (ce 4 4 2 (ce 4 5 0 agv ad3) ad2))
def agA:aP:=d4 12 4 3 ado gc
def ads:aP:=ce 76 4 0 (d4 16 4 3 ado gc) (ce 4 4 1 (ce 4 5 0 agA (ce 0 5 1 agA ad3)) (ce 4 4 2 (ce 4 5 0 agA ad3) ad2))
def adt:aP:=ce 4 0 3 (ce 4 1 0 (d4 26 0 3 gc (d9 31 1)) (d4 12 0 3 gc (d9 31 1))) (d4 18 0 3 (d9 31 1) gc)
def adA:aP:=d4 12 0 3 (d9 31 1) gc
def adP:aP:=ce 4 2 3 (ce 4 3 0 (d4 26 2 3 gc (d9 38 1)) (d4 12 2 3 gc (d9 38 1))) (d4 18 2 3 (d9 38 1) gc)
def adU:aP:=d4 12 2 3 (d9 38 1) gc
def ad5:aP:=ce 4 1 0 adA (ce 0 1 1 adA adA)
def aeh:aP:=d4 12 0 3 (d9 50 0) gc
def aek:aP:=d4 16 0 3 (d9 31 1) gc
def agj:aP:=d4 12 2 3 (d9 68 0) gc
def agx:aP:=d4 12 2 3 adp gc
def agz:aP:=d4 12 2 3 ads gc
def ahZ:aP:=(ce 46 0 0 (d4 16 0 3 (d9 50 0) gc) (ce 4 0 1 (ce 4 1 0 aeh (ce 0 1 1 aeh adA)) (ce 4 0 2 (ce 4 1 0 aeh adA) adt)))
theorem ajR:be 159 ahZ [.agg (uS 0)]:=bi
def ah0:aP:=(ce 46 0 0 aek (ce 4 0 1 ad5 (ce 4 0 2 (ce 4 1 0 (d4 12 0 3 (ce 58 2 0 (d4 16 2 3 (d9 68 0) gc) (ce 4 2 1 (ce 4 3 0 agj (ce 0 3 1 agj adU)) (ce 4 2 2 (ce 4 3 0 agj adU) adP))) gc) adA) adt)))
theorem ajS:be 159 ah0 [.agg [vI 0,vI 1,.str 0 0,.sl (uS 2) 1 4 .any]]:=bi
def ah1:aP:=(ce 46 0 0 aek (ce 4 0 1 ad5 (ce 4 0 2 (ce 4 1 0 (d4 12 0 3 (ce 58 2 0 (d4 16 2 3 adp gc) (ce 4 2 1 (ce 4 3 0 agx (ce 0 3 1 agx adU)) (ce 4 2 2 (ce 4 3 0 agx adU) adP))) gc) adA) adt)))
theorem ajT:be 159 ah1 [.agg [vI 0,vI 1,.str 0 0,.sl (uS 2++uS 4) 2 4 .any]]:=bi
def ah2:aP:=(ce 46 0 0 aek (ce 4 0 1 ad5 (ce 4 0 2 (ce 4 1 0 (d4 12 0 3 (ce 58 2 0 (d4 16 2 3 ads gc) (ce 4 2 1 (ce 4 3 0 agz (ce 0 3 1 agz adU)) (ce 4 2 2 (ce 4 3 0 agz adU) adP))) gc) adA) adt)))
theorem ajU:be 159 ah2 [.agg [vI 0,vI 1,.str 0 0,.sl (uS 2++uS 4++uS 6) 3 4 .any]]:=bi
end Ln
