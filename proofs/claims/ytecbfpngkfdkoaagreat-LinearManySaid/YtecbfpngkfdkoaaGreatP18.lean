/- A part of the proof. No condition. -/
import Derived.Test.YtecbfpngkfdkoaaGreatP12
import Derived.KernelRfl
namespace Ln
open Go.Sx Go Go.Proofs
def acG:aV:=d3 12 6 3 (d8 68 0) f7
def acQ:aV:=d3 12 6 3 (d8 38 1) f7
def acj:aV:=ce 76 6 0 (d3 16 6 3 (d8 68 0) f7) (ce 4 6 1 (ce 4 7 0 acG (ce 0 7 1 acG acQ)) (ce 4 6 2 (ce 4 7 0 acG acQ) (ce 4 6 3 (ce 4 7 0 (d3 26 6 3 f7 (d8 38 1)) (d3 12 6 3 f7 (d8 38 1))) (d3 18 6 3 (d8 38 1) f7))))
def acL:aV:=d3 12 4 3 (d8 68 0) f7
def act:aV:=d3 12 4 3 (d8 38 1) f7
def acs:aV:=ce 4 4 3 (ce 4 5 0 (d3 26 4 3 f7 (d8 38 1)) (d3 12 4 3 f7 (d8 38 1))) (d3 18 4 3 (d8 38 1) f7)
def ack:aV:=ce 76 4 0 (d3 16 4 3 (d8 68 0) f7) (ce 4 4 1 (ce 4 5 0 acL (ce 0 5 1 acL act)) (ce 4 4 2 (ce 4 5 0 acL act) acs))
def acP:aV:=d3 12 4 3 acj f7
def acl:aV:=ce 76 4 0 (d3 16 4 3 acj f7) (ce 4 4 1 (ce 4 5 0 acP (ce 0 5 1 acP act)) (ce 4 4 2 (ce 4 5 0 acP act) acs))
def acn:aV:=ce 4 0 3 (ce 4 1 0 (d3 26 0 3 f7 (d8 31 1)) (d3 12 0 3 f7 (d8 31 1))) (d3 18 0 3 (d8 31 1) f7)
def aco:aV:=d3 12 0 3 (d8 31 1) f7
def acp:aV:=ce 4 2 3 (ce 4 3 0 (d3 26 2 3 f7 (d8 38 1)) (d3 12 2 3 f7 (d8 38 1))) (d3 18 2 3 (d8 38 1) f7)
def acq:aV:=d3 12 2 3 (d8 38 1) f7
def acv:aV:=ce 4 1 0 aco (ce 0 1 1 aco aco)
def acy:aV:=d3 12 0 3 (d8 50 0) f7
def acA:aV:=d3 16 0 3 (d8 31 1) f7
def acB:aV:=d3 12 2 3 (d8 68 0) f7
def acM:aV:=d3 12 2 3 ack f7
def acN:aV:=d3 12 2 3 acl f7
def ad0:aV:=(ce 46 0 0 (d3 16 0 3 (d8 50 0) f7) (ce 4 0 1 (ce 4 1 0 acy (ce 0 1 1 acy aco)) (ce 4 0 2 (ce 4 1 0 acy aco) acn)))
theorem afF:be 159 ad0 [.agg (uS 0)]:=bi
def ad1:aV:=(ce 46 0 0 acA (ce 4 0 1 acv (ce 4 0 2 (ce 4 1 0 (d3 12 0 3 (ce 58 2 0 (d3 16 2 3 (d8 68 0) f7) (ce 4 2 1 (ce 4 3 0 acB (ce 0 3 1 acB acq)) (ce 4 2 2 (ce 4 3 0 acB acq) acp))) f7) aco) acn)))
theorem afG:be 159 ad1 [.agg [vI 0,vI 1,.str 0 0,.sl (uS 2) 1 4 .any]]:=bi
def ad2:aV:=(ce 46 0 0 acA (ce 4 0 1 acv (ce 4 0 2 (ce 4 1 0 (d3 12 0 3 (ce 58 2 0 (d3 16 2 3 ack f7) (ce 4 2 1 (ce 4 3 0 acM (ce 0 3 1 acM acq)) (ce 4 2 2 (ce 4 3 0 acM acq) acp))) f7) aco) acn)))
theorem afH:be 159 ad2 [.agg [vI 0,vI 1,.str 0 0,.sl (uS 2++uS 4) 2 4 .any]]:=bi
def ad3:aV:=(ce 46 0 0 acA (ce 4 0 1 acv (ce 4 0 2 (ce 4 1 0 (d3 12 0 3 (ce 58 2 0 (d3 16 2 3 acl f7) (ce 4 2 1 (ce 4 3 0 acN (ce 0 3 1 acN acq)) (ce 4 2 2 (ce 4 3 0 acN acq) acp))) f7) aco) acn)))
theorem afI:be 159 ad3 [.agg [vI 0,vI 1,.str 0 0,.sl (uS 2++uS 4++uS 6) 3 4 .any]]:=bi
end Ln
