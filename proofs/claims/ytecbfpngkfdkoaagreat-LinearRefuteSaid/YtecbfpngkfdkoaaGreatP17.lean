/- A part of the proof. No condition. -/
import Derived.Test.YtecbfpngkfdkoaaGreatP13
import Derived.KernelRfl
set_option linter.unusedSimpArgs false
set_option linter.unusedVariables false
set_option linter.unusedSectionVars false
namespace Ln
open Go.Sx Go Go.Proofs
def auk:aB:=(lBq 46 0 0 (lDq 16 0 3 (lHq 50 0) lNq) (lBq 4 0 1 (lBq 4 1 0 (lDq 12 0 3 (lHq 50 0) lNq) (lBq 0 1 1 (lDq 12 0 3 (lHq 50 0) lNq) (lDq 12 0 3 (lHq 31 1) lNq))) (lBq 4 0 2 (lBq 4 1 0 (lDq 12 0 3 (lHq 50 0) lNq) (lDq 12 0 3 (lHq 31 1) lNq)) (lBq 4 0 3 (lBq 4 1 0 (lDq 26 0 3 lNq (lHq 31 1)) (lDq 12 0 3 lNq (lHq 31 1))) (lDq 18 0 3 (lHq 31 1) lNq)))))
def aix:List AV:=[(.agg (uS 0))]
theorem aul:aB.cz (CF aE) 159 auk ⟨ae 159 (fx 159) aix,[],.nil,aQ⟩ [] []=true:=by kernel_rfl
def aum:aB:=(lBq 29 0 0 (lBq 6 0 1 lNq (lBq 6 0 2 lNq (lBq 6 0 3 lNq (lFq 6 0 0 lNq (lGq 0 0 3 lNq (lHq 92 0)))))) (lBq 6 0 1 (lFq 0 1 0 (lHq 18 1) (lGq 0 1 1 (lHq 18 1) (lBq 6 0 2 lNq (lBq 6 0 3 lNq (lFq 6 0 0 lNq (lGq 0 0 3 lNq (lHq 92 0))))))) (lBq 6 0 2 (lDq 0 1 0 (lHq 18 1) (lBq 6 0 3 lNq (lFq 6 0 0 lNq (lGq 0 0 3 lNq (lHq 92 0))))) (lBq 6 0 3 (lHq 18 1) (lFq 6 0 0 (lHq 18 1) (lGq 0 0 3 (lHq 18 1) (lHq 92 0)))))))
def aiy:List AV:=[(.agg (uS 0))]
theorem aun:aB.cz (CF aE) 96 aum ⟨ae 96 (fx 96) aiy,[],.nil,aQ⟩ [] []=true:=by kernel_rfl
def auo:aB:=(.leaf 25 (.agg (uS 0)))
def aup:List AV:=[(.agg (uS 0))]
theorem auq:aB.cz (CF aE) 62 auo ⟨ae 62 (fx 62) aup,[],.nil,aQ⟩ [] []=true:=by kernel_rfl
def aur:aB:=(.leaf 84 (.agg [(vI 0),(vI 1),(.str 0 0),(.sl (uS 2) 1 4 .any)]))
def aus:List AV:=[(.agg [(vI 0),(vI 1),(.str 0 0),(.sl (uS 2) 1 4 .any)])]
theorem aut:aB.cz (CF aE) 62 aur ⟨ae 62 (fx 62) aus,[],.nil,aQ⟩ [] []=true:=by kernel_rfl
def auu:aB:=(.leaf 127 (.agg [(vI 0),(vI 1),(.str 0 0),(.sl (uS 2++uS 4) 2 4 .any)]))
def auv:List AV:=[(.agg [(vI 0),(vI 1),(.str 0 0),(.sl (uS 2++uS 4) 2 4 .any)])]
theorem auw:aB.cz (CF aE) 62 auu ⟨ae 62 (fx 62) auv,[],.nil,aQ⟩ [] []=true:=by kernel_rfl
def auy:aB:=(.leaf 170 (.agg [(vI 0),(vI 1),(.str 0 0),(.sl (uS 2++uS 4++uS 6) 3 4 .any)]))
def auz:List AV:=[(.agg [(vI 0),(vI 1),(.str 0 0),(.sl (uS 2++uS 4++uS 6) 3 4 .any)])]
theorem auA:aB.cz (CF aE) 62 auy ⟨ae 62 (fx 62) auz,[],.nil,aQ⟩ [] []=true:=by kernel_rfl
def Oa:aB:=(lAq 49 0 8 (lHq 17 (-1)) (lEq 6 0 8 (lHq 17 1) (lAq 60 1 9 (lHq 17 (-1)) (lEq 6 1 9 (lHq 17 1) (lHq 112 0)))))
def ak3:List AV:=[(.agg (uS 0)),(.agg (uS 8))]
theorem ak4:aB.cz (CF aE) 139 Oa ⟨ae 139 (fx 139) ak3,[],.nil,aQ⟩ [] []=true:=by kernel_rfl
def Ob:aB:=(lCq 6 0 8 (lAq 4 0 8 (lHq 17 (-1)) (lHq 18 1)) (lCq 6 1 9 (lAq 4 1 9 (lHq 17 (-1)) (lHq 18 1)) (lHq 31 0)))
def ak5:List AV:=[(.agg (uS 0)),(.agg (uS 8))]
theorem ak6:aB.cz (CF aE) 145 Ob ⟨ae 145 (fx 145) ak5,[],.nil,aQ⟩ [] []=true:=by kernel_rfl
def Oc:aB:=(lCq 12 0 8 (lAq 4 0 8 (lKq 20 false) (lKq 21 false)) (lCq 6 1 9 (lAq 4 1 9 (lKq 20 false) (lKq 21 false)) (lKq 34 true)))
def ak7:List AV:=[(.agg (uS 0)),(.agg (uS 8))]
theorem ak8:aB.cz (CF aE) 141 Oc ⟨ae 141 (fx 141) ak7,[],.nil,aQ⟩ [] []=true:=by kernel_rfl
def aiz:aB:=(lAq 49 0 8 (lHq 17 (-1)) (lEq 6 0 8 (lHq 17 1) (lAq 60 1 9 (lHq 17 (-1)) (lEq 6 1 9 (lHq 17 1) (lHq 111 (-1))))))
def ak9:List AV:=[(.agg (uS 0)),(.agg [(vI 8),(vI 9),(.str 0 0),(.sl (uS 10) 1 4 .any)])]
theorem ala:aB.cz (CF aE) 139 aiz ⟨ae 139 (fx 139) ak9,[],.nil,aQ⟩ [] []=true:=by kernel_rfl
def aiA:aB:=(lCq 6 0 8 (lAq 4 0 8 (lHq 17 (-1)) (lHq 18 1)) (lCq 6 1 9 (lAq 4 1 9 (lHq 17 (-1)) (lHq 18 1)) (lHq 46 (-1))))
def alb:List AV:=[(.agg (uS 0)),(.agg [(vI 8),(vI 9),(.str 0 0),(.sl (uS 10) 1 4 .any)])]
theorem alc:aB.cz (CF aE) 145 aiA ⟨ae 145 (fx 145) alb,[],.nil,aQ⟩ [] []=true:=by kernel_rfl
def aiB:aB:=(lCq 12 0 8 (lAq 4 0 8 (lKq 20 false) (lKq 21 false)) (lCq 6 1 9 (lAq 4 1 9 (lKq 20 false) (lKq 21 false)) (lKq 49 false)))
def ald:List AV:=[(.agg (uS 0)),(.agg [(vI 8),(vI 9),(.str 0 0),(.sl (uS 10) 1 4 .any)])]
theorem ale:aB.cz (CF aE) 141 aiB ⟨ae 141 (fx 141) ald,[],.nil,aQ⟩ [] []=true:=by kernel_rfl
def aiC:aB:=(lAq 49 0 8 (lHq 17 (-1)) (lEq 6 0 8 (lHq 17 1) (lAq 60 1 9 (lHq 17 (-1)) (lEq 6 1 9 (lHq 17 1) (lHq 111 (-1))))))
def alf:List AV:=[(.agg (uS 0)),(.agg [(vI 8),(vI 9),(.str 0 0),(.sl (uS 10++uS 12) 2 4 .any)])]
theorem alg:aB.cz (CF aE) 139 aiC ⟨ae 139 (fx 139) alf,[],.nil,aQ⟩ [] []=true:=by kernel_rfl
def aiD:aB:=(lCq 6 0 8 (lAq 4 0 8 (lHq 17 (-1)) (lHq 18 1)) (lCq 6 1 9 (lAq 4 1 9 (lHq 17 (-1)) (lHq 18 1)) (lHq 46 (-1))))
def alh:List AV:=[(.agg (uS 0)),(.agg [(vI 8),(vI 9),(.str 0 0),(.sl (uS 10++uS 12) 2 4 .any)])]
theorem ali:aB.cz (CF aE) 145 aiD ⟨ae 145 (fx 145) alh,[],.nil,aQ⟩ [] []=true:=by kernel_rfl
def aiE:aB:=(lCq 12 0 8 (lAq 4 0 8 (lKq 20 false) (lKq 21 false)) (lCq 6 1 9 (lAq 4 1 9 (lKq 20 false) (lKq 21 false)) (lKq 49 false)))
def alj:List AV:=[(.agg (uS 0)),(.agg [(vI 8),(vI 9),(.str 0 0),(.sl (uS 10++uS 12) 2 4 .any)])]
theorem alk:aB.cz (CF aE) 141 aiE ⟨ae 141 (fx 141) alj,[],.nil,aQ⟩ [] []=true:=by kernel_rfl
def aiF:aB:=(lAq 49 0 8 (lHq 17 (-1)) (lEq 6 0 8 (lHq 17 1) (lAq 60 1 9 (lHq 17 (-1)) (lEq 6 1 9 (lHq 17 1) (lHq 111 (-1))))))
def alm:List AV:=[(.agg (uS 0)),(.agg [(vI 8),(vI 9),(.str 0 0),(.sl (uS 10++uS 12++uS 14) 3 4 .any)])]
theorem aln:aB.cz (CF aE) 139 aiF ⟨ae 139 (fx 139) alm,[],.nil,aQ⟩ [] []=true:=by kernel_rfl
def aiG:aB:=(lCq 6 0 8 (lAq 4 0 8 (lHq 17 (-1)) (lHq 18 1)) (lCq 6 1 9 (lAq 4 1 9 (lHq 17 (-1)) (lHq 18 1)) (lHq 46 (-1))))
def alo:List AV:=[(.agg (uS 0)),(.agg [(vI 8),(vI 9),(.str 0 0),(.sl (uS 10++uS 12++uS 14) 3 4 .any)])]
theorem alp:aB.cz (CF aE) 145 aiG ⟨ae 145 (fx 145) alo,[],.nil,aQ⟩ [] []=true:=by kernel_rfl
def aiH:aB:=(lCq 12 0 8 (lAq 4 0 8 (lKq 20 false) (lKq 21 false)) (lCq 6 1 9 (lAq 4 1 9 (lKq 20 false) (lKq 21 false)) (lKq 49 false)))
def alq:List AV:=[(.agg (uS 0)),(.agg [(vI 8),(vI 9),(.str 0 0),(.sl (uS 10++uS 12++uS 14) 3 4 .any)])]
theorem alr:aB.cz (CF aE) 141 aiH ⟨ae 141 (fx 141) alq,[],.nil,aQ⟩ [] []=true:=by kernel_rfl
def aiI:aB:=(lAq 49 0 8 (lHq 17 (-1)) (lEq 6 0 8 (lHq 17 1) (lAq 60 1 9 (lHq 17 (-1)) (lEq 6 1 9 (lHq 17 1) (lHq 116 1)))))
def als:List AV:=[(.agg [(vI 0),(vI 1),(.str 0 0),(.sl (uS 2) 1 4 .any)]),(.agg (uS 8))]
theorem alu:aB.cz (CF aE) 139 aiI ⟨ae 139 (fx 139) als,[],.nil,aQ⟩ [] []=true:=by kernel_rfl
def aiJ:aB:=(lCq 6 0 8 (lAq 4 0 8 (lHq 17 (-1)) (lHq 18 1)) (lCq 6 1 9 (lAq 4 1 9 (lHq 17 (-1)) (lHq 18 1)) (lHq 47 1)))
def alv:List AV:=[(.agg [(vI 0),(vI 1),(.str 0 0),(.sl (uS 2) 1 4 .any)]),(.agg (uS 8))]
theorem alw:aB.cz (CF aE) 145 aiJ ⟨ae 145 (fx 145) alv,[],.nil,aQ⟩ [] []=true:=by kernel_rfl
def aiK:aB:=(lCq 12 0 8 (lAq 4 0 8 (lKq 20 false) (lKq 21 false)) (lCq 6 1 9 (lAq 4 1 9 (lKq 20 false) (lKq 21 false)) (lKq 50 false)))
def alx:List AV:=[(.agg [(vI 0),(vI 1),(.str 0 0),(.sl (uS 2) 1 4 .any)]),(.agg (uS 8))]
theorem aly:aB.cz (CF aE) 141 aiK ⟨ae 141 (fx 141) alx,[],.nil,aQ⟩ [] []=true:=by kernel_rfl
def aiL:aB:=(lAq 49 0 8 (lHq 17 (-1)) (lEq 6 0 8 (lHq 17 1) (lAq 60 1 9 (lHq 17 (-1)) (lEq 6 1 9 (lHq 17 1) (lAq 164 2 10 (lHq 30 (-1)) (lEq 6 2 10 (lHq 30 1) (lAq 60 3 11 (lHq 30 (-1)) (lEq 6 3 11 (lHq 30 1) (lHq 142 0)))))))))
def alz:List AV:=[(.agg [(vI 0),(vI 1),(.str 0 0),(.sl (uS 2) 1 4 .any)]),(.agg [(vI 8),(vI 9),(.str 0 0),(.sl (uS 10) 1 4 .any)])]
theorem alA:aB.cz (CF aE) 139 aiL ⟨ae 139 (fx 139) alz,[],.nil,aQ⟩ [] []=true:=by kernel_rfl
def aiM:aB:=(lCq 6 0 8 (lAq 4 0 8 (lHq 17 (-1)) (lHq 18 1)) (lCq 6 1 9 (lAq 4 1 9 (lHq 17 (-1)) (lHq 18 1)) (lCq 32 2 10 (lAq 4 2 10 (lHq 27 (-1)) (lHq 28 1)) (lCq 6 3 11 (lAq 4 3 11 (lHq 27 (-1)) (lHq 28 1)) (lHq 57 0)))))
def alB:List AV:=[(.agg [(vI 0),(vI 1),(.str 0 0),(.sl (uS 2) 1 4 .any)]),(.agg [(vI 8),(vI 9),(.str 0 0),(.sl (uS 10) 1 4 .any)])]
theorem alC:aB.cz (CF aE) 145 aiM ⟨ae 145 (fx 145) alB,[],.nil,aQ⟩ [] []=true:=by kernel_rfl
def aiN:aB:=(lCq 12 0 8 (lAq 4 0 8 (lKq 20 false) (lKq 21 false)) (lCq 6 1 9 (lAq 4 1 9 (lKq 20 false) (lKq 21 false)) (lCq 32 2 10 (lAq 4 2 10 (lKq 30 false) (lKq 31 false)) (lCq 6 3 11 (lAq 4 3 11 (lKq 30 false) (lKq 31 false)) (lKq 60 true)))))
def alD:List AV:=[(.agg [(vI 0),(vI 1),(.str 0 0),(.sl (uS 2) 1 4 .any)]),(.agg [(vI 8),(vI 9),(.str 0 0),(.sl (uS 10) 1 4 .any)])]
theorem alE:aB.cz (CF aE) 141 aiN ⟨ae 141 (fx 141) alD,[],.nil,aQ⟩ [] []=true:=by kernel_rfl
def aiO:aB:=(lAq 49 0 8 (lHq 17 (-1)) (lEq 6 0 8 (lHq 17 1) (lAq 60 1 9 (lHq 17 (-1)) (lEq 6 1 9 (lHq 17 1) (lAq 164 2 10 (lHq 30 (-1)) (lEq 6 2 10 (lHq 30 1) (lAq 60 3 11 (lHq 30 (-1)) (lEq 6 3 11 (lHq 30 1) (lHq 141 (-1))))))))))
def alF:List AV:=[(.agg [(vI 0),(vI 1),(.str 0 0),(.sl (uS 2) 1 4 .any)]),(.agg [(vI 8),(vI 9),(.str 0 0),(.sl (uS 10++uS 12) 2 4 .any)])]
theorem alG:aB.cz (CF aE) 139 aiO ⟨ae 139 (fx 139) alF,[],.nil,aQ⟩ [] []=true:=by kernel_rfl
def aiP:aB:=(lCq 6 0 8 (lAq 4 0 8 (lHq 17 (-1)) (lHq 18 1)) (lCq 6 1 9 (lAq 4 1 9 (lHq 17 (-1)) (lHq 18 1)) (lCq 32 2 10 (lAq 4 2 10 (lHq 27 (-1)) (lHq 28 1)) (lCq 6 3 11 (lAq 4 3 11 (lHq 27 (-1)) (lHq 28 1)) (lHq 72 (-1))))))
def alH:List AV:=[(.agg [(vI 0),(vI 1),(.str 0 0),(.sl (uS 2) 1 4 .any)]),(.agg [(vI 8),(vI 9),(.str 0 0),(.sl (uS 10++uS 12) 2 4 .any)])]
theorem alI:aB.cz (CF aE) 145 aiP ⟨ae 145 (fx 145) alH,[],.nil,aQ⟩ [] []=true:=by kernel_rfl
def aiQ:aB:=(lCq 12 0 8 (lAq 4 0 8 (lKq 20 false) (lKq 21 false)) (lCq 6 1 9 (lAq 4 1 9 (lKq 20 false) (lKq 21 false)) (lCq 32 2 10 (lAq 4 2 10 (lKq 30 false) (lKq 31 false)) (lCq 6 3 11 (lAq 4 3 11 (lKq 30 false) (lKq 31 false)) (lKq 75 false)))))
def alJ:List AV:=[(.agg [(vI 0),(vI 1),(.str 0 0),(.sl (uS 2) 1 4 .any)]),(.agg [(vI 8),(vI 9),(.str 0 0),(.sl (uS 10++uS 12) 2 4 .any)])]
theorem alK:aB.cz (CF aE) 141 aiQ ⟨ae 141 (fx 141) alJ,[],.nil,aQ⟩ [] []=true:=by kernel_rfl
def aiR:aB:=(lAq 49 0 8 (lHq 17 (-1)) (lEq 6 0 8 (lHq 17 1) (lAq 60 1 9 (lHq 17 (-1)) (lEq 6 1 9 (lHq 17 1) (lAq 164 2 10 (lHq 30 (-1)) (lEq 6 2 10 (lHq 30 1) (lAq 60 3 11 (lHq 30 (-1)) (lEq 6 3 11 (lHq 30 1) (lHq 141 (-1))))))))))
def alL:List AV:=[(.agg [(vI 0),(vI 1),(.str 0 0),(.sl (uS 2) 1 4 .any)]),(.agg [(vI 8),(vI 9),(.str 0 0),(.sl (uS 10++uS 12++uS 14) 3 4 .any)])]
theorem alM:aB.cz (CF aE) 139 aiR ⟨ae 139 (fx 139) alL,[],.nil,aQ⟩ [] []=true:=by kernel_rfl
def aiS:aB:=(lCq 6 0 8 (lAq 4 0 8 (lHq 17 (-1)) (lHq 18 1)) (lCq 6 1 9 (lAq 4 1 9 (lHq 17 (-1)) (lHq 18 1)) (lCq 32 2 10 (lAq 4 2 10 (lHq 27 (-1)) (lHq 28 1)) (lCq 6 3 11 (lAq 4 3 11 (lHq 27 (-1)) (lHq 28 1)) (lHq 72 (-1))))))
def alN:List AV:=[(.agg [(vI 0),(vI 1),(.str 0 0),(.sl (uS 2) 1 4 .any)]),(.agg [(vI 8),(vI 9),(.str 0 0),(.sl (uS 10++uS 12++uS 14) 3 4 .any)])]
theorem alO:aB.cz (CF aE) 145 aiS ⟨ae 145 (fx 145) alN,[],.nil,aQ⟩ [] []=true:=by kernel_rfl
def aiT:aB:=(lCq 12 0 8 (lAq 4 0 8 (lKq 20 false) (lKq 21 false)) (lCq 6 1 9 (lAq 4 1 9 (lKq 20 false) (lKq 21 false)) (lCq 32 2 10 (lAq 4 2 10 (lKq 30 false) (lKq 31 false)) (lCq 6 3 11 (lAq 4 3 11 (lKq 30 false) (lKq 31 false)) (lKq 75 false)))))
def alP:List AV:=[(.agg [(vI 0),(vI 1),(.str 0 0),(.sl (uS 2) 1 4 .any)]),(.agg [(vI 8),(vI 9),(.str 0 0),(.sl (uS 10++uS 12++uS 14) 3 4 .any)])]
theorem alQ:aB.cz (CF aE) 141 aiT ⟨ae 141 (fx 141) alP,[],.nil,aQ⟩ [] []=true:=by kernel_rfl
def aiU:aB:=(lAq 49 0 8 (lHq 17 (-1)) (lEq 6 0 8 (lHq 17 1) (lAq 60 1 9 (lHq 17 (-1)) (lEq 6 1 9 (lHq 17 1) (lHq 116 1)))))
def alR:List AV:=[(.agg [(vI 0),(vI 1),(.str 0 0),(.sl (uS 2++uS 4) 2 4 .any)]),(.agg (uS 8))]
theorem alS:aB.cz (CF aE) 139 aiU ⟨ae 139 (fx 139) alR,[],.nil,aQ⟩ [] []=true:=by kernel_rfl
def aiV:aB:=(lCq 6 0 8 (lAq 4 0 8 (lHq 17 (-1)) (lHq 18 1)) (lCq 6 1 9 (lAq 4 1 9 (lHq 17 (-1)) (lHq 18 1)) (lHq 47 1)))
def alT:List AV:=[(.agg [(vI 0),(vI 1),(.str 0 0),(.sl (uS 2++uS 4) 2 4 .any)]),(.agg (uS 8))]
theorem alU:aB.cz (CF aE) 145 aiV ⟨ae 145 (fx 145) alT,[],.nil,aQ⟩ [] []=true:=by kernel_rfl
def aiW:aB:=(lCq 12 0 8 (lAq 4 0 8 (lKq 20 false) (lKq 21 false)) (lCq 6 1 9 (lAq 4 1 9 (lKq 20 false) (lKq 21 false)) (lKq 50 false)))
def alV:List AV:=[(.agg [(vI 0),(vI 1),(.str 0 0),(.sl (uS 2++uS 4) 2 4 .any)]),(.agg (uS 8))]
theorem alW:aB.cz (CF aE) 141 aiW ⟨ae 141 (fx 141) alV,[],.nil,aQ⟩ [] []=true:=by kernel_rfl
def aiX:aB:=(lAq 49 0 8 (lHq 17 (-1)) (lEq 6 0 8 (lHq 17 1) (lAq 60 1 9 (lHq 17 (-1)) (lEq 6 1 9 (lHq 17 1) (lAq 164 2 10 (lHq 30 (-1)) (lEq 6 2 10 (lHq 30 1) (lAq 60 3 11 (lHq 30 (-1)) (lEq 6 3 11 (lHq 30 1) (lHq 146 1)))))))))
def alX:List AV:=[(.agg [(vI 0),(vI 1),(.str 0 0),(.sl (uS 2++uS 4) 2 4 .any)]),(.agg [(vI 8),(vI 9),(.str 0 0),(.sl (uS 10) 1 4 .any)])]
theorem alY:aB.cz (CF aE) 139 aiX ⟨ae 139 (fx 139) alX,[],.nil,aQ⟩ [] []=true:=by kernel_rfl
def aiY:aB:=(lCq 6 0 8 (lAq 4 0 8 (lHq 17 (-1)) (lHq 18 1)) (lCq 6 1 9 (lAq 4 1 9 (lHq 17 (-1)) (lHq 18 1)) (lCq 32 2 10 (lAq 4 2 10 (lHq 27 (-1)) (lHq 28 1)) (lCq 6 3 11 (lAq 4 3 11 (lHq 27 (-1)) (lHq 28 1)) (lHq 73 1)))))
def alZ:List AV:=[(.agg [(vI 0),(vI 1),(.str 0 0),(.sl (uS 2++uS 4) 2 4 .any)]),(.agg [(vI 8),(vI 9),(.str 0 0),(.sl (uS 10) 1 4 .any)])]
theorem al0:aB.cz (CF aE) 145 aiY ⟨ae 145 (fx 145) alZ,[],.nil,aQ⟩ [] []=true:=by kernel_rfl
def aiZ:aB:=(lCq 12 0 8 (lAq 4 0 8 (lKq 20 false) (lKq 21 false)) (lCq 6 1 9 (lAq 4 1 9 (lKq 20 false) (lKq 21 false)) (lCq 32 2 10 (lAq 4 2 10 (lKq 30 false) (lKq 31 false)) (lCq 6 3 11 (lAq 4 3 11 (lKq 30 false) (lKq 31 false)) (lKq 76 false)))))
def al1:List AV:=[(.agg [(vI 0),(vI 1),(.str 0 0),(.sl (uS 2++uS 4) 2 4 .any)]),(.agg [(vI 8),(vI 9),(.str 0 0),(.sl (uS 10) 1 4 .any)])]
theorem al2:aB.cz (CF aE) 141 aiZ ⟨ae 141 (fx 141) al1,[],.nil,aQ⟩ [] []=true:=by kernel_rfl
def ai0:aB:=(lAq 49 0 8 (lHq 17 (-1)) (lEq 6 0 8 (lHq 17 1) (lAq 60 1 9 (lHq 17 (-1)) (lEq 6 1 9 (lHq 17 1) (lAq 164 2 10 (lHq 30 (-1)) (lEq 6 2 10 (lHq 30 1) (lAq 60 3 11 (lHq 30 (-1)) (lEq 6 3 11 (lHq 30 1) (lAq 194 4 12 (lHq 30 (-1)) (lEq 6 4 12 (lHq 30 1) (lAq 60 5 13 (lHq 30 (-1)) (lEq 6 5 13 (lHq 30 1) (lHq 142 0)))))))))))))
def al3:List AV:=[(.agg [(vI 0),(vI 1),(.str 0 0),(.sl (uS 2++uS 4) 2 4 .any)]),(.agg [(vI 8),(vI 9),(.str 0 0),(.sl (uS 10++uS 12) 2 4 .any)])]
theorem al4:aB.cz (CF aE) 139 ai0 ⟨ae 139 (fx 139) al3,[],.nil,aQ⟩ [] []=true:=by kernel_rfl
def ai1:aB:=(lCq 6 0 8 (lAq 4 0 8 (lHq 17 (-1)) (lHq 18 1)) (lCq 6 1 9 (lAq 4 1 9 (lHq 17 (-1)) (lHq 18 1)) (lCq 32 2 10 (lAq 4 2 10 (lHq 27 (-1)) (lHq 28 1)) (lCq 6 3 11 (lAq 4 3 11 (lHq 27 (-1)) (lHq 28 1)) (lCq 58 4 12 (lAq 4 4 12 (lHq 27 (-1)) (lHq 28 1)) (lCq 6 5 13 (lAq 4 5 13 (lHq 27 (-1)) (lHq 28 1)) (lHq 57 0)))))))
def al5:List AV:=[(.agg [(vI 0),(vI 1),(.str 0 0),(.sl (uS 2++uS 4) 2 4 .any)]),(.agg [(vI 8),(vI 9),(.str 0 0),(.sl (uS 10++uS 12) 2 4 .any)])]
theorem al6:aB.cz (CF aE) 145 ai1 ⟨ae 145 (fx 145) al5,[],.nil,aQ⟩ [] []=true:=by kernel_rfl
def ai2:aB:=(lCq 12 0 8 (lAq 4 0 8 (lKq 20 false) (lKq 21 false)) (lCq 6 1 9 (lAq 4 1 9 (lKq 20 false) (lKq 21 false)) (lCq 32 2 10 (lAq 4 2 10 (lKq 30 false) (lKq 31 false)) (lCq 6 3 11 (lAq 4 3 11 (lKq 30 false) (lKq 31 false)) (lCq 58 4 12 (lAq 4 4 12 (lKq 30 false) (lKq 31 false)) (lCq 6 5 13 (lAq 4 5 13 (lKq 30 false) (lKq 31 false)) (lKq 60 true)))))))
def al7:List AV:=[(.agg [(vI 0),(vI 1),(.str 0 0),(.sl (uS 2++uS 4) 2 4 .any)]),(.agg [(vI 8),(vI 9),(.str 0 0),(.sl (uS 10++uS 12) 2 4 .any)])]
theorem al8:aB.cz (CF aE) 141 ai2 ⟨ae 141 (fx 141) al7,[],.nil,aQ⟩ [] []=true:=by kernel_rfl
def ai3:aB:=(lAq 49 0 8 (lHq 17 (-1)) (lEq 6 0 8 (lHq 17 1) (lAq 60 1 9 (lHq 17 (-1)) (lEq 6 1 9 (lHq 17 1) (lAq 164 2 10 (lHq 30 (-1)) (lEq 6 2 10 (lHq 30 1) (lAq 60 3 11 (lHq 30 (-1)) (lEq 6 3 11 (lHq 30 1) (lAq 194 4 12 (lHq 30 (-1)) (lEq 6 4 12 (lHq 30 1) (lAq 60 5 13 (lHq 30 (-1)) (lEq 6 5 13 (lHq 30 1) (lHq 141 (-1))))))))))))))
def al9:List AV:=[(.agg [(vI 0),(vI 1),(.str 0 0),(.sl (uS 2++uS 4) 2 4 .any)]),(.agg [(vI 8),(vI 9),(.str 0 0),(.sl (uS 10++uS 12++uS 14) 3 4 .any)])]
theorem ama:aB.cz (CF aE) 139 ai3 ⟨ae 139 (fx 139) al9,[],.nil,aQ⟩ [] []=true:=by kernel_rfl
def ai4:aB:=(lCq 6 0 8 (lAq 4 0 8 (lHq 17 (-1)) (lHq 18 1)) (lCq 6 1 9 (lAq 4 1 9 (lHq 17 (-1)) (lHq 18 1)) (lCq 32 2 10 (lAq 4 2 10 (lHq 27 (-1)) (lHq 28 1)) (lCq 6 3 11 (lAq 4 3 11 (lHq 27 (-1)) (lHq 28 1)) (lCq 58 4 12 (lAq 4 4 12 (lHq 27 (-1)) (lHq 28 1)) (lCq 6 5 13 (lAq 4 5 13 (lHq 27 (-1)) (lHq 28 1)) (lHq 72 (-1))))))))
def amb:List AV:=[(.agg [(vI 0),(vI 1),(.str 0 0),(.sl (uS 2++uS 4) 2 4 .any)]),(.agg [(vI 8),(vI 9),(.str 0 0),(.sl (uS 10++uS 12++uS 14) 3 4 .any)])]
theorem amc:aB.cz (CF aE) 145 ai4 ⟨ae 145 (fx 145) amb,[],.nil,aQ⟩ [] []=true:=by kernel_rfl
def ai5:aB:=(lCq 12 0 8 (lAq 4 0 8 (lKq 20 false) (lKq 21 false)) (lCq 6 1 9 (lAq 4 1 9 (lKq 20 false) (lKq 21 false)) (lCq 32 2 10 (lAq 4 2 10 (lKq 30 false) (lKq 31 false)) (lCq 6 3 11 (lAq 4 3 11 (lKq 30 false) (lKq 31 false)) (lCq 58 4 12 (lAq 4 4 12 (lKq 30 false) (lKq 31 false)) (lCq 6 5 13 (lAq 4 5 13 (lKq 30 false) (lKq 31 false)) (lKq 75 false)))))))
def amd:List AV:=[(.agg [(vI 0),(vI 1),(.str 0 0),(.sl (uS 2++uS 4) 2 4 .any)]),(.agg [(vI 8),(vI 9),(.str 0 0),(.sl (uS 10++uS 12++uS 14) 3 4 .any)])]
theorem ame:aB.cz (CF aE) 141 ai5 ⟨ae 141 (fx 141) amd,[],.nil,aQ⟩ [] []=true:=by kernel_rfl
def ai6:aB:=(lAq 49 0 8 (lHq 17 (-1)) (lEq 6 0 8 (lHq 17 1) (lAq 60 1 9 (lHq 17 (-1)) (lEq 6 1 9 (lHq 17 1) (lHq 116 1)))))
def amf:List AV:=[(.agg [(vI 0),(vI 1),(.str 0 0),(.sl (uS 2++uS 4++uS 6) 3 4 .any)]),(.agg (uS 8))]
theorem amg:aB.cz (CF aE) 139 ai6 ⟨ae 139 (fx 139) amf,[],.nil,aQ⟩ [] []=true:=by kernel_rfl
def ai7:aB:=(lCq 6 0 8 (lAq 4 0 8 (lHq 17 (-1)) (lHq 18 1)) (lCq 6 1 9 (lAq 4 1 9 (lHq 17 (-1)) (lHq 18 1)) (lHq 47 1)))
def amh:List AV:=[(.agg [(vI 0),(vI 1),(.str 0 0),(.sl (uS 2++uS 4++uS 6) 3 4 .any)]),(.agg (uS 8))]
theorem ami:aB.cz (CF aE) 145 ai7 ⟨ae 145 (fx 145) amh,[],.nil,aQ⟩ [] []=true:=by kernel_rfl
def ai8:aB:=(lCq 12 0 8 (lAq 4 0 8 (lKq 20 false) (lKq 21 false)) (lCq 6 1 9 (lAq 4 1 9 (lKq 20 false) (lKq 21 false)) (lKq 50 false)))
def amj:List AV:=[(.agg [(vI 0),(vI 1),(.str 0 0),(.sl (uS 2++uS 4++uS 6) 3 4 .any)]),(.agg (uS 8))]
theorem amk:aB.cz (CF aE) 141 ai8 ⟨ae 141 (fx 141) amj,[],.nil,aQ⟩ [] []=true:=by kernel_rfl
def ai9:aB:=(lAq 49 0 8 (lHq 17 (-1)) (lEq 6 0 8 (lHq 17 1) (lAq 60 1 9 (lHq 17 (-1)) (lEq 6 1 9 (lHq 17 1) (lAq 164 2 10 (lHq 30 (-1)) (lEq 6 2 10 (lHq 30 1) (lAq 60 3 11 (lHq 30 (-1)) (lEq 6 3 11 (lHq 30 1) (lHq 146 1)))))))))
def aml:List AV:=[(.agg [(vI 0),(vI 1),(.str 0 0),(.sl (uS 2++uS 4++uS 6) 3 4 .any)]),(.agg [(vI 8),(vI 9),(.str 0 0),(.sl (uS 10) 1 4 .any)])]
theorem amm:aB.cz (CF aE) 139 ai9 ⟨ae 139 (fx 139) aml,[],.nil,aQ⟩ [] []=true:=by kernel_rfl
def aja:aB:=(lCq 6 0 8 (lAq 4 0 8 (lHq 17 (-1)) (lHq 18 1)) (lCq 6 1 9 (lAq 4 1 9 (lHq 17 (-1)) (lHq 18 1)) (lCq 32 2 10 (lAq 4 2 10 (lHq 27 (-1)) (lHq 28 1)) (lCq 6 3 11 (lAq 4 3 11 (lHq 27 (-1)) (lHq 28 1)) (lHq 73 1)))))
def amn:List AV:=[(.agg [(vI 0),(vI 1),(.str 0 0),(.sl (uS 2++uS 4++uS 6) 3 4 .any)]),(.agg [(vI 8),(vI 9),(.str 0 0),(.sl (uS 10) 1 4 .any)])]
theorem amo:aB.cz (CF aE) 145 aja ⟨ae 145 (fx 145) amn,[],.nil,aQ⟩ [] []=true:=by kernel_rfl
def ajb:aB:=(lCq 12 0 8 (lAq 4 0 8 (lKq 20 false) (lKq 21 false)) (lCq 6 1 9 (lAq 4 1 9 (lKq 20 false) (lKq 21 false)) (lCq 32 2 10 (lAq 4 2 10 (lKq 30 false) (lKq 31 false)) (lCq 6 3 11 (lAq 4 3 11 (lKq 30 false) (lKq 31 false)) (lKq 76 false)))))
def amp:List AV:=[(.agg [(vI 0),(vI 1),(.str 0 0),(.sl (uS 2++uS 4++uS 6) 3 4 .any)]),(.agg [(vI 8),(vI 9),(.str 0 0),(.sl (uS 10) 1 4 .any)])]
theorem amq:aB.cz (CF aE) 141 ajb ⟨ae 141 (fx 141) amp,[],.nil,aQ⟩ [] []=true:=by kernel_rfl
def ajc:aB:=(lAq 49 0 8 (lHq 17 (-1)) (lEq 6 0 8 (lHq 17 1) (lAq 60 1 9 (lHq 17 (-1)) (lEq 6 1 9 (lHq 17 1) (lAq 164 2 10 (lHq 30 (-1)) (lEq 6 2 10 (lHq 30 1) (lAq 60 3 11 (lHq 30 (-1)) (lEq 6 3 11 (lHq 30 1) (lAq 194 4 12 (lHq 30 (-1)) (lEq 6 4 12 (lHq 30 1) (lAq 60 5 13 (lHq 30 (-1)) (lEq 6 5 13 (lHq 30 1) (lHq 146 1)))))))))))))
def amr:List AV:=[(.agg [(vI 0),(vI 1),(.str 0 0),(.sl (uS 2++uS 4++uS 6) 3 4 .any)]),(.agg [(vI 8),(vI 9),(.str 0 0),(.sl (uS 10++uS 12) 2 4 .any)])]
theorem ams:aB.cz (CF aE) 139 ajc ⟨ae 139 (fx 139) amr,[],.nil,aQ⟩ [] []=true:=by kernel_rfl
def ajd:aB:=(lCq 6 0 8 (lAq 4 0 8 (lHq 17 (-1)) (lHq 18 1)) (lCq 6 1 9 (lAq 4 1 9 (lHq 17 (-1)) (lHq 18 1)) (lCq 32 2 10 (lAq 4 2 10 (lHq 27 (-1)) (lHq 28 1)) (lCq 6 3 11 (lAq 4 3 11 (lHq 27 (-1)) (lHq 28 1)) (lCq 58 4 12 (lAq 4 4 12 (lHq 27 (-1)) (lHq 28 1)) (lCq 6 5 13 (lAq 4 5 13 (lHq 27 (-1)) (lHq 28 1)) (lHq 73 1)))))))
def amt:List AV:=[(.agg [(vI 0),(vI 1),(.str 0 0),(.sl (uS 2++uS 4++uS 6) 3 4 .any)]),(.agg [(vI 8),(vI 9),(.str 0 0),(.sl (uS 10++uS 12) 2 4 .any)])]
theorem amu:aB.cz (CF aE) 145 ajd ⟨ae 145 (fx 145) amt,[],.nil,aQ⟩ [] []=true:=by kernel_rfl
def aje:aB:=(lCq 12 0 8 (lAq 4 0 8 (lKq 20 false) (lKq 21 false)) (lCq 6 1 9 (lAq 4 1 9 (lKq 20 false) (lKq 21 false)) (lCq 32 2 10 (lAq 4 2 10 (lKq 30 false) (lKq 31 false)) (lCq 6 3 11 (lAq 4 3 11 (lKq 30 false) (lKq 31 false)) (lCq 58 4 12 (lAq 4 4 12 (lKq 30 false) (lKq 31 false)) (lCq 6 5 13 (lAq 4 5 13 (lKq 30 false) (lKq 31 false)) (lKq 76 false)))))))
def amv:List AV:=[(.agg [(vI 0),(vI 1),(.str 0 0),(.sl (uS 2++uS 4++uS 6) 3 4 .any)]),(.agg [(vI 8),(vI 9),(.str 0 0),(.sl (uS 10++uS 12) 2 4 .any)])]
theorem amw:aB.cz (CF aE) 141 aje ⟨ae 141 (fx 141) amv,[],.nil,aQ⟩ [] []=true:=by kernel_rfl
def ajf:aB:=(lAq 49 0 8 (lHq 17 (-1)) (lEq 6 0 8 (lHq 17 1) (lAq 60 1 9 (lHq 17 (-1)) (lEq 6 1 9 (lHq 17 1) (lAq 164 2 10 (lHq 30 (-1)) (lEq 6 2 10 (lHq 30 1) (lAq 60 3 11 (lHq 30 (-1)) (lEq 6 3 11 (lHq 30 1) (lAq 194 4 12 (lHq 30 (-1)) (lEq 6 4 12 (lHq 30 1) (lAq 60 5 13 (lHq 30 (-1)) (lEq 6 5 13 (lHq 30 1) (lAq 194 6 14 (lHq 30 (-1)) (lEq 6 6 14 (lHq 30 1) (lAq 60 7 15 (lHq 30 (-1)) (lEq 6 7 15 (lHq 30 1) (lHq 142 0)))))))))))))))))
def amx:List AV:=[(.agg [(vI 0),(vI 1),(.str 0 0),(.sl (uS 2++uS 4++uS 6) 3 4 .any)]),(.agg [(vI 8),(vI 9),(.str 0 0),(.sl (uS 10++uS 12++uS 14) 3 4 .any)])]
theorem amy:aB.cz (CF aE) 139 ajf ⟨ae 139 (fx 139) amx,[],.nil,aQ⟩ [] []=true:=by kernel_rfl
def ajg:aB:=(lCq 6 0 8 (lAq 4 0 8 (lHq 17 (-1)) (lHq 18 1)) (lCq 6 1 9 (lAq 4 1 9 (lHq 17 (-1)) (lHq 18 1)) (lCq 32 2 10 (lAq 4 2 10 (lHq 27 (-1)) (lHq 28 1)) (lCq 6 3 11 (lAq 4 3 11 (lHq 27 (-1)) (lHq 28 1)) (lCq 58 4 12 (lAq 4 4 12 (lHq 27 (-1)) (lHq 28 1)) (lCq 6 5 13 (lAq 4 5 13 (lHq 27 (-1)) (lHq 28 1)) (lCq 58 6 14 (lAq 4 6 14 (lHq 27 (-1)) (lHq 28 1)) (lCq 6 7 15 (lAq 4 7 15 (lHq 27 (-1)) (lHq 28 1)) (lHq 57 0)))))))))
def amz:List AV:=[(.agg [(vI 0),(vI 1),(.str 0 0),(.sl (uS 2++uS 4++uS 6) 3 4 .any)]),(.agg [(vI 8),(vI 9),(.str 0 0),(.sl (uS 10++uS 12++uS 14) 3 4 .any)])]
theorem amA:aB.cz (CF aE) 145 ajg ⟨ae 145 (fx 145) amz,[],.nil,aQ⟩ [] []=true:=by kernel_rfl
def ajh:aB:=(lCq 12 0 8 (lAq 4 0 8 (lKq 20 false) (lKq 21 false)) (lCq 6 1 9 (lAq 4 1 9 (lKq 20 false) (lKq 21 false)) (lCq 32 2 10 (lAq 4 2 10 (lKq 30 false) (lKq 31 false)) (lCq 6 3 11 (lAq 4 3 11 (lKq 30 false) (lKq 31 false)) (lCq 58 4 12 (lAq 4 4 12 (lKq 30 false) (lKq 31 false)) (lCq 6 5 13 (lAq 4 5 13 (lKq 30 false) (lKq 31 false)) (lCq 58 6 14 (lAq 4 6 14 (lKq 30 false) (lKq 31 false)) (lCq 6 7 15 (lAq 4 7 15 (lKq 30 false) (lKq 31 false)) (lKq 60 true)))))))))
def amB:List AV:=[(.agg [(vI 0),(vI 1),(.str 0 0),(.sl (uS 2++uS 4++uS 6) 3 4 .any)]),(.agg [(vI 8),(vI 9),(.str 0 0),(.sl (uS 10++uS 12++uS 14) 3 4 .any)])]
theorem amC:aB.cz (CF aE) 141 ajh ⟨ae 141 (fx 141) amB,[],.nil,aQ⟩ [] []=true:=by kernel_rfl
end Ln
