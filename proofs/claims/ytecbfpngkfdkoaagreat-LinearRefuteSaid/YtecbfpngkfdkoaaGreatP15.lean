/- A part of the proof. No condition. -/
import Derived.Test.YtecbfpngkfdkoaaGreatP13
import Derived.KernelRfl
set_option linter.unusedSimpArgs false
set_option linter.unusedVariables false
set_option linter.unusedSectionVars false
namespace Ln
open Go.Sx Go Go.Proofs
def Kq:aB:=(.leaf 219 (.tuple [(.agg [(I 2),(I 0),(.str 0 0),.nils]),(I 0)]))
def Qc:List AV:=[vM,qN,(.agg [(I 200),(I 50)])]
theorem Qd:aB.cz (CF aE) 73 Kq ⟨ae 73 (fx 73) Qc,[],.nil,aQ⟩ [] []=true:=by kernel_rfl
def EJ:aB:=(.leaf 171 (.tuple [(.agg [(I 0),(I 0),(.str 0 0),.nils]),(I 0)]))
def Lm:List AV:=[vM,cN,(.agg [(I 200),(I 50)])]
theorem Lo:aB.cz (CF aE) 73 EJ ⟨ae 73 (fx 73) Lm,[],.nil,aQ⟩ [] []=true:=by kernel_rfl
def C2:aB:=(.leaf 171 (.tuple [(.agg [(I 0),(I 0),(.str 0 0),.nils]),(I 0)]))
def Jr:List AV:=[vM,rN,(.agg [(I 200),(I 50)])]
theorem Js:aB.cz (CF aE) 73 C2 ⟨ae 73 (fx 73) Jr,[],.nil,aQ⟩ [] []=true:=by kernel_rfl
def ML:aB:=(lBq 1128 0 2 (lDq 79 0 2 lNq (lMq 456 true 0)) (lDq 79 0 2 (lMq 106 false 9) lNq))
def TQ:List AV:=[vM,qN,(.str 3 7632240),(.agg (uS 0)),(.sl (uS 8) 1 4 .any),(.agg [(I 200),(I 50)])]
theorem SO:aB.cz (CF aE) 154 ML ⟨ae 154 (fx 154) TQ,[],.nil,aQ⟩ [] []=true:=by kernel_rfl
def Hh:aB:=(lBq 757 10 2 (lDq 185 10 0 (lFq 4 10 0 lNq (lMq 108 false 0)) lNq) (lDq 185 10 0 (lFq 4 10 0 (lMq 107 false 0) (lMq 108 false 0)) (lDq 6 11 0 (lFq 4 11 0 (lMq 107 false 0) (lMq 108 false 0)) (lMq 120 true 0))))
def Og:List AV:=[vM,qN,(.str 3 7632240),(.agg (uS 0)),(.sl (uS 8) 1 4 .any),(.agg (uS 10)),(.agg [(I 200),(I 50)])]
theorem Nf:aB.cz (CF aE) 155 Hh ⟨ae 155 (fx 155) Og,[],.nil,aQ⟩ [] []=true:=by kernel_rfl
def JX:aB:=(lBq 652 0 2 (lBq 178 8 2 (lDq 83 0 2 lNq (.leaf 179 (.tuple [(.agg [(I 2),(I 0),(.str 0 0),(.sl (uS 8) 1 4 .any)]),(I 0)]))) (lDq 83 0 2 lNq (.leaf 179 (.tuple [(.agg [(I 2),(I 0),(.str 0 0),(.sl (uS 8) 1 4 .any)]),(I 0)])))) (lBq 178 8 2 (lDq 83 0 2 (.leaf 56 (.tuple [(.agg [(I 0),(I 0),(.str 0 0),.nils]),(I 9)])) lNq) (lDq 83 0 2 (.leaf 56 (.tuple [(.agg [(I 0),(I 0),(.str 0 0),.nils]),(I 9)])) lNq)))
def Qe:List AV:=[vM,qN,(.str 3 7632240),(.agg (uS 0)),(.sl (uS 8) 1 4 .any),(.agg (uS 10)),(.agg [(I 200),(I 50)])]
theorem PG:aB.cz (CF aE) 156 JX ⟨ae 156 (fx 156) Qe,[],.nil,aQ⟩ [] []=true:=by kernel_rfl
def MM:aB:=(lBq 1166 0 2 (lDq 79 0 2 lNq (lMq 456 true 0)) (lDq 79 0 2 (lMq 106 false 9) lNq))
def TR:List AV:=[vM,qN,(.str 3 7632240),(.agg [(vI 0),(vI 1),(.str 0 0),(.sl (uS 2) 1 4 .any)]),(.sl (uS 8) 1 4 .any),(.agg [(I 200),(I 50)])]
theorem SP:aB.cz (CF aE) 154 MM ⟨ae 154 (fx 154) TR,[],.nil,aQ⟩ [] []=true:=by kernel_rfl
def Hi:aB:=(lBq 757 10 2 (lDq 185 10 0 (lFq 4 10 0 lNq (lMq 108 false 0)) lNq) (lDq 185 10 0 (lFq 4 10 0 (lMq 107 false 0) (lMq 108 false 0)) (lDq 6 11 0 (lFq 4 11 0 (lMq 107 false 0) (lMq 108 false 0)) (lMq 120 true 0))))
def Oh:List AV:=[vM,qN,(.str 3 7632240),(.agg [(vI 0),(vI 1),(.str 0 0),(.sl (uS 2) 1 4 .any)]),(.sl (uS 8) 1 4 .any),(.agg (uS 10)),(.agg [(I 200),(I 50)])]
theorem Ng:aB.cz (CF aE) 155 Hi ⟨ae 155 (fx 155) Oh,[],.nil,aQ⟩ [] []=true:=by kernel_rfl
def JY:aB:=(lBq 690 0 2 (lBq 178 8 2 (lDq 83 0 2 lNq (.leaf 217 (.tuple [(.agg [(I 2),(I 0),(.str 0 0),(.sl (uS 2++uS 8) 2 4 .any)]),(I 0)]))) (lDq 83 0 2 lNq (.leaf 217 (.tuple [(.agg [(I 2),(I 0),(.str 0 0),(.sl (uS 2++uS 8) 2 4 .any)]),(I 0)])))) (lBq 178 8 2 (lDq 83 0 2 (.leaf 56 (.tuple [(.agg [(I 0),(I 0),(.str 0 0),.nils]),(I 9)])) lNq) (lDq 83 0 2 (.leaf 56 (.tuple [(.agg [(I 0),(I 0),(.str 0 0),.nils]),(I 9)])) lNq)))
def Qf:List AV:=[vM,qN,(.str 3 7632240),(.agg [(vI 0),(vI 1),(.str 0 0),(.sl (uS 2) 1 4 .any)]),(.sl (uS 8) 1 4 .any),(.agg (uS 10)),(.agg [(I 200),(I 50)])]
theorem PH:aB.cz (CF aE) 156 JY ⟨ae 156 (fx 156) Qf,[],.nil,aQ⟩ [] []=true:=by kernel_rfl
def MN:aB:=(lBq 1204 0 2 (lDq 79 0 2 lNq (lMq 456 true 0)) (lDq 79 0 2 (lMq 106 false 9) lNq))
def TS:List AV:=[vM,qN,(.str 3 7632240),(.agg [(vI 0),(vI 1),(.str 0 0),(.sl (uS 2++uS 4) 2 4 .any)]),(.sl (uS 8) 1 4 .any),(.agg [(I 200),(I 50)])]
theorem SQ:aB.cz (CF aE) 154 MN ⟨ae 154 (fx 154) TS,[],.nil,aQ⟩ [] []=true:=by kernel_rfl
def Hj:aB:=(lBq 757 10 2 (lDq 185 10 0 (lFq 4 10 0 lNq (lMq 108 false 0)) lNq) (lDq 185 10 0 (lFq 4 10 0 (lMq 107 false 0) (lMq 108 false 0)) (lDq 6 11 0 (lFq 4 11 0 (lMq 107 false 0) (lMq 108 false 0)) (lMq 120 true 0))))
def Oi:List AV:=[vM,qN,(.str 3 7632240),(.agg [(vI 0),(vI 1),(.str 0 0),(.sl (uS 2++uS 4) 2 4 .any)]),(.sl (uS 8) 1 4 .any),(.agg (uS 10)),(.agg [(I 200),(I 50)])]
theorem Nh:aB.cz (CF aE) 155 Hj ⟨ae 155 (fx 155) Oi,[],.nil,aQ⟩ [] []=true:=by kernel_rfl
def JZ:aB:=(lBq 728 0 2 (lBq 178 8 2 (lDq 83 0 2 lNq (.leaf 255 (.tuple [(.agg [(I 2),(I 0),(.str 0 0),(.sl (uS 2++uS 4++uS 8) 3 4 .any)]),(I 0)]))) (lDq 83 0 2 lNq (.leaf 255 (.tuple [(.agg [(I 2),(I 0),(.str 0 0),(.sl (uS 2++uS 4++uS 8) 3 4 .any)]),(I 0)])))) (lBq 178 8 2 (lDq 83 0 2 (.leaf 56 (.tuple [(.agg [(I 0),(I 0),(.str 0 0),.nils]),(I 9)])) lNq) (lDq 83 0 2 (.leaf 56 (.tuple [(.agg [(I 0),(I 0),(.str 0 0),.nils]),(I 9)])) lNq)))
def Qg:List AV:=[vM,qN,(.str 3 7632240),(.agg [(vI 0),(vI 1),(.str 0 0),(.sl (uS 2++uS 4) 2 4 .any)]),(.sl (uS 8) 1 4 .any),(.agg (uS 10)),(.agg [(I 200),(I 50)])]
theorem PI:aB.cz (CF aE) 156 JZ ⟨ae 156 (fx 156) Qg,[],.nil,aQ⟩ [] []=true:=by kernel_rfl
def MO:aB:=(lBq 1242 0 2 (lDq 79 0 2 lNq (lMq 457 false 0)) (lDq 79 0 2 (lMq 106 false 9) lNq))
def TU:List AV:=[vM,qN,(.str 3 7632240),(.agg [(vI 0),(vI 1),(.str 0 0),(.sl (uS 2++uS 4++uS 6) 3 4 .any)]),(.sl (uS 8) 1 4 .any),(.agg [(I 200),(I 50)])]
theorem SS:aB.cz (CF aE) 154 MO ⟨ae 154 (fx 154) TU,[],.nil,aQ⟩ [] []=true:=by kernel_rfl
def Hk:aB:=(lBq 757 10 2 (lDq 185 10 0 (lFq 4 10 0 lNq (lMq 108 false 0)) lNq) (lDq 185 10 0 (lFq 4 10 0 (lMq 107 false 0) (lMq 108 false 0)) (lDq 6 11 0 (lFq 4 11 0 (lMq 107 false 0) (lMq 108 false 0)) (lMq 120 true 0))))
def Oj:List AV:=[vM,qN,(.str 3 7632240),(.agg [(vI 0),(vI 1),(.str 0 0),(.sl (uS 2++uS 4++uS 6) 3 4 .any)]),(.sl (uS 8) 1 4 .any),(.agg (uS 10)),(.agg [(I 200),(I 50)])]
theorem Ni:aB.cz (CF aE) 155 Hk ⟨ae 155 (fx 155) Oj,[],.nil,aQ⟩ [] []=true:=by kernel_rfl
def J0:aB:=(lBq 766 0 2 (lBq 178 8 2 (lDq 83 0 2 lNq (.leaf 293 (.tuple [(.agg [(I 2),(I 0),(.str 0 0),(.sl (uS 2++uS 4++uS 6++uS 8) 4 4 .any)]),(I 0)]))) (lDq 83 0 2 lNq (.leaf 293 (.tuple [(.agg [(I 2),(I 0),(.str 0 0),(.sl (uS 2++uS 4++uS 6++uS 8) 4 4 .any)]),(I 0)])))) (lBq 178 8 2 (lDq 83 0 2 (.leaf 56 (.tuple [(.agg [(I 0),(I 0),(.str 0 0),.nils]),(I 9)])) lNq) (lDq 83 0 2 (.leaf 56 (.tuple [(.agg [(I 0),(I 0),(.str 0 0),.nils]),(I 9)])) lNq)))
def Qh:List AV:=[vM,qN,(.str 3 7632240),(.agg [(vI 0),(vI 1),(.str 0 0),(.sl (uS 2++uS 4++uS 6) 3 4 .any)]),(.sl (uS 8) 1 4 .any),(.agg (uS 10)),(.agg [(I 200),(I 50)])]
theorem PJ:aB.cz (CF aE) 156 J0 ⟨ae 156 (fx 156) Qh,[],.nil,aQ⟩ [] []=true:=by kernel_rfl
def MP:aB:=(lBq 1254 0 2 (lDq 79 0 2 lNq (lMq 317 false 0)) (lDq 79 0 2 (lMq 106 false 9) lNq))
def TV:List AV:=[vM,qN,(.str 3 7628135),(.agg (uS 0)),.nils,(.agg [(I 200),(I 50)])]
theorem SU:aB.cz (CF aE) 154 MP ⟨ae 154 (fx 154) TV,[],.nil,aQ⟩ [] []=true:=by kernel_rfl
def Hl:aB:=(lBq 760 10 2 (lBq 515 0 2 (lDq 238 0 2 lNq (lMq 188 false 13)) (lDq 238 0 2 (lMq 106 false 9) lNq)) (lBq 515 0 2 (lDq 238 0 2 lNq (lMq 188 false 13)) (lDq 238 0 2 (lMq 106 false 9) lNq)))
def Ol:List AV:=[vM,qN,(.str 3 7628135),(.agg (uS 0)),.nils,(.agg (uS 10)),(.agg [(I 200),(I 50)])]
theorem Nj:aB.cz (CF aE) 155 Hl ⟨ae 155 (fx 155) Ol,[],.nil,aQ⟩ [] []=true:=by kernel_rfl
def J1:aB:=(lBq 672 0 2 (lDq 238 0 2 lNq (.leaf 171 (.tuple [(.agg [(I 2),(I 0),(.str 0 0),.nils]),(I 0)]))) (lDq 238 0 2 (.leaf 56 (.tuple [(.agg [(I 0),(I 0),(.str 0 0),.nils]),(I 9)])) lNq))
def Qi:List AV:=[vM,qN,(.str 3 7628135),(.agg (uS 0)),.nils,(.agg (uS 10)),(.agg [(I 200),(I 50)])]
theorem PK:aB.cz (CF aE) 156 J1 ⟨ae 156 (fx 156) Qi,[],.nil,aQ⟩ [] []=true:=by kernel_rfl
def MQ:aB:=(lBq 1292 0 2 (lDq 79 0 2 lNq (lMq 316 true 0)) (lDq 79 0 2 (lMq 106 false 9) lNq))
def TW:List AV:=[vM,qN,(.str 3 7628135),(.agg [(vI 0),(vI 1),(.str 0 0),(.sl (uS 2) 1 4 .any)]),.nils,(.agg [(I 200),(I 50)])]
theorem SV:aB.cz (CF aE) 154 MQ ⟨ae 154 (fx 154) TW,[],.nil,aQ⟩ [] []=true:=by kernel_rfl
def Hm:aB:=(lBq 760 10 2 (lBq 553 0 2 (lDq 238 0 2 lNq (lBq 149 2 2 (lCq 45 10 2 (lAq 4 10 2 (lMq 107 false 0) (lMq 108 false 0)) (lCq 6 11 3 (lAq 4 11 3 (lMq 107 false 0) (lMq 108 false 0)) (lMq 120 true 0))) (lCq 45 10 2 (lAq 4 10 2 (lMq 107 false 0) (lMq 108 false 0)) (lCq 6 11 3 (lAq 4 11 3 (lMq 107 false 0) (lMq 108 false 0)) (lMq 120 true 0))))) (lDq 238 0 2 (lMq 106 false 9) lNq)) (lBq 553 0 2 (lDq 238 0 2 lNq (lBq 149 2 2 (lCq 45 10 2 (lAq 4 10 2 (lMq 107 false 0) (lMq 108 false 0)) (lCq 6 11 3 (lAq 4 11 3 (lMq 107 false 0) (lMq 108 false 0)) (lMq 120 true 0))) (lCq 45 10 2 (lAq 4 10 2 (lMq 107 false 0) (lMq 108 false 0)) (lCq 6 11 3 (lAq 4 11 3 (lMq 107 false 0) (lMq 108 false 0)) (lMq 120 true 0))))) (lDq 238 0 2 (lMq 106 false 9) lNq)))
def Om:List AV:=[vM,qN,(.str 3 7628135),(.agg [(vI 0),(vI 1),(.str 0 0),(.sl (uS 2) 1 4 .any)]),.nils,(.agg (uS 10)),(.agg [(I 200),(I 50)])]
theorem Nk:aB.cz (CF aE) 155 Hm ⟨ae 155 (fx 155) Om,[],.nil,aQ⟩ [] []=true:=by kernel_rfl
def J2:aB:=(lBq 710 0 2 (lDq 238 0 2 lNq (.leaf 171 (.tuple [(.agg [(I 2),(I 0),(.str 0 0),.nils]),(I 0)]))) (lDq 238 0 2 (.leaf 56 (.tuple [(.agg [(I 0),(I 0),(.str 0 0),.nils]),(I 9)])) lNq))
def Qj:List AV:=[vM,qN,(.str 3 7628135),(.agg [(vI 0),(vI 1),(.str 0 0),(.sl (uS 2) 1 4 .any)]),.nils,(.agg (uS 10)),(.agg [(I 200),(I 50)])]
theorem PL:aB.cz (CF aE) 156 J2 ⟨ae 156 (fx 156) Qj,[],.nil,aQ⟩ [] []=true:=by kernel_rfl
def MR:aB:=(lBq 1330 0 2 (lDq 79 0 2 lNq (lMq 316 true 0)) (lDq 79 0 2 (lMq 106 false 9) lNq))
def TX:List AV:=[vM,qN,(.str 3 7628135),(.agg [(vI 0),(vI 1),(.str 0 0),(.sl (uS 2++uS 4) 2 4 .any)]),.nils,(.agg [(I 200),(I 50)])]
theorem SW:aB.cz (CF aE) 154 MR ⟨ae 154 (fx 154) TX,[],.nil,aQ⟩ [] []=true:=by kernel_rfl
def Hn:aB:=(lBq 760 10 2 (lBq 591 0 2 (lDq 238 0 2 lNq (lBq 149 2 2 (lCq 45 10 2 (lAq 4 10 2 (lMq 107 false 0) (lMq 108 false 0)) (lCq 6 11 3 (lAq 4 11 3 (lMq 107 false 0) (lMq 108 false 0)) (lMq 120 true 0))) (lCq 45 10 2 (lAq 4 10 2 (lMq 107 false 0) (lMq 108 false 0)) (lCq 6 11 3 (lAq 4 11 3 (lMq 107 false 0) (lMq 108 false 0)) (lMq 120 true 0))))) (lDq 238 0 2 (lMq 106 false 9) lNq)) (lBq 591 0 2 (lDq 238 0 2 lNq (lBq 149 2 2 (lCq 45 10 2 (lAq 4 10 2 (lMq 107 false 0) (lMq 108 false 0)) (lCq 6 11 3 (lAq 4 11 3 (lMq 107 false 0) (lMq 108 false 0)) (lMq 120 true 0))) (lCq 45 10 2 (lAq 4 10 2 (lMq 107 false 0) (lMq 108 false 0)) (lCq 6 11 3 (lAq 4 11 3 (lMq 107 false 0) (lMq 108 false 0)) (lMq 120 true 0))))) (lDq 238 0 2 (lMq 106 false 9) lNq)))
def On:List AV:=[vM,qN,(.str 3 7628135),(.agg [(vI 0),(vI 1),(.str 0 0),(.sl (uS 2++uS 4) 2 4 .any)]),.nils,(.agg (uS 10)),(.agg [(I 200),(I 50)])]
theorem Nl:aB.cz (CF aE) 155 Hn ⟨ae 155 (fx 155) On,[],.nil,aQ⟩ [] []=true:=by kernel_rfl
def J3:aB:=(lBq 748 0 2 (lDq 238 0 2 lNq (.leaf 209 (.tuple [(.agg [(I 2),(I 0),(.str 0 0),(.sl (uS 4) 1 4 .any)]),(I 0)]))) (lDq 238 0 2 (.leaf 56 (.tuple [(.agg [(I 0),(I 0),(.str 0 0),.nils]),(I 9)])) lNq))
def Qk:List AV:=[vM,qN,(.str 3 7628135),(.agg [(vI 0),(vI 1),(.str 0 0),(.sl (uS 2++uS 4) 2 4 .any)]),.nils,(.agg (uS 10)),(.agg [(I 200),(I 50)])]
theorem PM:aB.cz (CF aE) 156 J3 ⟨ae 156 (fx 156) Qk,[],.nil,aQ⟩ [] []=true:=by kernel_rfl
def MS:aB:=(lBq 1368 0 2 (lDq 79 0 2 lNq (lMq 316 true 0)) (lDq 79 0 2 (lMq 106 false 9) lNq))
def TY:List AV:=[vM,qN,(.str 3 7628135),(.agg [(vI 0),(vI 1),(.str 0 0),(.sl (uS 2++uS 4++uS 6) 3 4 .any)]),.nils,(.agg [(I 200),(I 50)])]
theorem SX:aB.cz (CF aE) 154 MS ⟨ae 154 (fx 154) TY,[],.nil,aQ⟩ [] []=true:=by kernel_rfl
def Ho:aB:=(lBq 760 10 2 (lBq 629 0 2 (lDq 238 0 2 lNq (lBq 149 2 2 (lCq 45 10 2 (lAq 4 10 2 (lMq 107 false 0) (lMq 108 false 0)) (lCq 6 11 3 (lAq 4 11 3 (lMq 107 false 0) (lMq 108 false 0)) (lMq 120 true 0))) (lCq 45 10 2 (lAq 4 10 2 (lMq 107 false 0) (lMq 108 false 0)) (lCq 6 11 3 (lAq 4 11 3 (lMq 107 false 0) (lMq 108 false 0)) (lMq 120 true 0))))) (lDq 238 0 2 (lMq 106 false 9) lNq)) (lBq 629 0 2 (lDq 238 0 2 lNq (lBq 149 2 2 (lCq 45 10 2 (lAq 4 10 2 (lMq 107 false 0) (lMq 108 false 0)) (lCq 6 11 3 (lAq 4 11 3 (lMq 107 false 0) (lMq 108 false 0)) (lMq 120 true 0))) (lCq 45 10 2 (lAq 4 10 2 (lMq 107 false 0) (lMq 108 false 0)) (lCq 6 11 3 (lAq 4 11 3 (lMq 107 false 0) (lMq 108 false 0)) (lMq 120 true 0))))) (lDq 238 0 2 (lMq 106 false 9) lNq)))
def Oo:List AV:=[vM,qN,(.str 3 7628135),(.agg [(vI 0),(vI 1),(.str 0 0),(.sl (uS 2++uS 4++uS 6) 3 4 .any)]),.nils,(.agg (uS 10)),(.agg [(I 200),(I 50)])]
theorem Nm:aB.cz (CF aE) 155 Ho ⟨ae 155 (fx 155) Oo,[],.nil,aQ⟩ [] []=true:=by kernel_rfl
def J4:aB:=(lBq 786 0 2 (lDq 238 0 2 lNq (.leaf 247 (.tuple [(.agg [(I 2),(I 0),(.str 0 0),(.sl (uS 4++uS 6) 2 4 .any)]),(I 0)]))) (lDq 238 0 2 (.leaf 56 (.tuple [(.agg [(I 0),(I 0),(.str 0 0),.nils]),(I 9)])) lNq))
def Ql:List AV:=[vM,qN,(.str 3 7628135),(.agg [(vI 0),(vI 1),(.str 0 0),(.sl (uS 2++uS 4++uS 6) 3 4 .any)]),.nils,(.agg (uS 10)),(.agg [(I 200),(I 50)])]
theorem PN:aB.cz (CF aE) 156 J4 ⟨ae 156 (fx 156) Ql,[],.nil,aQ⟩ [] []=true:=by kernel_rfl
def MT:aB:=(lBq 777 0 2 (lDq 205 0 0 (lMq 62 false 9) lNq) (lDq 205 0 0 (lMq 62 false 9) (lFq 68 1 99 (lMq 89 true 0) (lMq 90 false 0))))
def TZ:List AV:=[vM,cN,(.str 3 6516329),(.agg (uS 0)),.nils,(.agg [(I 200),(I 50)])]
theorem SY:aB.cz (CF aE) 154 MT ⟨ae 154 (fx 154) TZ,[],.nil,aQ⟩ [] []=true:=by kernel_rfl
def Hp:aB:=(lBq 743 10 2 (lBq 801 0 2 (lDq 205 0 0 (lMq 103 false 9) lNq) (lDq 205 0 0 (lMq 103 false 9) (lDq 156 10 0 (lFq 4 10 0 lNq (lMq 108 false 0)) lNq))) (lBq 801 0 2 (lDq 205 0 0 (lMq 103 false 9) lNq) (lDq 205 0 0 (lMq 103 false 9) (lDq 156 10 0 (lFq 4 10 0 (lMq 107 false 0) (lMq 108 false 0)) (.ask 6 .neq (.var 11) (.bin .add .i64 (.var 1) (.lit 1)) (.ask 4 .lss (.var 11) (.bin .add .i64 (.var 1) (.lit 1)) (lMq 107 false 0) (lMq 108 false 0)) (lMq 120 true 0))))))
def Oq:List AV:=[vM,cN,(.str 3 6516329),(.agg (uS 0)),.nils,(.agg (uS 10)),(.agg [(I 200),(I 50)])]
theorem Nn:aB.cz (CF aE) 155 Hp ⟨ae 155 (fx 155) Oq,[],.nil,aQ⟩ [] []=true:=by kernel_rfl
def J5:aB:=(lBq 890 0 2 (lDq 205 0 0 (.leaf 53 (.tuple [(.agg [(I 0),(I 0),(.str 0 0),.nils]),(I 9)])) lNq) (lDq 205 0 0 (.leaf 53 (.tuple [(.agg [(I 0),(I 0),(.str 0 0),.nils]),(I 9)])) (.leaf 131 (.tuple [(.agg [(I 0),(.int .i64 (.bin .add .i64 (.var 1) (.lit 1))),(.str 0 0),.nils]),(I 0)]))))
def Qm:List AV:=[vM,cN,(.str 3 6516329),(.agg (uS 0)),.nils,(.agg (uS 10)),(.agg [(I 200),(I 50)])]
theorem PO:aB.cz (CF aE) 156 J5 ⟨ae 156 (fx 156) Qm,[],.nil,aQ⟩ [] []=true:=by kernel_rfl
def He:aB:=(lMq 307 true 0)
def Ot:List AV:=[vM,cN,(.str 4 1684104562),(.agg (uS 0)),.nils,(.agg [(I 200),(I 50)])]
theorem Nb:aB.cz (CF aE) 154 He ⟨ae 154 (fx 154) Ot,[],.nil,aQ⟩ [] []=true:=by kernel_rfl
def Cm:aB:=(lBq 760 10 2 (lBq 178 0 2 (lCq 45 10 0 (lAq 4 10 0 (lMq 107 false 0) (lMq 108 false 0)) (lCq 6 11 1 (lAq 4 11 1 (lMq 107 false 0) (lMq 108 false 0)) (lMq 120 true 0))) (lCq 45 10 0 (lAq 4 10 0 (lMq 107 false 0) (lMq 108 false 0)) (lCq 6 11 1 (lAq 4 11 1 (lMq 107 false 0) (lMq 108 false 0)) (lMq 120 true 0)))) (lBq 178 0 2 (lCq 45 10 0 (lAq 4 10 0 (lMq 107 false 0) (lMq 108 false 0)) (lCq 6 11 1 (lAq 4 11 1 (lMq 107 false 0) (lMq 108 false 0)) (lMq 120 true 0))) (lCq 45 10 0 (lAq 4 10 0 (lMq 107 false 0) (lMq 108 false 0)) (lCq 6 11 1 (lAq 4 11 1 (lMq 107 false 0) (lMq 108 false 0)) (lMq 120 true 0)))))
def Jt:List AV:=[vM,cN,(.str 4 1684104562),(.agg (uS 0)),.nils,(.agg (uS 10)),(.agg [(I 200),(I 50)])]
theorem IM:aB.cz (CF aE) 155 Cm ⟨ae 155 (fx 155) Jt,[],.nil,aQ⟩ [] []=true:=by kernel_rfl
def Ee:aB:=(lBq 284 0 2 (.leaf 20 (.tuple [(.agg (uS 0)),(I 0)])) (.leaf 20 (.tuple [(.agg (uS 0)),(I 0)])))
def Lp:List AV:=[vM,cN,(.str 4 1684104562),(.agg (uS 0)),.nils,(.agg (uS 10)),(.agg [(I 200),(I 50)])]
theorem KU:aB.cz (CF aE) 156 Ee ⟨ae 156 (fx 156) Lp,[],.nil,aQ⟩ [] []=true:=by kernel_rfl
def MU:aB:=(lMq 338 true 0)
def T0:List AV:=[vM,cN,(.str 3 6579297),(.agg (uS 0)),(.sl (uS 8) 1 4 .any),(.agg [(I 200),(I 50)])]
theorem SZ:aB.cz (CF aE) 154 MU ⟨ae 154 (fx 154) T0,[],.nil,aQ⟩ [] []=true:=by kernel_rfl
def Hq:aB:=(lBq 791 10 2 (lBq 818 0 2 (lBq 178 8 2 (lDq 65 0 0 (lMq 103 false 9) lNq) (lDq 65 0 0 (lMq 103 false 9) lNq)) (lBq 178 8 2 (lDq 65 0 0 (lMq 103 false 9) (lDq 17 8 0 (lMq 103 false 9) lNq)) (lDq 65 0 0 (lMq 103 false 9) (lDq 17 8 0 (lMq 103 false 9) (lDq 139 10 0 (lFq 4 10 0 lNq (lMq 108 false 0)) lNq))))) (lBq 818 0 2 (lBq 178 8 2 (lDq 65 0 0 (lMq 103 false 9) lNq) (lDq 65 0 0 (lMq 103 false 9) lNq)) (lBq 178 8 2 (lDq 65 0 0 (lMq 103 false 9) (lDq 17 8 0 (lMq 103 false 9) lNq)) (lDq 65 0 0 (lMq 103 false 9) (lDq 17 8 0 (lMq 103 false 9) (lDq 139 10 0 (lFq 4 10 0 (lMq 107 false 0) (lMq 108 false 0)) (.ask 6 .neq (.var 11) (.bin .add .i64 (.var 1) (.var 9)) (.ask 4 .lss (.var 11) (.bin .add .i64 (.var 1) (.var 9)) (lMq 107 false 0) (lMq 108 false 0)) (lMq 120 true 0))))))))
def Ou:List AV:=[vM,cN,(.str 3 6579297),(.agg (uS 0)),(.sl (uS 8) 1 4 .any),(.agg (uS 10)),(.agg [(I 200),(I 50)])]
theorem No:aB.cz (CF aE) 155 Hq ⟨ae 155 (fx 155) Ou,[],.nil,aQ⟩ [] []=true:=by kernel_rfl
def J6:aB:=(lBq 955 0 2 (lBq 178 8 2 (lDq 65 0 0 (.leaf 53 (.tuple [(.agg [(I 0),(I 0),(.str 0 0),.nils]),(I 9)])) lNq) (lDq 65 0 0 (.leaf 53 (.tuple [(.agg [(I 0),(I 0),(.str 0 0),.nils]),(I 9)])) lNq)) (lBq 178 8 2 (lDq 65 0 0 (.leaf 53 (.tuple [(.agg [(I 0),(I 0),(.str 0 0),.nils]),(I 9)])) (lDq 17 8 0 (.leaf 53 (.tuple [(.agg [(I 0),(I 0),(.str 0 0),.nils]),(I 9)])) lNq)) (lDq 65 0 0 (.leaf 53 (.tuple [(.agg [(I 0),(I 0),(.str 0 0),.nils]),(I 9)])) (lDq 17 8 0 (.leaf 53 (.tuple [(.agg [(I 0),(I 0),(.str 0 0),.nils]),(I 9)])) (.leaf 114 (.tuple [(.agg [(I 0),(.int .i64 (.bin .add .i64 (.var 1) (.var 9))),(.str 0 0),.nils]),(I 0)]))))))
def Qn:List AV:=[vM,cN,(.str 3 6579297),(.agg (uS 0)),(.sl (uS 8) 1 4 .any),(.agg (uS 10)),(.agg [(I 200),(I 50)])]
theorem PQ:aB.cz (CF aE) 156 J6 ⟨ae 156 (fx 156) Qn,[],.nil,aQ⟩ [] []=true:=by kernel_rfl
def Hf:aB:=(lMq 304 true 0)
def Ov:List AV:=[vM,rN,(.str 5 435744764535),(.agg (uS 0)),(.sl (uS 8) 1 4 .any),(.agg [(I 200),(I 50)])]
theorem Nc:aB.cz (CF aE) 154 Hf ⟨ae 154 (fx 154) Ov,[],.nil,aQ⟩ [] []=true:=by kernel_rfl
def Cn:aB:=(lBq 757 10 2 (lDq 185 10 0 (lFq 4 10 0 lNq (lMq 108 false 0)) lNq) (lDq 185 10 0 (lFq 4 10 0 (lMq 107 false 0) (lMq 108 false 0)) (lDq 6 11 0 (lFq 4 11 0 (lMq 107 false 0) (lMq 108 false 0)) (lMq 120 true 0))))
def Ju:List AV:=[vM,rN,(.str 5 435744764535),(.agg (uS 0)),(.sl (uS 8) 1 4 .any),(.agg (uS 10)),(.agg [(I 200),(I 50)])]
theorem IN:aB.cz (CF aE) 155 Cn ⟨ae 155 (fx 155) Ju,[],.nil,aQ⟩ [] []=true:=by kernel_rfl
def Ef:aB:=(lBq 281 8 2 (.leaf 20 (.tuple [(.agg (uS 8)),(I 0)])) (.leaf 20 (.tuple [(.agg (uS 8)),(I 0)])))
def Lq:List AV:=[vM,rN,(.str 5 435744764535),(.agg (uS 0)),(.sl (uS 8) 1 4 .any),(.agg (uS 10)),(.agg [(I 200),(I 50)])]
theorem KV:aB.cz (CF aE) 156 Ef ⟨ae 156 (fx 156) Lq,[],.nil,aQ⟩ [] []=true:=by kernel_rfl
def Hg:aB:=(lMq 307 true 0)
def Ow:List AV:=[vM,rN,(.str 4 1684104562),(.agg (uS 0)),.nils,(.agg [(I 200),(I 50)])]
theorem Nd:aB.cz (CF aE) 154 Hg ⟨ae 154 (fx 154) Ow,[],.nil,aQ⟩ [] []=true:=by kernel_rfl
def Co:aB:=(lBq 760 10 2 (lBq 178 0 2 (lCq 45 10 0 (lAq 4 10 0 (lMq 107 false 0) (lMq 108 false 0)) (lCq 6 11 1 (lAq 4 11 1 (lMq 107 false 0) (lMq 108 false 0)) (lMq 120 true 0))) (lCq 45 10 0 (lAq 4 10 0 (lMq 107 false 0) (lMq 108 false 0)) (lCq 6 11 1 (lAq 4 11 1 (lMq 107 false 0) (lMq 108 false 0)) (lMq 120 true 0)))) (lBq 178 0 2 (lCq 45 10 0 (lAq 4 10 0 (lMq 107 false 0) (lMq 108 false 0)) (lCq 6 11 1 (lAq 4 11 1 (lMq 107 false 0) (lMq 108 false 0)) (lMq 120 true 0))) (lCq 45 10 0 (lAq 4 10 0 (lMq 107 false 0) (lMq 108 false 0)) (lCq 6 11 1 (lAq 4 11 1 (lMq 107 false 0) (lMq 108 false 0)) (lMq 120 true 0)))))
def Jv:List AV:=[vM,rN,(.str 4 1684104562),(.agg (uS 0)),.nils,(.agg (uS 10)),(.agg [(I 200),(I 50)])]
theorem IP:aB.cz (CF aE) 155 Co ⟨ae 155 (fx 155) Jv,[],.nil,aQ⟩ [] []=true:=by kernel_rfl
def Eg:aB:=(lBq 284 0 2 (.leaf 20 (.tuple [(.agg (uS 0)),(I 0)])) (.leaf 20 (.tuple [(.agg (uS 0)),(I 0)])))
def Lr:List AV:=[vM,rN,(.str 4 1684104562),(.agg (uS 0)),.nils,(.agg (uS 10)),(.agg [(I 200),(I 50)])]
theorem KW:aB.cz (CF aE) 156 Eg ⟨ae 156 (fx 156) Lr,[],.nil,aQ⟩ [] []=true:=by kernel_rfl
end Ln
