/- A part of the proof. No condition. -/
import Derived.Test.YtecbfpngkfdkoaaGreatP13
import Derived.KernelRfl
set_option linter.unusedSimpArgs false
set_option linter.unusedVariables false
set_option linter.unusedSectionVars false
namespace Ln
open Go.Sx Go Go.Proofs
def KF:aB:=(.leaf 496 (.tuple [(.agg [(I 2),(I 0),(.str 0 0),.nils]),(I 0)]))
def Qp:List AV:=[vM,qN,(.agg [(I 200),(I 50)])]
theorem Qq:aB.cz (CF aE) 132 KF ⟨ae 132 (fx 132) Qp,[],.nil,aQ⟩ [] []=true:=by kernel_rfl
def E3:aB:=(.leaf 434 (.tuple [(.agg [(I 0),(I 0),(.str 0 0),.nils]),(I 0)]))
def Lz:List AV:=[vM,cN,(.agg [(I 200),(I 50)])]
theorem LA:aB.cz (CF aE) 132 E3 ⟨ae 132 (fx 132) Lz,[],.nil,aQ⟩ [] []=true:=by kernel_rfl
def Dk:aB:=(.leaf 434 (.tuple [(.agg [(I 0),(I 0),(.str 0 0),.nils]),(I 0)]))
def Jx:List AV:=[vM,rN,(.agg [(I 200),(I 50)])]
theorem Jy:aB.cz (CF aE) 132 Dk ⟨ae 132 (fx 132) Jx,[],.nil,aQ⟩ [] []=true:=by kernel_rfl
def MB:aB:=(lBq 915 0 2 (lMq 311 true 0) (lMq 103 false 9))
def Uf:List AV:=[vM,qN,(.str 3 7632240),(.agg (uS 0)),(.sl (uS 8) 1 4 .any),(.agg [(I 200),(I 50)])]
theorem SB:aB.cz (CF aE) 149 MB ⟨ae 149 (fx 149) Uf,[],.nil,aQ⟩ [] []=true:=by kernel_rfl
def GV:aB:=(lBq 911 10 2 (lFq 131 10 0 lNq (lGq 6 10 0 (lMq 133 false 0) lNq)) (lFq 131 10 0 (lMq 133 false 0) (lGq 6 10 0 (lMq 133 false 0) (lFq 60 11 0 (lMq 133 false 0) (lGq 6 11 0 (lMq 133 false 0) (lMq 229 true 0))))))
def OQ:List AV:=[vM,qN,(.str 3 7632240),(.agg (uS 0)),(.sl (uS 8) 1 4 .any),(.agg (uS 10)),(.agg [(I 200),(I 50)])]
theorem MY:aB.cz (CF aE) 150 GV ⟨ae 150 (fx 150) OQ,[],.nil,aQ⟩ [] []=true:=by kernel_rfl
def JN:aB:=(lBq 904 0 2 (lBq 105 8 2 (.leaf 196 (.tuple [(.agg [(I 2),(I 0),(.str 0 0),(.sl (uS 8) 1 4 .any)]),(I 0)])) (.leaf 196 (.tuple [(.agg [(I 2),(I 0),(.str 0 0),(.sl (uS 8) 1 4 .any)]),(I 0)]))) (lBq 105 8 2 (.leaf 89 (.tuple [(.agg [(I 0),(I 0),(.str 0 0),.nils]),(I 9)])) (.leaf 89 (.tuple [(.agg [(I 0),(I 0),(.str 0 0),.nils]),(I 9)]))))
def Qr:List AV:=[vM,qN,(.str 3 7632240),(.agg (uS 0)),(.sl (uS 8) 1 4 .any),(.agg (uS 10)),(.agg [(I 200),(I 50)])]
theorem Pw:aB.cz (CF aE) 151 JN ⟨ae 151 (fx 151) Qr,[],.nil,aQ⟩ [] []=true:=by kernel_rfl
def MC:aB:=(lBq 974 0 2 (lMq 311 true 0) (lMq 103 false 9))
def Ug:List AV:=[vM,qN,(.str 3 7632240),(.agg [(vI 0),(vI 1),(.str 0 0),(.sl (uS 2) 1 4 .any)]),(.sl (uS 8) 1 4 .any),(.agg [(I 200),(I 50)])]
theorem SC:aB.cz (CF aE) 149 MC ⟨ae 149 (fx 149) Ug,[],.nil,aQ⟩ [] []=true:=by kernel_rfl
def GW:aB:=(lBq 970 10 2 (lFq 131 10 0 lNq (lGq 6 10 0 (lMq 133 false 0) lNq)) (lFq 131 10 0 (lMq 133 false 0) (lGq 6 10 0 (lMq 133 false 0) (lFq 60 11 0 (lMq 133 false 0) (lGq 6 11 0 (lMq 133 false 0) (lMq 229 true 0))))))
def OS:List AV:=[vM,qN,(.str 3 7632240),(.agg [(vI 0),(vI 1),(.str 0 0),(.sl (uS 2) 1 4 .any)]),(.sl (uS 8) 1 4 .any),(.agg (uS 10)),(.agg [(I 200),(I 50)])]
theorem MZ:aB.cz (CF aE) 150 GW ⟨ae 150 (fx 150) OS,[],.nil,aQ⟩ [] []=true:=by kernel_rfl
def JO:aB:=(lBq 963 0 2 (lBq 105 8 2 (.leaf 239 (.tuple [(.agg [(I 2),(I 0),(.str 0 0),(.sl (uS 2++uS 8) 2 4 .any)]),(I 0)])) (.leaf 239 (.tuple [(.agg [(I 2),(I 0),(.str 0 0),(.sl (uS 2++uS 8) 2 4 .any)]),(I 0)]))) (lBq 105 8 2 (.leaf 89 (.tuple [(.agg [(I 0),(I 0),(.str 0 0),.nils]),(I 9)])) (.leaf 89 (.tuple [(.agg [(I 0),(I 0),(.str 0 0),.nils]),(I 9)]))))
def Qs:List AV:=[vM,qN,(.str 3 7632240),(.agg [(vI 0),(vI 1),(.str 0 0),(.sl (uS 2) 1 4 .any)]),(.sl (uS 8) 1 4 .any),(.agg (uS 10)),(.agg [(I 200),(I 50)])]
theorem Px:aB.cz (CF aE) 151 JO ⟨ae 151 (fx 151) Qs,[],.nil,aQ⟩ [] []=true:=by kernel_rfl
def MD:aB:=(lBq 1033 0 2 (lMq 311 true 0) (lMq 103 false 9))
def Uh:List AV:=[vM,qN,(.str 3 7632240),(.agg [(vI 0),(vI 1),(.str 0 0),(.sl (uS 2++uS 4) 2 4 .any)]),(.sl (uS 8) 1 4 .any),(.agg [(I 200),(I 50)])]
theorem SE:aB.cz (CF aE) 149 MD ⟨ae 149 (fx 149) Uh,[],.nil,aQ⟩ [] []=true:=by kernel_rfl
def GX:aB:=(lBq 1029 10 2 (lFq 131 10 0 lNq (lGq 6 10 0 (lMq 133 false 0) lNq)) (lFq 131 10 0 (lMq 133 false 0) (lGq 6 10 0 (lMq 133 false 0) (lFq 60 11 0 (lMq 133 false 0) (lGq 6 11 0 (lMq 133 false 0) (lMq 229 true 0))))))
def OT:List AV:=[vM,qN,(.str 3 7632240),(.agg [(vI 0),(vI 1),(.str 0 0),(.sl (uS 2++uS 4) 2 4 .any)]),(.sl (uS 8) 1 4 .any),(.agg (uS 10)),(.agg [(I 200),(I 50)])]
theorem M0:aB.cz (CF aE) 150 GX ⟨ae 150 (fx 150) OT,[],.nil,aQ⟩ [] []=true:=by kernel_rfl
def JP:aB:=(lBq 1022 0 2 (lBq 105 8 2 (.leaf 282 (.tuple [(.agg [(I 2),(I 0),(.str 0 0),(.sl (uS 2++uS 4++uS 8) 3 4 .any)]),(I 0)])) (.leaf 282 (.tuple [(.agg [(I 2),(I 0),(.str 0 0),(.sl (uS 2++uS 4++uS 8) 3 4 .any)]),(I 0)]))) (lBq 105 8 2 (.leaf 89 (.tuple [(.agg [(I 0),(I 0),(.str 0 0),.nils]),(I 9)])) (.leaf 89 (.tuple [(.agg [(I 0),(I 0),(.str 0 0),.nils]),(I 9)]))))
def Qt:List AV:=[vM,qN,(.str 3 7632240),(.agg [(vI 0),(vI 1),(.str 0 0),(.sl (uS 2++uS 4) 2 4 .any)]),(.sl (uS 8) 1 4 .any),(.agg (uS 10)),(.agg [(I 200),(I 50)])]
theorem Py:aB.cz (CF aE) 151 JP ⟨ae 151 (fx 151) Qt,[],.nil,aQ⟩ [] []=true:=by kernel_rfl
def ME:aB:=(lBq 1092 0 2 (lMq 310 false 0) (lMq 103 false 9))
def Ui:List AV:=[vM,qN,(.str 3 7632240),(.agg [(vI 0),(vI 1),(.str 0 0),(.sl (uS 2++uS 4++uS 6) 3 4 .any)]),(.sl (uS 8) 1 4 .any),(.agg [(I 200),(I 50)])]
theorem SG:aB.cz (CF aE) 149 ME ⟨ae 149 (fx 149) Ui,[],.nil,aQ⟩ [] []=true:=by kernel_rfl
def GY:aB:=(lBq 1088 10 2 (lFq 131 10 0 lNq (lGq 6 10 0 (lMq 133 false 0) lNq)) (lFq 131 10 0 (lMq 133 false 0) (lGq 6 10 0 (lMq 133 false 0) (lFq 60 11 0 (lMq 133 false 0) (lGq 6 11 0 (lMq 133 false 0) (lMq 229 true 0))))))
def OU:List AV:=[vM,qN,(.str 3 7632240),(.agg [(vI 0),(vI 1),(.str 0 0),(.sl (uS 2++uS 4++uS 6) 3 4 .any)]),(.sl (uS 8) 1 4 .any),(.agg (uS 10)),(.agg [(I 200),(I 50)])]
theorem M4:aB.cz (CF aE) 150 GY ⟨ae 150 (fx 150) OU,[],.nil,aQ⟩ [] []=true:=by kernel_rfl
def JQ:aB:=(lBq 1081 0 2 (lBq 105 8 2 (.leaf 325 (.tuple [(.agg [(I 2),(I 0),(.str 0 0),(.sl (uS 2++uS 4++uS 6++uS 8) 4 4 .any)]),(I 0)])) (.leaf 325 (.tuple [(.agg [(I 2),(I 0),(.str 0 0),(.sl (uS 2++uS 4++uS 6++uS 8) 4 4 .any)]),(I 0)]))) (lBq 105 8 2 (.leaf 89 (.tuple [(.agg [(I 0),(I 0),(.str 0 0),.nils]),(I 9)])) (.leaf 89 (.tuple [(.agg [(I 0),(I 0),(.str 0 0),.nils]),(I 9)]))))
def Qu:List AV:=[vM,qN,(.str 3 7632240),(.agg [(vI 0),(vI 1),(.str 0 0),(.sl (uS 2++uS 4++uS 6) 3 4 .any)]),(.sl (uS 8) 1 4 .any),(.agg (uS 10)),(.agg [(I 200),(I 50)])]
theorem Pz:aB.cz (CF aE) 151 JQ ⟨ae 151 (fx 151) Qu,[],.nil,aQ⟩ [] []=true:=by kernel_rfl
def MF:aB:=(lBq 876 0 2 (lMq 250 false 0) (lMq 103 false 9))
def Uj:List AV:=[vM,qN,(.str 3 7628135),(.agg (uS 0)),.nils,(.agg [(I 200),(I 50)])]
theorem SH:aB.cz (CF aE) 149 MF ⟨ae 149 (fx 149) Uj,[],.nil,aQ⟩ [] []=true:=by kernel_rfl
def GZ:aB:=(lBq 829 10 2 (lBq 183 0 2 (lMq 217 false 13) (lMq 184 false 9)) (lBq 183 0 2 (lMq 217 false 13) (lMq 184 false 9)))
def OV:List AV:=[vM,qN,(.str 3 7628135),(.agg (uS 0)),.nils,(.agg (uS 10)),(.agg [(I 200),(I 50)])]
theorem M5:aB.cz (CF aE) 150 GZ ⟨ae 150 (fx 150) OV,[],.nil,aQ⟩ [] []=true:=by kernel_rfl
def JR:aB:=(lBq 805 0 2 (.leaf 320 (.tuple [(.agg [(I 2),(I 0),(.str 0 0),.nils]),(I 0)])) (.leaf 170 (.tuple [(.agg [(I 0),(I 0),(.str 0 0),.nils]),(I 9)])))
def Qv:List AV:=[vM,qN,(.str 3 7628135),(.agg (uS 0)),.nils,(.agg (uS 10)),(.agg [(I 200),(I 50)])]
theorem PA:aB.cz (CF aE) 151 JR ⟨ae 151 (fx 151) Qv,[],.nil,aQ⟩ [] []=true:=by kernel_rfl
def MG:aB:=(lBq 935 0 2 (lMq 251 true 0) (lMq 103 false 9))
def Uk:List AV:=[vM,qN,(.str 3 7628135),(.agg [(vI 0),(vI 1),(.str 0 0),(.sl (uS 2) 1 4 .any)]),.nils,(.agg [(I 200),(I 50)])]
theorem SJ:aB.cz (CF aE) 149 MG ⟨ae 149 (fx 149) Uk,[],.nil,aQ⟩ [] []=true:=by kernel_rfl
def G9:aB:=(lBq 888 10 2 (lBq 183 0 2 (lBq 258 2 2 (lAq 71 10 2 (lMq 133 false 0) (lEq 6 10 2 (lMq 133 false 0) (lAq 60 11 3 (lMq 133 false 0) (lEq 6 11 3 (lMq 133 false 0) (lMq 229 true 0))))) (lAq 71 10 2 (lMq 133 false 0) (lEq 6 10 2 (lMq 133 false 0) (lAq 60 11 3 (lMq 133 false 0) (lEq 6 11 3 (lMq 133 false 0) (lMq 229 true 0)))))) (lMq 184 false 9)) (lBq 183 0 2 (lBq 258 2 2 (lAq 71 10 2 (lMq 133 false 0) (lEq 6 10 2 (lMq 133 false 0) (lAq 60 11 3 (lMq 133 false 0) (lEq 6 11 3 (lMq 133 false 0) (lMq 229 true 0))))) (lAq 71 10 2 (lMq 133 false 0) (lEq 6 10 2 (lMq 133 false 0) (lAq 60 11 3 (lMq 133 false 0) (lEq 6 11 3 (lMq 133 false 0) (lMq 229 true 0)))))) (lMq 184 false 9)))
def OW:List AV:=[vM,qN,(.str 3 7628135),(.agg [(vI 0),(vI 1),(.str 0 0),(.sl (uS 2) 1 4 .any)]),.nils,(.agg (uS 10)),(.agg [(I 200),(I 50)])]
theorem M6:aB.cz (CF aE) 150 G9 ⟨ae 150 (fx 150) OW,[],.nil,aQ⟩ [] []=true:=by kernel_rfl
def JS:aB:=(lBq 864 0 2 (.leaf 320 (.tuple [(.agg [(I 2),(I 0),(.str 0 0),.nils]),(I 0)])) (.leaf 170 (.tuple [(.agg [(I 0),(I 0),(.str 0 0),.nils]),(I 9)])))
def Qw:List AV:=[vM,qN,(.str 3 7628135),(.agg [(vI 0),(vI 1),(.str 0 0),(.sl (uS 2) 1 4 .any)]),.nils,(.agg (uS 10)),(.agg [(I 200),(I 50)])]
theorem PB:aB.cz (CF aE) 151 JS ⟨ae 151 (fx 151) Qw,[],.nil,aQ⟩ [] []=true:=by kernel_rfl
def MH:aB:=(lBq 994 0 2 (lMq 251 true 0) (lMq 103 false 9))
def Ul:List AV:=[vM,qN,(.str 3 7628135),(.agg [(vI 0),(vI 1),(.str 0 0),(.sl (uS 2++uS 4) 2 4 .any)]),.nils,(.agg [(I 200),(I 50)])]
theorem SK:aB.cz (CF aE) 149 MH ⟨ae 149 (fx 149) Ul,[],.nil,aQ⟩ [] []=true:=by kernel_rfl
def Ha:aB:=(lBq 947 10 2 (lBq 183 0 2 (lBq 258 2 2 (lAq 71 10 2 (lMq 133 false 0) (lEq 6 10 2 (lMq 133 false 0) (lAq 60 11 3 (lMq 133 false 0) (lEq 6 11 3 (lMq 133 false 0) (lMq 229 true 0))))) (lAq 71 10 2 (lMq 133 false 0) (lEq 6 10 2 (lMq 133 false 0) (lAq 60 11 3 (lMq 133 false 0) (lEq 6 11 3 (lMq 133 false 0) (lMq 229 true 0)))))) (lMq 184 false 9)) (lBq 183 0 2 (lBq 258 2 2 (lAq 71 10 2 (lMq 133 false 0) (lEq 6 10 2 (lMq 133 false 0) (lAq 60 11 3 (lMq 133 false 0) (lEq 6 11 3 (lMq 133 false 0) (lMq 229 true 0))))) (lAq 71 10 2 (lMq 133 false 0) (lEq 6 10 2 (lMq 133 false 0) (lAq 60 11 3 (lMq 133 false 0) (lEq 6 11 3 (lMq 133 false 0) (lMq 229 true 0)))))) (lMq 184 false 9)))
def OX:List AV:=[vM,qN,(.str 3 7628135),(.agg [(vI 0),(vI 1),(.str 0 0),(.sl (uS 2++uS 4) 2 4 .any)]),.nils,(.agg (uS 10)),(.agg [(I 200),(I 50)])]
theorem M7:aB.cz (CF aE) 150 Ha ⟨ae 150 (fx 150) OX,[],.nil,aQ⟩ [] []=true:=by kernel_rfl
def JT:aB:=(lBq 923 0 2 (.leaf 438 (.tuple [(.agg [(I 2),(I 0),(.str 0 0),(.sl (uS 4) 1 4 .any)]),(I 0)])) (.leaf 170 (.tuple [(.agg [(I 0),(I 0),(.str 0 0),.nils]),(I 9)])))
def Qx:List AV:=[vM,qN,(.str 3 7628135),(.agg [(vI 0),(vI 1),(.str 0 0),(.sl (uS 2++uS 4) 2 4 .any)]),.nils,(.agg (uS 10)),(.agg [(I 200),(I 50)])]
theorem PC:aB.cz (CF aE) 151 JT ⟨ae 151 (fx 151) Qx,[],.nil,aQ⟩ [] []=true:=by kernel_rfl
def MI:aB:=(lBq 1053 0 2 (lMq 251 true 0) (lMq 103 false 9))
def Um:List AV:=[vM,qN,(.str 3 7628135),(.agg [(vI 0),(vI 1),(.str 0 0),(.sl (uS 2++uS 4++uS 6) 3 4 .any)]),.nils,(.agg [(I 200),(I 50)])]
theorem SL:aB.cz (CF aE) 149 MI ⟨ae 149 (fx 149) Um,[],.nil,aQ⟩ [] []=true:=by kernel_rfl
def Hb:aB:=(lBq 1006 10 2 (lBq 183 0 2 (lBq 258 2 2 (lAq 71 10 2 (lMq 133 false 0) (lEq 6 10 2 (lMq 133 false 0) (lAq 60 11 3 (lMq 133 false 0) (lEq 6 11 3 (lMq 133 false 0) (lMq 229 true 0))))) (lAq 71 10 2 (lMq 133 false 0) (lEq 6 10 2 (lMq 133 false 0) (lAq 60 11 3 (lMq 133 false 0) (lEq 6 11 3 (lMq 133 false 0) (lMq 229 true 0)))))) (lMq 184 false 9)) (lBq 183 0 2 (lBq 258 2 2 (lAq 71 10 2 (lMq 133 false 0) (lEq 6 10 2 (lMq 133 false 0) (lAq 60 11 3 (lMq 133 false 0) (lEq 6 11 3 (lMq 133 false 0) (lMq 229 true 0))))) (lAq 71 10 2 (lMq 133 false 0) (lEq 6 10 2 (lMq 133 false 0) (lAq 60 11 3 (lMq 133 false 0) (lEq 6 11 3 (lMq 133 false 0) (lMq 229 true 0)))))) (lMq 184 false 9)))
def OY:List AV:=[vM,qN,(.str 3 7628135),(.agg [(vI 0),(vI 1),(.str 0 0),(.sl (uS 2++uS 4++uS 6) 3 4 .any)]),.nils,(.agg (uS 10)),(.agg [(I 200),(I 50)])]
theorem M8:aB.cz (CF aE) 150 Hb ⟨ae 150 (fx 150) OY,[],.nil,aQ⟩ [] []=true:=by kernel_rfl
def JU:aB:=(lBq 982 0 2 (.leaf 540 (.tuple [(.agg [(I 2),(I 0),(.str 0 0),(.sl (uS 4++uS 6) 2 4 .any)]),(I 0)])) (.leaf 170 (.tuple [(.agg [(I 0),(I 0),(.str 0 0),.nils]),(I 9)])))
def Qy:List AV:=[vM,qN,(.str 3 7628135),(.agg [(vI 0),(vI 1),(.str 0 0),(.sl (uS 2++uS 4++uS 6) 3 4 .any)]),.nils,(.agg (uS 10)),(.agg [(I 200),(I 50)])]
theorem PD:aB.cz (CF aE) 151 JU ⟨ae 151 (fx 151) Qy,[],.nil,aQ⟩ [] []=true:=by kernel_rfl
def MJ:aB:=(lBq 695 0 2 (lBq 87 0 0 lNq (lMq 61 false 9)) (lBq 87 0 0 (lFq 32 1 99 (lMq 117 true 0) (lMq 116 false 0)) (lMq 61 false 9)))
def Un:List AV:=[vM,cN,(.str 3 6516329),(.agg (uS 0)),.nils,(.agg [(I 200),(I 50)])]
theorem SM:aB.cz (CF aE) 149 MJ ⟨ae 149 (fx 149) Un,[],.nil,aQ⟩ [] []=true:=by kernel_rfl
def Hc:aB:=(lBq 800 10 2 (lBq 198 0 2 (lBq 87 0 0 lNq (lMq 64 false 9)) (lBq 87 0 0 (lFq 112 10 0 lNq (lGq 6 10 0 (lMq 133 false 0) lNq)) (lMq 64 false 9))) (lBq 198 0 2 (lBq 87 0 0 lNq (lMq 64 false 9)) (lBq 87 0 0 (lFq 112 10 0 (lMq 133 false 0) (lGq 6 10 0 (lMq 133 false 0) (.ask 60 .lss (.var 11) (.bin .add .i64 (.var 1) (.lit 1)) (lMq 133 false 0) (.ask 6 .gtr (.var 11) (.bin .add .i64 (.var 1) (.lit 1)) (lMq 133 false 0) (lMq 229 true 0))))) (lMq 64 false 9))))
def OZ:List AV:=[vM,cN,(.str 3 6516329),(.agg (uS 0)),.nils,(.agg (uS 10)),(.agg [(I 200),(I 50)])]
theorem M9:aB.cz (CF aE) 150 Hc ⟨ae 150 (fx 150) OZ,[],.nil,aQ⟩ [] []=true:=by kernel_rfl
def JV:aB:=(lBq 791 0 2 (lBq 87 0 0 lNq (.leaf 50 (.tuple [(.agg [(I 0),(I 0),(.str 0 0),.nils]),(I 9)]))) (lBq 87 0 0 (.leaf 109 (.tuple [(.agg [(I 0),(.int .i64 (.bin .add .i64 (.var 1) (.lit 1))),(.str 0 0),.nils]),(I 0)])) (.leaf 50 (.tuple [(.agg [(I 0),(I 0),(.str 0 0),.nils]),(I 9)]))))
def Qz:List AV:=[vM,cN,(.str 3 6516329),(.agg (uS 0)),.nils,(.agg (uS 10)),(.agg [(I 200),(I 50)])]
theorem PE:aB.cz (CF aE) 151 JV ⟨ae 151 (fx 151) Qz,[],.nil,aQ⟩ [] []=true:=by kernel_rfl
def GQ:aB:=(lMq 702 true 0)
def O0:List AV:=[vM,cN,(.str 4 1684104562),(.agg (uS 0)),.nils,(.agg [(I 200),(I 50)])]
theorem MV:aB.cz (CF aE) 149 GQ ⟨ae 149 (fx 149) O0,[],.nil,aQ⟩ [] []=true:=by kernel_rfl
def Cj:aB:=(lBq 829 10 2 (lBq 91 0 2 (lAq 71 10 0 (lMq 133 false 0) (lEq 6 10 0 (lMq 133 false 0) (lAq 60 11 1 (lMq 133 false 0) (lEq 6 11 1 (lMq 133 false 0) (lMq 229 true 0))))) (lAq 71 10 0 (lMq 133 false 0) (lEq 6 10 0 (lMq 133 false 0) (lAq 60 11 1 (lMq 133 false 0) (lEq 6 11 1 (lMq 133 false 0) (lMq 229 true 0)))))) (lBq 91 0 2 (lAq 71 10 0 (lMq 133 false 0) (lEq 6 10 0 (lMq 133 false 0) (lAq 60 11 1 (lMq 133 false 0) (lEq 6 11 1 (lMq 133 false 0) (lMq 229 true 0))))) (lAq 71 10 0 (lMq 133 false 0) (lEq 6 10 0 (lMq 133 false 0) (lAq 60 11 1 (lMq 133 false 0) (lEq 6 11 1 (lMq 133 false 0) (lMq 229 true 0)))))))
def Jz:List AV:=[vM,cN,(.str 4 1684104562),(.agg (uS 0)),.nils,(.agg (uS 10)),(.agg [(I 200),(I 50)])]
theorem IJ:aB.cz (CF aE) 150 Cj ⟨ae 150 (fx 150) Jz,[],.nil,aQ⟩ [] []=true:=by kernel_rfl
def Eb:aB:=(lBq 713 0 2 (.leaf 68 (.tuple [(.agg (uS 0)),(I 0)])) (.leaf 68 (.tuple [(.agg (uS 0)),(I 0)])))
def LB:List AV:=[vM,cN,(.str 4 1684104562),(.agg (uS 0)),.nils,(.agg (uS 10)),(.agg [(I 200),(I 50)])]
theorem KQ:aB.cz (CF aE) 151 Eb ⟨ae 151 (fx 151) LB,[],.nil,aQ⟩ [] []=true:=by kernel_rfl
def MK:aB:=(lMq 842 true 0)
def Uo:List AV:=[vM,cN,(.str 3 6579297),(.agg (uS 0)),(.sl (uS 8) 1 4 .any),(.agg [(I 200),(I 50)])]
theorem SN:aB.cz (CF aE) 149 MK ⟨ae 149 (fx 149) Uo,[],.nil,aQ⟩ [] []=true:=by kernel_rfl
def Hd:aB:=(lBq 969 10 2 (lBq 215 0 2 (lBq 91 8 2 (lBq 27 0 0 lNq (lMq 64 false 9)) (lBq 27 0 0 lNq (lMq 64 false 9))) (lBq 91 8 2 (lBq 27 0 0 (lBq 0 8 0 lNq (lMq 64 false 9)) (lMq 64 false 9)) (lBq 27 0 0 (lBq 0 8 0 (lFq 112 10 0 lNq (lGq 6 10 0 (lMq 133 false 0) lNq)) (lMq 64 false 9)) (lMq 64 false 9)))) (lBq 215 0 2 (lBq 91 8 2 (lBq 27 0 0 lNq (lMq 64 false 9)) (lBq 27 0 0 lNq (lMq 64 false 9))) (lBq 91 8 2 (lBq 27 0 0 (lBq 0 8 0 lNq (lMq 64 false 9)) (lMq 64 false 9)) (lBq 27 0 0 (lBq 0 8 0 (lFq 112 10 0 (lMq 133 false 0) (lGq 6 10 0 (lMq 133 false 0) (.ask 60 .lss (.var 11) (.bin .add .i64 (.var 1) (.var 9)) (lMq 133 false 0) (.ask 6 .gtr (.var 11) (.bin .add .i64 (.var 1) (.var 9)) (lMq 133 false 0) (lMq 229 true 0))))) (lMq 64 false 9)) (lMq 64 false 9)))))
def O4:List AV:=[vM,cN,(.str 3 6579297),(.agg (uS 0)),(.sl (uS 8) 1 4 .any),(.agg (uS 10)),(.agg [(I 200),(I 50)])]
theorem Na:aB.cz (CF aE) 150 Hd ⟨ae 150 (fx 150) O4,[],.nil,aQ⟩ [] []=true:=by kernel_rfl
def JW:aB:=(lBq 977 0 2 (lBq 91 8 2 (lBq 27 0 0 lNq (.leaf 50 (.tuple [(.agg [(I 0),(I 0),(.str 0 0),.nils]),(I 9)]))) (lBq 27 0 0 lNq (.leaf 50 (.tuple [(.agg [(I 0),(I 0),(.str 0 0),.nils]),(I 9)])))) (lBq 91 8 2 (lBq 27 0 0 (lBq 0 8 0 lNq (.leaf 50 (.tuple [(.agg [(I 0),(I 0),(.str 0 0),.nils]),(I 9)]))) (.leaf 50 (.tuple [(.agg [(I 0),(I 0),(.str 0 0),.nils]),(I 9)]))) (lBq 27 0 0 (lBq 0 8 0 (.leaf 109 (.tuple [(.agg [(I 0),(.int .i64 (.bin .add .i64 (.var 1) (.var 9))),(.str 0 0),.nils]),(I 0)])) (.leaf 50 (.tuple [(.agg [(I 0),(I 0),(.str 0 0),.nils]),(I 9)]))) (.leaf 50 (.tuple [(.agg [(I 0),(I 0),(.str 0 0),.nils]),(I 9)])))))
def QA:List AV:=[vM,cN,(.str 3 6579297),(.agg (uS 0)),(.sl (uS 8) 1 4 .any),(.agg (uS 10)),(.agg [(I 200),(I 50)])]
theorem PF:aB.cz (CF aE) 151 JW ⟨ae 151 (fx 151) QA,[],.nil,aQ⟩ [] []=true:=by kernel_rfl
def GR:aB:=(lMq 784 true 0)
def O5:List AV:=[vM,rN,(.str 5 435744764535),(.agg (uS 0)),(.sl (uS 8) 1 4 .any),(.agg [(I 200),(I 50)])]
theorem MW:aB.cz (CF aE) 149 GR ⟨ae 149 (fx 149) O5,[],.nil,aQ⟩ [] []=true:=by kernel_rfl
def Ck:aB:=(lBq 911 10 2 (lFq 131 10 0 lNq (lGq 6 10 0 (lMq 133 false 0) lNq)) (lFq 131 10 0 (lMq 133 false 0) (lGq 6 10 0 (lMq 133 false 0) (lFq 60 11 0 (lMq 133 false 0) (lGq 6 11 0 (lMq 133 false 0) (lMq 229 true 0))))))
def JA:List AV:=[vM,rN,(.str 5 435744764535),(.agg (uS 0)),(.sl (uS 8) 1 4 .any),(.agg (uS 10)),(.agg [(I 200),(I 50)])]
theorem IK:aB.cz (CF aE) 150 Ck ⟨ae 150 (fx 150) JA,[],.nil,aQ⟩ [] []=true:=by kernel_rfl
def Ec:aB:=(lBq 795 8 2 (.leaf 68 (.tuple [(.agg (uS 8)),(I 0)])) (.leaf 68 (.tuple [(.agg (uS 8)),(I 0)])))
def LC:List AV:=[vM,rN,(.str 5 435744764535),(.agg (uS 0)),(.sl (uS 8) 1 4 .any),(.agg (uS 10)),(.agg [(I 200),(I 50)])]
theorem KR:aB.cz (CF aE) 151 Ec ⟨ae 151 (fx 151) LC,[],.nil,aQ⟩ [] []=true:=by kernel_rfl
def GU:aB:=(lMq 702 true 0)
def O8:List AV:=[vM,rN,(.str 4 1684104562),(.agg (uS 0)),.nils,(.agg [(I 200),(I 50)])]
theorem MX:aB.cz (CF aE) 149 GU ⟨ae 149 (fx 149) O8,[],.nil,aQ⟩ [] []=true:=by kernel_rfl
def Cl:aB:=(lBq 829 10 2 (lBq 91 0 2 (lAq 71 10 0 (lMq 133 false 0) (lEq 6 10 0 (lMq 133 false 0) (lAq 60 11 1 (lMq 133 false 0) (lEq 6 11 1 (lMq 133 false 0) (lMq 229 true 0))))) (lAq 71 10 0 (lMq 133 false 0) (lEq 6 10 0 (lMq 133 false 0) (lAq 60 11 1 (lMq 133 false 0) (lEq 6 11 1 (lMq 133 false 0) (lMq 229 true 0)))))) (lBq 91 0 2 (lAq 71 10 0 (lMq 133 false 0) (lEq 6 10 0 (lMq 133 false 0) (lAq 60 11 1 (lMq 133 false 0) (lEq 6 11 1 (lMq 133 false 0) (lMq 229 true 0))))) (lAq 71 10 0 (lMq 133 false 0) (lEq 6 10 0 (lMq 133 false 0) (lAq 60 11 1 (lMq 133 false 0) (lEq 6 11 1 (lMq 133 false 0) (lMq 229 true 0)))))))
def JB:List AV:=[vM,rN,(.str 4 1684104562),(.agg (uS 0)),.nils,(.agg (uS 10)),(.agg [(I 200),(I 50)])]
theorem IL:aB.cz (CF aE) 150 Cl ⟨ae 150 (fx 150) JB,[],.nil,aQ⟩ [] []=true:=by kernel_rfl
def Ed:aB:=(lBq 713 0 2 (.leaf 68 (.tuple [(.agg (uS 0)),(I 0)])) (.leaf 68 (.tuple [(.agg (uS 0)),(I 0)])))
def LD:List AV:=[vM,rN,(.str 4 1684104562),(.agg (uS 0)),.nils,(.agg (uS 10)),(.agg [(I 200),(I 50)])]
theorem KT:aB.cz (CF aE) 151 Ed ⟨ae 151 (fx 151) LD,[],.nil,aQ⟩ [] []=true:=by kernel_rfl
end Ln
