/- A part of the proof. No condition. -/
import Derived.Test.YtecbfpngkfdkoaaGreatP9
import Derived.Test.YtecbfpngkfdkoaaGreatP10
set_option linter.unusedSimpArgs false
set_option linter.unusedVariables false
set_option linter.unusedSectionVars false
namespace Ln
open Go.Sx Go Go.Proofs
theorem DW:iH Tryz.prog fS=some pU:=by kernel_rfl
theorem K6:iH Tryz.prog kh=some zI:=by kernel_rfl
theorem FH:iH Tryz.prog gJ=some sw:=by kernel_rfl
theorem P4:iH Tryz.prog nV=some FI:=by kernel_rfl
theorem Jc:iH Tryz.prog gx=some xc:=by kernel_rfl
theorem HP:iH Tryz.prog fD=some u5:=by kernel_rfl
theorem NY:iH Tryz.prog l7=some BM:=by kernel_rfl
theorem HQ:iH Tryz.prog ik=some uH:=by kernel_rfl
theorem K7:iH Tryz.prog kg=some zR:=by kernel_rfl
theorem BE:iH Tryz.prog ki=some mM:=by kernel_rfl
theorem K8:iH Tryz.prog kF=some zS:=by kernel_rfl
theorem K9:iH Tryz.prog eJ=some zL:=by kernel_rfl
theorem P5:iH Tryz.prog fg=some FC:=by kernel_rfl
theorem NZ:iH Tryz.prog mq=some CQ:=by kernel_rfl
theorem Jd:iH Tryz.prog jw=some xd:=by kernel_rfl
theorem DX:iH Tryz.prog aR=some qg:=by kernel_rfl
theorem La:iH Tryz.prog kG=some zT:=by kernel_rfl
theorem FJ:iH Tryz.prog dZ=some sx:=by kernel_rfl
theorem HR:iH Tryz.prog cW=some u6:=by kernel_rfl
theorem xf:iH Tryz.prog dH=some jW:=by kernel_rfl
theorem zV:iH Tryz.prog ez=some lX:=by kernel_rfl
theorem zX:iH Tryz.prog eA=some lZ:=by kernel_rfl
theorem vT:iH Tryz.prog bX=some jd:=by kernel_rfl
theorem yp:iH Tryz.prog dY=some kH:=by kernel_rfl
theorem Lb:iH Tryz.prog bQ=some zJ:=by kernel_rfl
theorem Je:iH Tryz.prog jx=some xg:=by kernel_rfl
theorem P6:iH Tryz.prog nW=some FL:=by kernel_rfl
theorem Lc:iH Tryz.prog ir=some zY:=by kernel_rfl
theorem P7:iH Tryz.prog nX=some FM:=by kernel_rfl
theorem Tu:iH Tryz.prog rm=some II:=by kernel_rfl
theorem N0:iH Tryz.prog mc=some CR:=by kernel_rfl
theorem P8:iH Tryz.prog nY=some FO:=by kernel_rfl
theorem Ld:iH Tryz.prog kI=some zZ:=by kernel_rfl
theorem Jf:iH Tryz.prog fa=some mr:=by kernel_rfl
theorem Le:iH Tryz.prog kJ=some z3:=by kernel_rfl
theorem Jg:iH Tryz.prog jo=some xh:=by kernel_rfl
theorem VN:iH Tryz.prog je=some N1:=by kernel_rfl
theorem Lf:iH Tryz.prog kE=some zK:=by kernel_rfl
theorem Lg:iH Tryz.prog km=some zv:=by kernel_rfl
theorem P9:iH Tryz.prog nJ=some FP:=by kernel_rfl
theorem N2:iH Tryz.prog gT=some CS:=by kernel_rfl
theorem FQ:iH Tryz.prog gK=some sy:=by kernel_rfl
theorem Lh:iH Tryz.prog kx=some z4:=by kernel_rfl
theorem Jh:iH Tryz.prog jq=some w8:=by kernel_rfl
theorem Li:iH Tryz.prog ky=some zQ:=by kernel_rfl
theorem Ji:iH Tryz.prog eZ=some w5:=by kernel_rfl
theorem Tv:iH Tryz.prog gG=some Jj:=by kernel_rfl
theorem Tw:iH Tryz.prog gD=some IS:=by kernel_rfl
theorem Qa:iH Tryz.prog iU=some FR:=by kernel_rfl
theorem Lj:iH Tryz.prog fQ=some zM:=by kernel_rfl
theorem gL:iH Tryz.prog aL=some cn:=by kernel_rfl
theorem mu:iH Tryz.prog bC=some eb:=by kernel_rfl
end Ln
