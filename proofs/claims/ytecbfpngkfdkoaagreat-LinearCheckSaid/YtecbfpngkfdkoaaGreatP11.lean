/- A part of the proof. No condition. -/
import Derived.Test.YtecbfpngkfdkoaaGreatP9
import Derived.Test.YtecbfpngkfdkoaaGreatP10
set_option linter.unusedSimpArgs false
set_option linter.unusedVariables false
set_option linter.unusedSectionVars false
namespace Ln
open Go.Sx Go Go.Proofs
theorem Dj:iI Tryz.prog ft=some oU:=by kernel_rfl
theorem Kj:iI Tryz.prog jC=some yR:=by kernel_rfl
theorem GW:iI Tryz.prog gV=some uC:=by kernel_rfl
theorem GX:iI Tryz.prog gW=some uD:=by kernel_rfl
theorem Ng:iI Tryz.prog kY=some Bi:=by kernel_rfl
theorem GY:iI Tryz.prog gQ=some tZ:=by kernel_rfl
theorem Kk:iI Tryz.prog jA=some y7:=by kernel_rfl
theorem Ci:iI Tryz.prog kT=some nd:=by kernel_rfl
theorem Kl:iI Tryz.prog fm=some y8:=by kernel_rfl
theorem Km:iI Tryz.prog cJ=some yU:=by kernel_rfl
theorem Pg:iI Tryz.prog de=some EU:=by kernel_rfl
theorem Ko:iI Tryz.prog fo=some y9:=by kernel_rfl
theorem Kq:iI Tryz.prog jR=some za:=by kernel_rfl
theorem EX:iI Tryz.prog dI=some rq:=by kernel_rfl
theorem zb:iI Tryz.prog dR=some kR:=by kernel_rfl
theorem Kr:iI Tryz.prog cM=some yS:=by kernel_rfl
theorem So:iI Tryz.prog jF=some Ip:=by kernel_rfl
theorem Iq:iI Tryz.prog iQ=some wE:=by kernel_rfl
theorem Ph:iI Tryz.prog nf=some EY:=by kernel_rfl
theorem Ks:iI Tryz.prog cZ=some zc:=by kernel_rfl
theorem Nh:iI Tryz.prog lf=some Bw:=by kernel_rfl
theorem Kt:iI Tryz.prog jE=some yE:=by kernel_rfl
theorem Pj:iI Tryz.prog ng=some EZ:=by kernel_rfl
theorem Sp:iI Tryz.prog qp=some HR:=by kernel_rfl
theorem Ni:iI Tryz.prog lp=some Cj:=by kernel_rfl
theorem Pk:iI Tryz.prog nh=some E1:=by kernel_rfl
theorem Ku:iI Tryz.prog jS=some zd:=by kernel_rfl
theorem Nj:iI Tryz.prog gz=some BS:=by kernel_rfl
theorem Pl:iI Tryz.prog mV=some EI:=by kernel_rfl
theorem Ir:iI Tryz.prog en=some lA:=by kernel_rfl
theorem Kv:iI Tryz.prog jT=some ze:=by kernel_rfl
theorem Is:iI Tryz.prog iR=some wF:=by kernel_rfl
theorem UY:iI Tryz.prog iA=some Nk:=by kernel_rfl
theorem Kw:iI Tryz.prog jQ=some yT:=by kernel_rfl
theorem Pm:iI Tryz.prog mU=some E3:=by kernel_rfl
theorem Nl:iI Tryz.prog gy=some Ck:=by kernel_rfl
theorem E4:iI Tryz.prog fY=some ru:=by kernel_rfl
theorem Kx:iI Tryz.prog fp=some zf:=by kernel_rfl
theorem It:iI Tryz.prog iL=some wz:=by kernel_rfl
theorem Ky:iI Tryz.prog dG=some y0:=by kernel_rfl
theorem Iu:iI Tryz.prog ep=some wG:=by kernel_rfl
theorem Iv:iI Tryz.prog iK=some wu:=by kernel_rfl
theorem Sq:iI Tryz.prog fT=some Iw:=by kernel_rfl
theorem Sr:iI Tryz.prog jK=some HZ:=by kernel_rfl
theorem Pn:iI Tryz.prog nj=some E5:=by kernel_rfl
theorem Kz:iI Tryz.prog fj=some yV:=by kernel_rfl
theorem lB:iI Tryz.prog bz=some dJ:=by kernel_rfl
end Ln
