/- A part of the proof. No condition. -/
import Derived.Test.YtecbfpngkfdkoaaGreatP8
import Derived.Test.YtecbfpngkfdkoaaGreatP9
namespace Ln
open Go.Sx Go Go.Proofs
abbrev okF(f:Nat)(p:fN):Prop:=IS Tryz.prog f=some p
theorem dW{f:Nat}{p:fN}(h:IS Tryz.prog f=some p:=by kernel_rfl):okF f p:=h
theorem IH:okF iE ud:=dW
theorem xV:okF dh jC:=dW
theorem P9:okF da Dn:=dW
theorem Ks:okF jo wL:=dW
theorem VC:okF sm Kt:=dW
theorem NV:okF je cmp_isNaN_int:=dW
theorem Mo:okF hN y8:=dW
theorem TC:okF jt Fq:=dW
theorem Mp:okF jR yE:=dW
theorem Qa:okF mL Du:=dW
theorem Qc:okF dL Dr:=dW
theorem VD:okF dT Ko:=dW
theorem TD:okF fW Gq:=dW
theorem Mq:okF fQ yQ:=dW
theorem Mr:okF fS y9:=dW
theorem Qd:okF mX Dv:=dW
theorem Ku:okF fj wM:=dW
theorem AH:okF fR zb:=dW
theorem Bs:okF cu lG:=dW
theorem Bt:okF ed lI:=dW
theorem Dw:okF fL pj:=dW
theorem Dx:okF fM pt:=dW
theorem zO:okF bZ kQ:=dW
theorem Cl:okF fi np:=dW
theorem EZ:okF df qp:=dW
theorem Qe:okF dj Dp:=dW
theorem Ms:okF jQ yr:=dW
theorem Qf:okF nj Dq:=dW
theorem pO:okF bP fk:=dW
theorem kh:okF bu cM:=dW
theorem VE:okF ru Kj:=dW
theorem abJ:okF yT Tn:=dW
theorem TE:okF jz Gz:=dW
theorem Mt:okF dv yM:=dW
theorem abK:okF gB Tq:=dW
theorem NW:okF lg Bi:=dW
theorem TF:okF pJ Gk:=dW
theorem E7:okF gf qn:=dW
theorem Hg:okF dz r9:=dW
theorem Dy:okF dG pn:=dW
theorem Fa:okF ef qo:=dW
theorem Fb:okF bD ql:=dW
theorem II:okF ig tR:=dW
theorem IJ:okF fP nN:=dW
theorem Kv:okF cW wj:=dW
theorem IK:okF fO nM:=dW
theorem Mv:okF jV yP:=dW
theorem zP:okF jw kz:=dW
theorem VF:okF rQ Kd:=dW
theorem Qg:okF jU Dd:=dW
theorem NX:okF lj Bj:=dW
theorem YW:okF vl NF:=dW
theorem TG:okF pK GF:=dW
theorem TH:okF jA GG:=dW
theorem Qh:okF iA De:=dW
theorem VG:okF gE Ke:=dW
theorem IL:okF iC tW:=dW
theorem Hh:okF aM qY:=dW
theorem Kw:okF eQ wD:=dW
theorem Kx:okF bV wh:=dW
theorem Hi:okF aN rX:=dW
theorem Hj:okF dy rW:=dW
theorem Ky:okF fg wE:=dW
end Ln
