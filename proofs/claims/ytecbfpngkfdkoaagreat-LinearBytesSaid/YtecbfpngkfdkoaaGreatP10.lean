/- A part of the proof. No condition. -/
import Derived.Test.YtecbfpngkfdkoaaGreatP8
import Derived.Test.YtecbfpngkfdkoaaGreatP9
namespace Ln
open Go.Sx Go Go.Proofs
abbrev okF(f:Nat)(p:dB):Prop:=Ay Tryz.prog f=some p
theorem cM{f:Nat}{p:dB}(h:Ay Tryz.prog f=some p:=by kernel_rfl):okF f p:=h
theorem yp:okF jD sK:=cM
theorem GR:okF lW AU:=cM
theorem CB:okF gy tD:=cM
theorem Fp:okF jS yq:=cM
theorem DW:okF cQ we:=cM
theorem GS:okF lU AS:=cM
theorem Fq:okF jP yg:=cM
theorem CC:okF bx tE:=cM
theorem DX:okF aY wg:=cM
theorem CD:okF dD tF:=cM
theorem CE:okF dE tG:=cM
theorem DY:okF iv v5:=cM
theorem GU:okF lK AI:=cM
theorem AW:okF b5 kh:=cM
theorem IJ:okF fT yU:=cM
theorem AX:okF bZ kg:=cM
theorem zp:okF bt iW:=cM
theorem AY:okF aM kc:=cM
theorem zq:okF aN da:=cM
theorem zr:okF ef m7:=cM
theorem zt:okF dc iY:=cM
theorem IK:okF dM y8:=cM
theorem AZ:okF cN o8:=cM
theorem A0:okF aR kl:=cM
theorem Ba:okF bY ke:=cM
theorem zu:okF aZ fJ:=cM
theorem xo:okF bl eg:=cM
theorem zv:okF aS de:=cM
theorem zw:okF az cB:=cM
theorem zx:okF df m8:=cM
theorem zy:okF cn jd:=cM
theorem CG:okF gv tw:=cM
theorem CH:okF gm tv:=cM
theorem uQ:okF aW iF:=cM
theorem DZ:okF dU wi:=cM
theorem Bb:okF dx o9:=cM
theorem D0:okF iG wj:=cM
theorem Bc:okF bK pg:=cM
theorem CI:okF eF tH:=cM
theorem Ft:okF jT yr:=cM
theorem BT:okF fK rb:=cM
theorem CJ:okF gz tI:=cM
theorem xp:okF aH kq:=cM
theorem xq:okF dp kE:=cM
theorem wk:okF b6 jE:=cM
theorem xr:okF cA kF:=cM
theorem yu:okF bw lX:=cM
theorem yv:okF bX lY:=cM
theorem IL:okF cT ze:=cM
theorem IM:okF fS yT:=cM
theorem GV:okF di mK:=cM
theorem D8:okF dZ lV:=cM
theorem Fu:okF jN xV:=cM
theorem D9:okF cO wh:=cM
theorem Fv:okF jO x8:=cM
theorem CL:okF cS tu:=cM
theorem Ea:okF du vZ:=cM
theorem GW:okF eP Bd:=cM
theorem GX:okF eM AH:=cM
theorem CM:okF eC nC:=cM
end Ln
