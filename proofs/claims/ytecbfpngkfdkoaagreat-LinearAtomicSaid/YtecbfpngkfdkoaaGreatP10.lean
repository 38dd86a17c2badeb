/- A part of the proof. No condition. -/
import Derived.Test.YtecbfpngkfdkoaaGreatP8
import Derived.Test.YtecbfpngkfdkoaaGreatP9
namespace Ln
open Go.Sx Go Go.Proofs
abbrev okF(f:Nat)(p:fq):Prop:=I3 Tryz.prog f=some p
theorem dJ{f:Nat}{p:fq}(h:I3 Tryz.prog f=some p:=by kernel_rfl):okF f p:=h
theorem IV:okF hU uo:=dJ
theorem yD:okF dm jb:=dJ
theorem Qv:okF eH DZ:=dJ
theorem KZ:okF iR xf:=dJ
theorem Vs:okF r8 K1:=dJ
theorem Ot:okF iF cmp_isNaN_int:=dJ
theorem MY:okF dX Aa:=dJ
theorem MZ:okF jA Ab:=dJ
theorem TB:okF nX Gn:=dJ
theorem M4:okF jv zu:=dJ
theorem Qw:okF l7 Ed:=dJ
theorem Qx:okF fV Ea:=dJ
theorem Vt:okF iK KX:=dJ
theorem Qy:okF mc Ee:=dJ
theorem TC:okF n9 Hh:=dJ
theorem M5:okF fI zJ:=dJ
theorem M6:okF fM Ac:=dJ
theorem Qz:okF hN Ef:=dJ
theorem K4:okF eX xg:=dJ
theorem Bq:okF fJ Ad:=dJ
theorem BZ:okF cq kR:=dJ
theorem B0:okF dV kU:=dJ
theorem Eg:okF cU nR:=dJ
theorem Eh:okF fD nU:=dJ
theorem AI:okF bZ kj:=dJ
theorem CZ:okF eQ mv:=dJ
theorem FW:okF di pL:=dJ
theorem QB:okF bI D0:=dJ
theorem QD:okF mu D9:=dJ
theorem ox:okF bR eZ:=dJ
theorem jN:okF bx cV:=dJ
theorem Vu:okF qS KR:=dJ
theorem abu:okF zM Tm:=dJ
theorem TD:okF iZ Hp:=dJ
theorem M7:okF dw zG:=dJ
theorem abv:okF gp Tp:=dJ
theorem Ou:okF ku BU:=dJ
theorem TE:okF od Hb:=dJ
theorem FX:okF fW pH:=dJ
theorem HI:okF dx rJ:=dJ
theorem Ei:okF dF nS:=dJ
theorem FY:okF dW pI:=dJ
theorem FZ:okF bH pG:=dJ
theorem IW:okF gY tV:=dJ
theorem IX:okF fH mK:=dJ
theorem K5:okF cZ wS:=dJ
theorem IY:okF fG mJ:=dJ
theorem yE:okF dp ja:=dJ
theorem F0:okF mj pD:=dJ
theorem Vv:okF qX KP:=dJ
theorem QE:okF ml DQ:=dJ
theorem Vw:okF mO KQ:=dJ
theorem YB:okF vU Od:=dJ
theorem HJ:okF gA qM:=dJ
theorem F9:okF fU pF:=dJ
theorem B6:okF cr kP:=dJ
theorem HK:okF gy qI:=dJ
theorem IZ:okF gZ tW:=dJ
theorem K6:okF cX wQ:=dJ
theorem K7:okF eP w8:=dJ
theorem HL:okF cp qZ:=dJ
theorem K8:okF c9 w9:=dJ
theorem Ov:okF kv BV:=dJ
theorem HM:okF gz qY:=dJ
theorem Ga:okF df pE:=dJ
end Ln
