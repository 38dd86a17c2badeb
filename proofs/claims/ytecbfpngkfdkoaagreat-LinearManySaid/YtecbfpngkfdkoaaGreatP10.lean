/- A part of the proof. No condition. -/
import Derived.Test.YtecbfpngkfdkoaaGreatP8
import Derived.Test.YtecbfpngkfdkoaaGreatP9
namespace Ln
open Go.Sx Go Go.Proofs
abbrev okF(f:Nat)(p:ej):Prop:=Hb Tryz.prog f=some p
theorem db{f:Nat}{p:ej}(h:Hb Tryz.prog f=some p:=by kernel_rfl):okF f p:=h
theorem GU:okF gn r8:=db
theorem vE:okF cX ir:=db
theorem NP:okF kV B7:=db
theorem IV:okF hZ tY:=db
theorem RP:okF pY IW:=db
theorem LP:okF gP cmp_isNaN_int:=db
theorem Km:okF fV xb:=db
theorem P6:okF mO Ei:=db
theorem Ko:okF iO wJ:=db
theorem NQ:okF kU Cc:=db
theorem GV:okF nP rh:=db
theorem LQ:okF jP zj:=db
theorem NR:okF lx Cd:=db
theorem RT:okF pw IE:=db
theorem P7:okF jZ E6:=db
theorem Kq:okF eM wS:=db
theorem Kr:okF eP xc:=db
theorem NS:okF lp Ce:=db
theorem IX:okF ed tZ:=db
theorem yH:okF eN xd:=db
theorem zk:okF bX j7:=db
theorem zl:okF dM j9:=db
theorem Cg:okF eH mI:=db
theorem Ch:okF eJ mL:=db
theorem xR:okF bS jC:=db
theorem AF:okF eb ly:=db
theorem DY:okF cV nX:=db
theorem NT:okF gh B8:=db
theorem Ks:okF iN wu:=db
theorem LR:okF jQ zm:=db
theorem RU:okF pZ IY:=db
theorem NU:okF iV Cj:=db
theorem RW:okF qa IZ:=db
theorem UW:okF ta Lp:=db
theorem P8:okF mR Fx:=db
theorem RX:okF qc I0:=db
theorem NV:okF lz Ck:=db
theorem RY:okF lQ IL:=db
theorem Xm:okF jD P9:=db
theorem RZ:okF js I1:=db
theorem Qa:okF mU Fy:=db
theorem I2:okF ia ua:=db
theorem NW:okF gj Cl:=db
theorem LU:okF jN zh:=db
theorem NX:okF gk Cb:=db
theorem LV:okF ft zn:=db
theorem LW:okF jK zg:=db
theorem UX:okF gZ LX:=db
theorem UY:okF lj Ly:=db
theorem R6:okF qd I3:=db
theorem nf:okF bH ef:=db
theorem jl:okF aX cw:=db
theorem R7:okF pE IN:=db
theorem Xn:okF wX PT:=db
theorem Qb:okF im Ff:=db
theorem Kt:okF c9 wQ:=db
theorem Xo:okF fy PV:=db
theorem LY:okF jM zc:=db
theorem Qc:okF mT EW:=db
theorem DZ:okF fi nV:=db
theorem Fz:okF de pP:=db
theorem Cm:okF dj mJ:=db
theorem D0:okF dO nW:=db
theorem D9:okF bz nU:=db
theorem GW:okF gf ra:=db
theorem GX:okF eL lN:=db
theorem I4:okF cD tL:=db
theorem GY:okF eK lM:=db
end Ln
