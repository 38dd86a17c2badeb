/- A part of the proof. No condition. -/
import Derived.Test.YtecbfpngkfdkoaaGreatP8
import Derived.Test.YtecbfpngkfdkoaaGreatP9
namespace Ln
open Go.Sx Go Go.Proofs
abbrev okF(f:Nat)(p:gE):Prop:=Jf Tryz.prog f=some p
theorem ft{f:Nat}{p:gE}(h:Jf Tryz.prog f=some p:=by kernel_rfl):okF f p:=h
theorem I8:okF jd vC:=ft
theorem y9:okF dN j8:=ft
theorem Qa:okF nz Ek:=ft
theorem KD:okF jU xI:=ft
theorem Vv:okF tQ KE:=ft
theorem NZ:okF jz cmp_isNaN_int:=ft
theorem Mv:okF b9 Aq:=ft
theorem Mw:okF kV Ar:=ft
theorem Tz:okF j0 Gu:=ft
theorem Mx:okF kM zQ:=ft
theorem Qb:okF ny Er:=ft
theorem Qc:okF nL Et:=ft
theorem Qd:okF du En:=ft
theorem Vw:okF dR KA:=ft
theorem Qe:okF n9 Eu:=ft
theorem TA:okF mz Ho:=ft
theorem My:okF gy Aa:=ft
theorem Mz:okF gA As:=ft
theorem N0:okF ig Cv:=ft
theorem I9:okF bE vL:=ft
theorem Qf:okF fL Ew:=ft
theorem KF:okF fN xJ:=ft
theorem BQ:okF cd Au:=ft
theorem Cw:okF bS mH:=ft
theorem Cx:okF fi mK:=ft
theorem Ey:okF dz qu:=ft
theorem Ez:okF dA qx:=ft
theorem AY:okF bM lZ:=ft
theorem Dn:okF fM oa:=ft
theorem Gc:okF dL sb:=ft
theorem Qg:okF je El:=ft
theorem MA:okF kE zy:=ft
theorem N1:okF ic qO:=ft
theorem Qh:okF od EA:=ft
theorem N2:okF ml Cy:=ft
theorem Qi:okF nX Em:=ft
theorem Qj:okF ja Eo:=ft
theorem jV:okF bz da:=ft
theorem qP:okF cv fO:=ft
theorem lE:okF bD dB:=ft
theorem Vx:okF tn Kv:=ft
theorem abb:okF Af Tj:=ft
theorem TB:okF j7 Hx:=ft
theorem MB:okF dS z7:=ft
theorem abc:okF ik Tl:=ft
theorem N3:okF mg Cs:=ft
theorem TC:okF qJ Hi:=ft
theorem Gd:okF gP rX:=ft
theorem HP:okF dV tK:=ft
theorem EB:okF ew qv:=ft
theorem Ge:okF fj rY:=ft
theorem Gf:okF bO rW:=ft
theorem Ja:okF iW vd:=ft
theorem Jb:okF gx o5:=ft
theorem KG:okF dE xr:=ft
theorem Jc:okF gp o4:=ft
theorem MC:okF gw zG:=ft
theorem HQ:okF cZ tF:=ft
theorem HR:okF aZ tR:=ft
theorem Jd:okF iZ vN:=ft
theorem EC:okF mG qp:=ft
end Ln
