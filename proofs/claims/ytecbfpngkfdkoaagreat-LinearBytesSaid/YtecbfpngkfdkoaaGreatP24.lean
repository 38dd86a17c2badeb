/- A part of the proof. No condition. -/
import Derived.Test.YtecbfpngkfdkoaaGreatP10
import Derived.Test.YtecbfpngkfdkoaaGreatP22
import Derived.Test.YtecbfpngkfdkoaaGreatP23
namespace Ln
open Go.Sx Go Go.Proofs
def I7:Tz:=⟨23,Unit,fun _=>[],fun _=>.bool true,fun _ _ _=>rfl⟩
theorem MA:NR Tryz.prog .nil I7:=⟨⟨_,NA (n:=23) (by decide)⟩,fun _=>Q8⟩
def FO:List Tz:=[I7]
theorem Vr:∀F∈FO,NR Tryz.prog .nil F:=by intro F h;unfold FO at h;simp only[zk,List.not_mem_nil,or_false]at h;subst h;exact MA
def NW(f:Nat):Bool:=Nat.beq f 161||Nat.beq f 95||Nat.beq f 97||Nat.beq f 44||Nat.beq f 103
noncomputable def CY:cX:=Se Z2 FP NW FO
theorem aea{f:Nat}(h:(FO.map (·.f)).contains f=false):∀l h nx,CY.sum f l h nx=none:=by refine Dw fun F hF e=>?_;have:(FO.map (·.f)).contains f=true:=List.contains_iff_mem.2 (Pu.2 ⟨F,hF,e⟩);rw[h]at this;cases this
theorem nq{f:Nat}{p:dB}(hp:Ay Tryz.prog f=some p)(hg:zT CY f=some (fx f):=by kernel_rfl)(ho:(FO.map (·.f)).contains f=false:=by kernel_rfl)(hr:NW f=false:=by kernel_rfl):Fn CY f p:=⟨by rw[hg,Xk hp],aea ho,hr⟩
theorem Sy{f:Nat}{p:dB}(hp:Ay Tryz.prog f=some p)(hg:zT CY f=some (fx f):=by kernel_rfl)(ho:(FO.map (·.f)).contains f=false:=by kernel_rfl)(hr:NW f=true:=by kernel_rfl):Lp CY f p:=⟨by rw[hg,Xk hp],aea ho,hr⟩
theorem Pm:I7∈FO:=by simp[FO]
theorem Vs:FO.Pairwise fun a b=>a.f≠b.f:=by simp[FO]
theorem ai4:tq CY where
 orc:=rfl
 raw _:=rfl
 pL:=nq yp
 B0:=nq GR
 w6:=nq CB
 Ah:=nq Fp
 yl:=nq DW
 BQ:=nq GS
 zR:=nq Fq
 wY:=nq CC
 ym:=nq DX
 w5:=nq CD
 wZ:=nq CE
 ye:=nq DY
 BF:=nq GU
 mg:=nq AW
 yL:=Sy IJ
 me:=nq AX
 fZ:=nq zp
 sO:=nq AY
 eh:=nq zq
 ry:=nq zr
 rv:=nq zt
 sG:=nq IK
 sL:=nq AZ
 hP:=nq A0
 eQ:=nq Ba
 gi:=Sy zu
 iH:=nq xo
 cY:=nq zv
 bN:=nq zw
 ri:=nq zx
 rO:=nq zy
 wG:=nq CG
 wF:=nq CH
 l8:=nq uQ
 yM:=nq DZ
 sV:=nq Bb
 yN:=nq D0
 sW:=nq Bc
 w7:=nq CI
 Ai:=nq Ft
 vz:=nq BT
 w8:=nq CJ
 nL:=nq xp
 nZ:=nq xq
 mz:=nq wk
 nY:=nq xr
 pT:=nq yu
 pU:=nq yv
 Du:=Sy IL
 sF:=Sy IM
 lP:=Sy GV
 yD:=nq D8
 zN:=nq Fu
 yo:=nq D9
 zO:=nq Fv
 wA:=nq CL
 xU:=nq Ea
 B4:=nq GW
 BE:=nq GX
 pn:=nq CM
 No h nx:=FJ Pm Vs () h nx
theorem ai3{ρ:Nat→Int}(w0:W0)(hL:nO Tryz.prog .nil w0):Ctx Tryz.prog ρ w0 CY:=aaj HN Rx mix Vr FP NW w0 hL
end Ln
