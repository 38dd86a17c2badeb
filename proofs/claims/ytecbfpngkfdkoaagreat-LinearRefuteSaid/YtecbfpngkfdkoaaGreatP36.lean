/- A part of the proof. No condition. -/
import Derived.Test.YtecbfpngkfdkoaaGreatP10
import Derived.Test.YtecbfpngkfdkoaaGreatP12
import Derived.Test.YtecbfpngkfdkoaaGreatP11
import Derived.Test.YtecbfpngkfdkoaaGreatP18
import Derived.Test.YtecbfpngkfdkoaaGreatP35
import Derived.Test.YtecbfpngkfdkoaaGreatP8
set_option linter.unusedSimpArgs false
set_option linter.unusedVariables false
set_option linter.unusedSectionVars false
namespace Ln
open Go.Sx Go
structure FnR(C:cD)(f:Nat)(p:fK):Prop where
 get:CC C f=some p
 off:∀ l h nx,C.sum f l h nx=none
 lS:C.lS f=true
def Ww(f:Nat):Bool:=Nat.beq f 75||Nat.beq f 28
structure Std(C:cD)(X:Kn):Prop where
 orc:C.orc=[]
 raw:∀ f,C.raw f=Ww f
 ok:X.Ok
 uW:Fn C fS pU
 CA:Fn C kh zI
 wz:Fn C gJ sw
 HT:Fn C nV FI
 AO:Fn C gx xc
 yB:Fn C fD u5
 D4:Fn C l7 BM
 xS:Fn C ik uH
 CV:FnR C kg zR
 qY:Fn C ki mM
 CW:Fn C kF zS
 CG:Fn C eJ zL
 HI:Fn C fg FC
 Ez:Fn C mq CQ
 AP:Fn C jw xd
 u7:Fn C aR qg
 CX:Fn C kG zT
 wA:Fn C dZ sx
 yC:Fn C cW u6
 m8:Fn C dH jW
 py:Fn C ez lX
 pz:Fn C eA lZ
 gY:Fn C bX jd
 nZ:Fn C dY kH
 CD:Fn C bQ zJ
 AN:Fn C jx xg
 HU:Fn C nW FL
 CY:Fn C ir zY
 HS:Fn C nX FM
 JK:Fn C rm II
 EA:Fn C mc CR
 HV:Fn C nY FO
 CZ:Fn C kI zZ
 AQ:Fn C fa mr
 C0:Fn C kJ z3
 AR:Fn C jo xh
 N5:Fn C je N1
 CE:Fn C kE zK
 B6:Fn C km zv
 HW:Fn C nJ FP
 EB:Fn C gT CS
 wC:Fn C gK sy
 C1:Fn C kx z4
 Ar:Fn C jq w8
 CP:Fn C ky zQ
 Ap:Fn C eZ w5
 Kl:Fn C gG Jj
 J7:Fn C gD IS
 HX:Fn C iU FR
 CH:Fn C fQ zM
 du:Fn C aL cn
 fT:Fn C bC eb
 aox:∀ i,i<3→∀ h nx,C.sum z7 [X.m,dO i,kj] h nx=some (.tuple [.agg (eS (cd i)),I 0],h,nx)
 ath:∀ c s aZZ,dR c.tN s→aZZ.length=c.ar→∀ h nx,C.sum Cx [X.m,dO c.tN,.str c.name.1 c.name.2,.agg (eS s),aC aZZ,kj] h nx=some (.tuple [.bool (X.Mo c s aZZ),I (X.Mp c s aZZ)],h,nx)
 Vw:∀ c s aZZ r,dR c.tN s→aZZ.length=c.ar→∀ h nx,C.sum w9 [X.m,dO c.tN,.str c.name.1 c.name.2,.agg (eS s),aC aZZ,.agg (eU r),kj] h nx=some (.tuple [.bool (X.pE c s aZZ r),I (X.pF c s aZZ r)],h,nx)
 anD:∀ c s aZZ r,dR c.tN s→aZZ.length=c.ar→∀ h nx,C.sum zH [X.m,dO c.tN,.str c.name.1 c.name.2,.agg (eS s),aC aZZ,.agg (eU r),kj] h nx=some (.tuple [.agg (eS (X.rh c s aZZ r)),I (X.uy c s aZZ r)],h,nx)
 aoy:∀ i,i<3→∀ h nx,C.sum z8 [X.m,dO i,kj] h nx=some (.tuple [.agg (eS (cd i)),I 0],h,nx)
 atH:∀ c s aZZ,dR c.tN s→aZZ.length=c.ar→∀ h nx,C.sum CO [X.m,dO c.tN,.str c.name.1 c.name.2,.agg (eS s),aC aZZ,kj] h nx=some (.tuple [.bool (X.Mo c s aZZ),I (X.Mp c s aZZ)],h,nx)
 VK:∀ c s aZZ r,dR c.tN s→aZZ.length=c.ar→∀ h nx,C.sum xb [X.m,dO c.tN,.str c.name.1 c.name.2,.agg (eS s),aC aZZ,.agg (eU r),kj] h nx=some (.tuple [.bool (X.pE c s aZZ r),I (X.pF c s aZZ r)],h,nx)
 anQ:∀ c s aZZ r,dR c.tN s→aZZ.length=c.ar→∀ h nx,C.sum zP [X.m,dO c.tN,.str c.name.1 c.name.2,.agg (eS s),aC aZZ,.agg (eU r),kj] h nx=some (.tuple [.agg (eS (X.rh c s aZZ r)),I (X.uy c s aZZ r)],h,nx)
 EC:∀ i,i<3→∀ h nx,C.sum xl [X.m,I 4,dO i] h nx=some (.tuple [.agg (X.dec i),.bool true],h,nx)
 z9:∀ i,i<3→∀ h nx,C.sum n8 [X.m,I 4,dO i] h nx=some (.tuple [.agg (X.dec i),.bool true],h,nx)
 uE:∀ u,∀ h nx,C.sum ku [.agg (eU u)] h nx=some (I (if v7 u=true then 0 else 1),h,nx)
 pJ:∀ s t:St,s.kids.length≤3→t.kids.length≤3→∀ h nx,C.sum il [.agg (eS s),.agg (eS t)] h nx=some (I (wV s t),h,nx)
 xm:∀ u,∀ h nx,C.sum qR [.agg (eU u)] h nx=some (I (if v7 u=true then 0 else 1),h,nx)
 AS:∀ s t:St,s.kids.length≤3→t.kids.length≤3→∀ h nx,C.sum sA [.agg (eS s),.agg (eS t)] h nx=some (I (wV s t),h,nx)
 aoz:∀ s t:St,s.kids.length≤3→t.kids.length≤3→∀ h nx,C.sum xn [.agg (eS s),.agg (eS t)] h nx=some (.bool (decide (s=t)),h,nx)
 RZ:∀ s:St,s.kids.length≤3→∀ h nx,C.sum gS [.agg (eS s)] h nx=some (.agg (eS s),h,nx)
 UC:∀ h nx,C.sum uo [] h nx=some (X.m,h,nx)
 R6:∀ h nx,C.sum l8 [] h nx=some (.bool true,h,nx)
theorem Std.rw{C:cD}{X:Kn}(S:Std C X){f:Nat}(h:Ww f=true):C.raw f=true:=by rw[S.raw,h]
theorem Std.nr{C:cD}{X:Kn}(S:Std C X){f:Nat}(h:Ww f=false):C.raw f=false:=by rw[S.raw,h]
theorem aI.known{C:cD}{f:Nat}{l:List AV}{h:T ag}{nx:Key}{v:AV}{R:Out→T ag→Key→Prop}(hs:C.sum f l h nx=some (v,h,nx))(hR:R (.ret v) h nx):aI C f l h nx R:=.inl ⟨v,h,nx,hs,hR⟩
end Ln
/-
 LN: the machine with what is known of calls. No condition.
-/
namespace Ln
open Go.Sx Go Go.Proofs
def akU:IF:=⟨12,Unit,fun _=>[],fun _=>vM,fun _ _ _=>rfl⟩
theorem aq7:ma Tryz.prog .nil akU:=⟨⟨_,lK (n:=12) (by decide)⟩,fun _=>QE⟩
def TA:IF:=⟨23,Unit,fun _=>[],fun _=>.bool true,fun _ _ _=>rfl⟩
theorem akV:ma Tryz.prog .nil TA:=⟨⟨_,lK (n:=23) (by decide)⟩,fun _=>atq⟩
def gr:List IF:=[Sv,IG,My,Sw,IH,Mz,N6,N7,FU,Jn,Jo,Jp,TB,TC,TD,N8,akU,TA]
theorem axG:∀ F∈gr,ma Tryz.prog .nil F:=by
 intro F h
 unfold gr at h
 simp only[Ga,List.not_mem_nil,or_false] at h
 rcases h with rfl|rfl|rfl|rfl|rfl|rfl|rfl|rfl|rfl|rfl|rfl|rfl|rfl|rfl|rfl|rfl|rfl|rfl
 ·exact zw
 ·exact kR
 ·exact v5
 ·exact akh
 ·exact Sz
 ·exact Vb
 ·exact Cy
 ·exact Wx
 ·exact xa
 ·exact TE
 ·exact tV
 ·exact TF
 ·exact uV
 ·exact akW
 ·exact akX
 ·exact rJ
 ·exact aq7
 ·exact akV
theorem fX:gr.Pairwise fun a b=>a.f≠b.f:=by
 have h:(gr.map (·.f)).Pairwise (·≠·):=of_decide_eq_true (by kernel_rfl)
 exact List.pairwise_map.1 h
def aoA(f:Nat):Bool:=Nat.beq f 86
noncomputable def CL:cD:=at5 aBA Ww aoA gr
theorem aFl{f:Nat}(h:(gr.map (·.f)).contains f=false):∀ l h nx,CL.sum f l h nx=none:=by
 refine Kk fun F hF e=>?_
 have:(gr.map (·.f)).contains f=true:=List.contains_iff_mem.2 (Fa.2 ⟨F,hF,e⟩)
 rw[h] at this;cases this
theorem sB{f:Nat}{p:fK}(hp:iH Tryz.prog f=some p)(hg:CC CL f=some (fx f))(ho:(gr.map (·.f)).contains f=false)(hr:aoA f=false):Fn CL f p:=⟨by rw[hg,azc hp],aFl ho,hr⟩
theorem aLu{f:Nat}{p:fK}(hp:iH Tryz.prog f=some p)(hg:CC CL f=some (fx f))(ho:(gr.map (·.f)).contains f=false)(hr:aoA f=true):FnR CL f p:=⟨by rw[hg,azc hp],aFl ho,hr⟩
theorem aq8:Sv∈gr:=by simp[gr]
theorem Wy:IG∈gr:=by simp[gr]
theorem akY:My∈gr:=by simp[gr]
theorem aq9:Sw∈gr:=by simp[gr]
theorem Wz:IH∈gr:=by simp[gr]
theorem akZ:Mz∈gr:=by simp[gr]
theorem ak0:N6∈gr:=by simp[gr]
theorem ak1:N7∈gr:=by simp[gr]
theorem TG:FU∈gr:=by simp[gr]
theorem WA:Jn∈gr:=by simp[gr]
theorem WB:Jo∈gr:=by simp[gr]
theorem WC:Jp∈gr:=by simp[gr]
theorem ara:TB∈gr:=by simp[gr]
theorem arb:TC∈gr:=by simp[gr]
theorem arc:TD∈gr:=by simp[gr]
theorem ak2:N8∈gr:=by simp[gr]
theorem at6:akU∈gr:=by simp[gr]
theorem ard:TA∈gr:=by simp[gr]
theorem aLv:Std CL K0 where
 orc:=rfl
 raw _:=rfl
 ok:=aDT
 uW:=sB DW (by kernel_rfl) (by kernel_rfl) (by kernel_rfl)
 CA:=sB K6 (by kernel_rfl) (by kernel_rfl) (by kernel_rfl)
 wz:=sB FH (by kernel_rfl) (by kernel_rfl) (by kernel_rfl)
 HT:=sB P4 (by kernel_rfl) (by kernel_rfl) (by kernel_rfl)
 AO:=sB Jc (by kernel_rfl) (by kernel_rfl) (by kernel_rfl)
 yB:=sB HP (by kernel_rfl) (by kernel_rfl) (by kernel_rfl)
 D4:=sB NY (by kernel_rfl) (by kernel_rfl) (by kernel_rfl)
 xS:=sB HQ (by kernel_rfl) (by kernel_rfl) (by kernel_rfl)
 CV:=aLu K7 (by kernel_rfl) (by kernel_rfl) (by kernel_rfl)
 qY:=sB BE (by kernel_rfl) (by kernel_rfl) (by kernel_rfl)
 CW:=sB K8 (by kernel_rfl) (by kernel_rfl) (by kernel_rfl)
 CG:=sB K9 (by kernel_rfl) (by kernel_rfl) (by kernel_rfl)
 HI:=sB P5 (by kernel_rfl) (by kernel_rfl) (by kernel_rfl)
 Ez:=sB NZ (by kernel_rfl) (by kernel_rfl) (by kernel_rfl)
 AP:=sB Jd (by kernel_rfl) (by kernel_rfl) (by kernel_rfl)
 u7:=sB DX (by kernel_rfl) (by kernel_rfl) (by kernel_rfl)
 CX:=sB La (by kernel_rfl) (by kernel_rfl) (by kernel_rfl)
 wA:=sB FJ (by kernel_rfl) (by kernel_rfl) (by kernel_rfl)
 yC:=sB HR (by kernel_rfl) (by kernel_rfl) (by kernel_rfl)
 m8:=sB xf (by kernel_rfl) (by kernel_rfl) (by kernel_rfl)
 py:=sB zV (by kernel_rfl) (by kernel_rfl) (by kernel_rfl)
 pz:=sB zX (by kernel_rfl) (by kernel_rfl) (by kernel_rfl)
 gY:=sB vT (by kernel_rfl) (by kernel_rfl) (by kernel_rfl)
 nZ:=sB yp (by kernel_rfl) (by kernel_rfl) (by kernel_rfl)
 CD:=sB Lb (by kernel_rfl) (by kernel_rfl) (by kernel_rfl)
 AN:=sB Je (by kernel_rfl) (by kernel_rfl) (by kernel_rfl)
 HU:=sB P6 (by kernel_rfl) (by kernel_rfl) (by kernel_rfl)
 CY:=sB Lc (by kernel_rfl) (by kernel_rfl) (by kernel_rfl)
 HS:=sB P7 (by kernel_rfl) (by kernel_rfl) (by kernel_rfl)
 JK:=sB Tu (by kernel_rfl) (by kernel_rfl) (by kernel_rfl)
 EA:=sB N0 (by kernel_rfl) (by kernel_rfl) (by kernel_rfl)
 HV:=sB P8 (by kernel_rfl) (by kernel_rfl) (by kernel_rfl)
 CZ:=sB Ld (by kernel_rfl) (by kernel_rfl) (by kernel_rfl)
 AQ:=sB Jf (by kernel_rfl) (by kernel_rfl) (by kernel_rfl)
 C0:=sB Le (by kernel_rfl) (by kernel_rfl) (by kernel_rfl)
 AR:=sB Jg (by kernel_rfl) (by kernel_rfl) (by kernel_rfl)
 N5:=sB VN (by kernel_rfl) (by kernel_rfl) (by kernel_rfl)
 CE:=sB Lf (by kernel_rfl) (by kernel_rfl) (by kernel_rfl)
 B6:=sB Lg (by kernel_rfl) (by kernel_rfl) (by kernel_rfl)
 HW:=sB P9 (by kernel_rfl) (by kernel_rfl) (by kernel_rfl)
 EB:=sB N2 (by kernel_rfl) (by kernel_rfl) (by kernel_rfl)
 wC:=sB FQ (by kernel_rfl) (by kernel_rfl) (by kernel_rfl)
 C1:=sB Lh (by kernel_rfl) (by kernel_rfl) (by kernel_rfl)
 Ar:=sB Jh (by kernel_rfl) (by kernel_rfl) (by kernel_rfl)
 CP:=sB Li (by kernel_rfl) (by kernel_rfl) (by kernel_rfl)
 Ap:=sB Ji (by kernel_rfl) (by kernel_rfl) (by kernel_rfl)
 Kl:=sB Tv (by kernel_rfl) (by kernel_rfl) (by kernel_rfl)
 J7:=sB Tw (by kernel_rfl) (by kernel_rfl) (by kernel_rfl)
 HX:=sB Qa (by kernel_rfl) (by kernel_rfl) (by kernel_rfl)
 CH:=sB Lj (by kernel_rfl) (by kernel_rfl) (by kernel_rfl)
 du:=sB gL (by kernel_rfl) (by kernel_rfl) (by kernel_rfl)
 fT:=sB mu (by kernel_rfl) (by kernel_rfl) (by kernel_rfl)
 aox i hi h nx:=cy ak0 fX ⟨i,hi⟩ h nx
 ath c s bs hs ha h nx:=cy aq8 fX ⟨c,s,bs,hs,ha⟩ h nx
 Vw c s bs r hs ha h nx:=cy Wy fX ⟨⟨c,s,bs,hs,ha⟩,r⟩ h nx
 anD c s bs r hs ha h nx:=cy akY fX ⟨⟨c,s,bs,hs,ha⟩,r⟩ h nx
 aoy i hi h nx:=cy ak1 fX ⟨i,hi⟩ h nx
 atH c s bs hs ha h nx:=cy aq9 fX ⟨c,s,bs,hs,ha⟩ h nx
 VK c s bs r hs ha h nx:=cy Wz fX ⟨⟨c,s,bs,hs,ha⟩,r⟩ h nx
 anQ c s bs r hs ha h nx:=cy akZ fX ⟨⟨c,s,bs,hs,ha⟩,r⟩ h nx
 EC i hi h nx:=cy TG fX ⟨i,hi⟩ h nx
 z9 i hi h nx:=cy WA fX ⟨i,hi⟩ h nx
 uE u h nx:=cy WB fX u h nx
 pJ s t hs ht h nx:=cy ara fX ⟨s,t,hs,ht⟩ h nx
 xm u h nx:=cy WC fX u h nx
 AS s t hs ht h nx:=cy arb fX ⟨s,t,hs,ht⟩ h nx
 aoz s t hs ht h nx:=cy arc fX ⟨s,t,hs,ht⟩ h nx
 RZ s hs h nx:=cy ak2 fX ⟨s,hs⟩ h nx
 UC h nx:=cy at6 fX () h nx
 R6 h nx:=cy ard fX () h nx
theorem aLw{ρ:Nat→Int}(w0:W0)(hL:l9 Tryz.prog .nil w0):Ctx Tryz.prog ρ w0 CL:=aBN Rr atI mix axG Ww aoA w0 hL
end Ln
/-
 LN: events that are formed. No condition.
-/
namespace Ln
open Go.Sx Go
theorem bq{a b:Int}(h:a≠b):(a==b)=false:=by simpa using h
theorem bt{a b:Int}(h:a=b):(a==b)=true:=by simpa using h
variable{C:cD}{X:Kn}(S:Std C X)
include S
theorem axV(u:U):RY C nY [.agg (eU u)] (·=.ret (.bool (zU u))):=by
 intro h nx
 obtain⟨k,n⟩:=u
 have s1:=kTSu nx
 refine S.HV.call ?_
 simp[FO]
 simp[EK,eU]
 by_cases h1:k=0
 ·subst h1
  by_cases h2:n=0
  ·subst h2
   simp[qS,zU];exact E0 _ _ _
  ·simp[qS,bq h2,zU,h2];exact E0 _ _ _
 ·simp[qS,bq h1,zU,h1];exact E0 _ _ _
end Ln
/-
 LN: events that are formed: the reference. No condition.
-/
namespace Ln
open Go.Sx Go
variable{C:cD}{X:Kn}(S:Std C X)
include S
theorem T5{x:Ev}{R:Out→T ag→Key→Prop}{tm:T AV}{h:T ag}{nx nx0:Key}(hlen:x.args.length≤1000)(f1:aa (K 1) tm=some (.ptr nx0 0))(hb:aa nx0 h=some (.cells (eE x) .fix))
  (hR:R (.ret (I (if (x.args.all v7&&v7 x.res)=true then 0 else 1))) h nx) :
  eP C (.seq (.seq (.ops jz) (.block 0 (.loop jA))) (.seq (.ops fI) .ret)) (bB [.tmp (K 2)] R) tm h nx:=by
 have rv:C.raw qR=false:=S.nr (by decide)
 obtain⟨kind,client,name,args,res⟩:=x
 simp
 simp[jz]
 have fin:∀ tm:T AV,aa (K 1) tm=some (.ptr nx0 0)→args.all v7=true→eP C (.seq (.ops fI) .ret) (bB [.tmp (K 2)] R) tm h nx:=by
  intro tm g1 ha
  simp
  simp[fI,g1,hb,eE,rv]
  refine aI.known (S.xm res _ _) ?_
  simp
  simpa[ha] using hR
 refine W.dQ (n:=args.length) (fun m tm' h' nx'=>∃ j:Nat,m=args.length-j∧j≤args.length∧aa (K 1) tm'=some (.ptr nx0 0)∧aa (K 4) tm'=some (I j)∧h'=h∧nx'=nx∧(args.take j).all v7=true) ?_ ?_
 ·exact⟨0,by simp,by omega,by simp[f1],by simp,rfl,rfl,by simp⟩
 ·rintro m dn h1 bN ⟨j,rfl,hj,g1,g4,rfl,rfl,ha⟩
  refine W.of ?_
  simp[jA]
  cases args with
  |nil=>
   simp[sF,g1,g4,hb,eE,aC]
   have:j=0:=by simpa using hj
   subst this
   simp
   exact fin _ (by simp[g1]) (by simp)
  |cons a t=>
   simp[sF,g1,g4,hb,eE,aC]
   have anq:t.length+1≤1000:=by simpa using hlen
   refine⟨fun bO=>?_,fun QJ=>?_⟩
   ·have bz:j<(a ::t).length:=by simp;omega
    have aLY:j<t.length+1:=by simpa using bz
    have hr:=An.rows (a ::t)
    have ec:=An.at bz
    simp at hr
    have h4:4≤(aj eU (a ::t)).length-j*4:=by omega
    simp[yP,g1,g4,hb,eE,aC,ec,rv,aLY,h4]
    have hz:aO 9999 (.agg (eU (a ::t)[j])) h1=(.agg (eU (a ::t)[j]),h1):=by simp[eU]
    have he:List.take 4 (eU (a ::t)[j])=eU (a ::t)[j]:=rfl
    have hl4:(eU (a ::t)[j]).length=4:=rfl
    simp[he,hl4,hz]
    refine aI.known (S.xm _ _ _) ?_
    cases ho:v7 (a ::t)[j] with
    |false=>
     simp[qs,yQ]
     have oV:(a ::t).all v7=false:=by
      rw[List.all_eq_false]
      exact⟨_,Dn bz,by simp[ho]⟩
     simpa[oV] using hR
    |true=>
     simp[qs,yR,g4]
     refine⟨t.length+1-(j+1),by omega,j+1,rfl,by omega,by simp[g1],?_,?_⟩
     ·simp;rw[aq (by omega) (by omega)]
     ·intro x hx
      rw[zqu bz,List.mem_append,List.mem_singleton] at hx
      rcases hx with hx|rfl
      ·exact vV.1 ha x hx
      ·exact ho
   ·have bz:j=(a ::t).length:=by simp at hj ⊢;omega
    subst bz
    rw[List.take_length] at ha
    exact fin _ (by simp[g1]) ha
omit S in
theorem asT{client:Int}{nl nc:Nat}{args:List U}{res:U}(hz:zU res=true)(hn:¬ (nl=0∧nc=0))(hl:nl≤16)(ha:args.length≤16)(c0:0≤client)(c3:client≤3):pt ⟨0,client,(nl,nc),args,res⟩=args.all v7:=by
 rw[Bool.eq_iff_iff]
 unfold pt
 rw[decide_eq_true_eq]
 constructor
 ·rintro⟨_,_,_,_,h|h|h⟩
  ·exact h.2.2.2.2.2
  ·exact absurd h.1 (by simp)
  ·exact absurd h.1 (by simp)
 ·intro h
  exact⟨by simp,by simp,c0,c3,.inl ⟨rfl,hz,by simpa using hn,hl,ha,h⟩⟩
omit S in
theorem ayI{client:Int}{res:U}(c0:0≤client)(c3:client≤3):pt ⟨1,client,(0,0),[],res⟩=v7 res:=by
 rw[Bool.eq_iff_iff]
 unfold pt
 rw[decide_eq_true_eq]
 constructor
 ·rintro⟨_,_,_,_,h|h|h⟩
  ·exact absurd h.1 (by simp)
  ·exact h.2.2.2
  ·exact absurd h.1 (by simp)
 ·intro h
  exact⟨by simp,by simp,c0,c3,.inr (.inl ⟨rfl,rfl,rfl,h⟩)⟩
omit S in
theorem anr{res:U}:pt ⟨2,0,(0,0),[],res⟩=zU res:=by
 rw[Bool.eq_iff_iff]
 unfold pt
 rw[decide_eq_true_eq]
 constructor
 ·rintro⟨_,_,_,_,h|h|h⟩
  ·exact absurd h.1 (by simp)
  ·exact absurd h.1 (by simp)
  ·exact h.2.2.2.2
 ·intro h
  exact⟨by simp,by simp,by simp,by simp,.inr (.inr ⟨rfl,rfl,rfl,rfl,h⟩)⟩
omit S in
theorem asU{res:U}(hz:zU res=true):v7 res=true:=by unfold zU at hz;unfold v7;simp at hz ⊢;exact .inl hz.1
theorem T6{x:Ev}{R:Out→T ag→Key→Prop}{tm:T AV}{h:T ag}{nx nx0:Key}(hlen:x.args.length≤1000)(f1:aa (K 1) tm=some (.ptr nx0 0))(f3:aa (K 3) tm=some (.bool (zU x.res)))(hb:aa nx0 h=some (.cells (eE x) .fix))
  (hk:0≤x.kind∧x.kind≤2) (hc:0≤x.client∧x.client≤3) (hR:R (.ret (I (if pt x=true then 0 else 1))) h nx) :
  eP C (.seq (.seq (.ops ch) (.cond (.t (K 59)) (.seq (.ops dA) .ret) .skip))
   (.seq (.seq (.ops dB) (.cond (.t (K 79)) (.seq (.ops jC) .ret) .skip))
    (.seq (.seq (.ops jz) (.block 0 (.loop jA))) (.seq (.ops fI) .ret)))) (bB [.tmp (K 2)] R) tm h nx:=by
 have fail:pt x=false→R (.ret (I 1)) h nx:=fun e=>by simpa[e] using hR
 have DH:∀ tm:T AV,aa (K 1) tm=some (.ptr nx0 0)→(pt x=(x.args.all v7&&v7 x.res))→eP C (.seq (.seq (.ops jz) (.block 0 (.loop jA))) (.seq (.ops fI) .ret)) (bB [.tmp (K 2)] R) tm h nx:=
  fun tm g1 e=>T5 S hlen g1 hb (by rw[← e];exact hR)
 obtain⟨kind,client,⟨nl,nc⟩,args,res⟩:=x
 have anq:args.length≤1000:=hlen
 have c0:0≤client:=hc.1
 have c3:client≤3:=hc.2
 have cG:aC args=.nils∧args=[]∨∃ l,aC args=.sl l args.length 4 .any∧args≠[]:=by
  cases args with
  |nil=>exact .inl ⟨rfl,rfl⟩
  |cons a t=>exact .inr ⟨_,rfl,by simp⟩
 have rq:kind=0∨kind=1∨kind=2:=by have:=hk.1;have:=hk.2;simp at *;omega
 rcases rq with rfl|rfl|rfl
 ·-- a call begins
  cases hz:zU res with
  |false=>
   rw[hz] at f3
   simp[ch,f1,f3,hb,eE,dA]
   exact fail (by unfold pt;simp[hz])
  |true=>
   rw[hz] at f3
   have mD:=asU hz
   simp[ch,f1,f3,hb,eE]
   by_cases hn:nl=0∧nc=0
   ·simp[dB,f1,hb,eE,hn,jC]
    exact fail (by unfold pt;simp[hn])
   ·by_cases hl:16<nl
    ·have Fq:(16:Int)<nl:=by omega
     simp[dB,f1,hb,eE,hn,hl,Fq,jC]
     exact fail (by unfold pt;simp;omega)
    ·have Fq:¬ (16:Int)<nl:=by omega
     rcases cG with⟨ea,rfl⟩|⟨l,ea,bU⟩
     ·simp[dB,f1,hb,eE,hn,hl,Fq,ea]
      refine DH _ (by simp[f1]) ?_
      rw[asT hz (by simpa using hn) (by omega) (by simp) c0 c3,mD,Bool.and_true]
     ·by_cases ha:16<args.length
      ·have ha2:(16:Int)<args.length:=by omega
       simp[dB,f1,hb,eE,hn,hl,Fq,ea,ha,ha2,jC]
       exact fail (by unfold pt;simp;omega)
      ·have ha2:¬ (16:Int)<args.length:=by omega
       simp[dB,f1,hb,eE,hn,hl,Fq,ea,ha,ha2]
       refine DH _ (by simp[f1]) ?_
       rw[asT hz (by simpa using hn) (by omega) (by omega) c0 c3,mD,Bool.and_true]
 ·-- a call ends
  by_cases hn:nl=0∧nc=0
  ·obtain⟨rfl,rfl⟩:=hn
   rcases cG with⟨ea,rfl⟩|⟨l,ea,bU⟩
   ·simp[ch,f1,f3,hb,eE,ea]
    simp[dB,f1,hb,eE]
    exact DH _ (by simp[f1]) (by rw[ayI c0 c3];simp)
   ·simp[ch,f1,f3,hb,eE,ea,List.length_pos_iff.2 bU,dA]
    exact fail (by unfold pt;simp[bU])
  ·simp[ch,f1,f3,hb,eE,hn,dA]
   exact fail (by unfold pt;simp;intros;omega)
 ·-- a ayJ
  by_cases Sm:client=0
  ·subst Sm
   by_cases hn:nl=0∧nc=0
   ·obtain⟨rfl,rfl⟩:=hn
    rcases cG with⟨ea,rfl⟩|⟨l,ea,bU⟩
    ·cases hz:zU res with
     |false=>
      rw[hz] at f3
      simp[ch,f1,f3,hb,eE,ea,dA]
      exact fail (by rw[anr,hz])
     |true=>
      rw[hz] at f3
      simp[ch,f1,f3,hb,eE,ea]
      simp[dB,f1,hb,eE]
      exact DH _ (by simp[f1]) (by rw[anr,hz,asU hz];simp)
    ·simp[ch,f1,f3,hb,eE,ea,List.length_pos_iff.2 bU,dA]
     exact fail (by unfold pt;simp[bU])
   ·simp[ch,f1,f3,hb,eE,hn,dA]
    exact fail (by unfold pt;simp;intros;omega)
  ·simp[ch,f1,f3,hb,eE,bq Sm,dA]
   exact fail (by unfold pt;simp[Sm])
omit S in
theorem wc{x:Ev}(h:¬ (0≤x.kind∧x.kind≤2∧0≤x.client∧x.client≤3)):pt x=false:=by
 unfold pt
 rw[decide_eq_false_iff_not]
 rintro⟨a,b,c,d,_⟩
 exact h ⟨a,b,c,d⟩
theorem amG(x:Ev)(hlen:x.args.length≤1000):RY C kI [.agg (eE x)] (·=.ret (I (if pt x=true then 0 else 1))):=by
 intro h nx
 have s1:=kTSu nx
 have rz:C.raw nY=false:=S.nr (by decide)
 refine S.CZ.call ?_
 simp[zZ]
 simp[A0]
 by_cases hk:x.kind<0
 ·simp[gz,eE,hk,jD,wc (x:=x) (by omega)]
  exact E0 _ _ _
 by_cases Nv:2<x.kind
 ·simp[gz,eE,hk,Nv,jD,wc (x:=x) (by omega)]
  exact E0 _ _ _
 by_cases hc:x.client<0
 ·simp[gz,eE,hk,Nv,hc,jD,wc (x:=x) (by omega)]
  exact E0 _ _ _
 by_cases hc2:3<x.client
 ·simp[gz,eE,hk,Nv,hc,hc2,jD,wc (x:=x) (by omega)]
  exact E0 _ _ _
 simp[gz,eE,hk,Nv,hc,hc2]
 simp[A6,rz]
 refine(axV S x.res _ _).mono ?_
 rintro o h1 bN ⟨rfl,e1⟩
 simp
 have hb1:aa nx h1=some (.cells (eE x) .fix):=by
  rw[e1.g nx (by omega)]
  simp[eE]
 have key:=fun ay g1 g3=>T6 S (x:=x) (nx0:=nx) (tm:=ay) (R:=fun o h' nx'=>o=.ret (I (if pt x=true then 0 else 1))∧Ext h nx h' nx') hlen g1 g3 hb1 (by omega) (by omega) ⟨rfl,(E0 h nx _).trans e1⟩
 simp at key
 refine key _ ?_ ?_<;>simp
end Ln
/-
 LN: valid histories: the reference. No condition.
-/
namespace Ln
open Go.Sx Go
structure Few(l:List Ev):Prop where
 len:l.length≤16
 args:∀ x∈l,x.args.length≤1000
 cl:∀ x∈l,0≤x.client∧x.client≤3
variable{C:cD}{X:Kn}(S:Std C X)
include S
theorem axC{ev:AV}{l:List Ev}(hv:jN 8 eE ev l)(hl:l.length≤16)(c:Int)(a:Nat)(ha:a≤l.length):RY C nX [ev,I c,I a] (·=.ret (I (fU c (l.take a).reverse))):=by
 intro h nx
 refine S.HS.call ?_
 simp[FM]
 simp[Er]
 simp[Et]
 rw[aq (by omega) (by omega)]
 refine W.dQ (n:=a) (fun m tm' h' nx'=>aa (K 0) tm'=some ev∧aa (K 1) tm'=some (I c)∧aa (K 7) tm'=some (I ((m:Int)-1))∧m≤a∧h'=h∧nx'=nx∧fU c (l.take a).reverse=fU c (l.take m).reverse) ?_ ?_
 ·exact⟨by simp,by simp,by simp,by omega,rfl,rfl,rfl⟩
 ·rintro m dn h1 bN ⟨g0,g1,g7,hm,rfl,rfl,he⟩
  refine W.of ?_
  simp[Eu]
  cases m with
  |zero=>
   simp[xi,g7]
   simp[Ew]
   exact⟨by rw[he];simp[fU],Ext.refl _ _⟩
  |succ m=>
   have UA:m<l.length:=by omega
   have hlen:=fe.rows l
   have h8:8≤l.length*8-m*8:=by omega
   have ec:=fe.at UA
   rw[zqu UA,List.reverse_append,List.reverse_singleton,List.singleton_append] at he
   have Q1:(l.take m).reverse.length=m:=by simp;omega
   rcases hv with⟨e,rfl⟩|e
   ·simp at UA
   have Pl:=g0
   rw[e] at g0
   have LW:¬ (m:Int)<0:=by omega
   have g7:aa (K 7) dn=some (I (m:Int)):=by simpa using g7
   simp[xi,g7,LW]
   generalize l[m]=x at he ec
   obtain⟨kind,client,name,args,res⟩:=x
   have AE:fU c (⟨kind,client,name,args,res⟩ ::(l.take m).reverse)=if kind=2∨kind=1∧client=c then -1 else if kind=0∧client=c then((l.take m).reverse.length:Int) else fU c (l.take m).reverse:=rfl
   rw[AE,Q1] at he
   by_cases k2:kind=2
   ·subst k2
    simp[gZ,g0,g1,g7,UA,hlen,h8,ec,eE]
    simp[xj]
    exact⟨by rw[he];simp,Ext.refl _ _⟩
   by_cases k1:kind=1
   ·subst k1
    by_cases hc:client=c
    ·subst hc
     simp[gZ,g0,g1,g7,UA,hlen,h8,ec,eE]
     simp[xj]
     exact⟨by rw[he];simp,Ext.refl _ _⟩
    ·simp[gZ,g0,g1,g7,UA,hlen,h8,ec,eE,bq hc]
     simp[mv,g0,g1,g7,UA,hlen,h8,ec,eE,bq hc]
     simp[qQ,g7]
     refine⟨m,by omega,Pl,g1,aq (by omega) (by omega),by omega,?_⟩
     rw[he];simp[hc]
   by_cases k0:kind=0
   ·subst k0
    by_cases hc:client=c
    ·subst hc
     simp[gZ,g0,g1,g7,UA,hlen,h8,ec,eE]
     simp[mv,g0,g1,g7,UA,hlen,h8,ec,eE]
     simp[Ey,g7]
     exact⟨by rw[he];simp,Ext.refl _ _⟩
    ·simp[gZ,g0,g1,g7,UA,hlen,h8,ec,eE,bq hc]
     simp[mv,g0,g1,g7,UA,hlen,h8,ec,eE,bq hc]
     simp[qQ,g7]
     refine⟨m,by omega,Pl,g1,aq (by omega) (by omega),by omega,?_⟩
     rw[he];simp[hc]
   ·simp[gZ,g0,g1,g7,UA,hlen,h8,ec,eE,bq k2,bq k1]
    simp[mv,g0,g1,g7,UA,hlen,h8,ec,eE,bq k0]
    simp[qQ,g7]
    refine⟨m,by omega,Pl,g1,aq (by omega) (by omega),by omega,?_⟩
    rw[he];simp[k0,k1,k2]
end Ln
/-
 LN: valid histories: the reference, all events. No condition.
-/
namespace Ln
open Go.Sx Go
def iM:Nat→Int
 |0=>0|1=>1|2=>20|_=>25
variable{C:cD}{X:Kn}(S:Std C X)
include S
theorem ajl{l:List Ev}(hl:Few l){R:Out→T ag→Key→Prop}{tm:T AV}{h:T ag}{nx:Key}(g0:aa (K 0) tm=some (.sl (aj eE l) l.length 8 .any))(g5:aa (K 5) tm=some (I 0))
  (hR:∀ h' nx',Ext h nx h' nx'→R (.ret (I (iM (bk [] l)))) h' nx') :
  W C (.loop oe) (al 2 (av (eP C (.seq (.ops mH) .ret) (bB [.tmp (K 2)] R)) (bB [.tmp (K 2)] R))) tm h nx:=by
 have aqs:=hl.len
 have rf:C.raw kI=false:=S.nr (by decide)
 have ro:C.raw nX=false:=S.nr (by decide)
 refine W.dQ (n:=l.length) (fun m tm' h' nx'=>∃ j:Nat,m=l.length-j∧j≤l.length∧aa (K 0) tm'=some (.sl (aj eE l) l.length 8 .any)∧aa (K 5) tm'=some (I j)∧Ext h nx h' nx'∧bk [] l=bk (l.take j).reverse (l.drop j)) ?_ ?_
 ·exact⟨0,by simp,by omega,g0,by simpa using g5,Ext.refl _ _,rfl⟩
 ·rintro m dn h1 bN ⟨j,rfl,hj,g0,g5,e1,hv⟩
  refine W.of ?_
  simp[oe]
  simp[sC,g0,g5]
  refine⟨fun bO=>?_,fun QJ=>?_⟩
  ·have bz:j<l.length:=by omega
   have hlen:=fe.rows l
   have h8:8≤l.length*8-j*8:=by omega
   have ec:=fe.at bz
   have hx:=hl.args _ (Dn bz)
   have hz:aO 9999 (.agg (eE l[j])) h1=(.agg (eE l[j]),h1):=by
    have:=dj (n:=9998) (l:=eE l[j]) (h:=h1) (fe.D3 _)
    simp only[Rn];rw[this]
   have he:List.take 8 (eE l[j])=eE l[j]:=rfl
   have hl8:(eE l[j]).length=8:=rfl
   rw[zqt bz] at hv
   simp[AT,g0,g5,bz,hlen,h8,ec,he,hl8,rf,hz]
   refine(amG S l[j] hx _ _).mono ?_
   rintro o h2 aH ⟨rfl,e2⟩
   simp
   have e12:=e1.trans e2
   generalize hxe:l[j]=x at *
   cases mD:pt x with
   |false=>
    simp[sD,AU]
    have e0:bk [] l=1:=by rw[hv];unfold bk xk;rw[mD];rfl
    have:=hR h2 aH e12
    rw[e0] at this
    exact this
   |true=>
    simp[sD]
    have hzs:aO 9999 (AV.sl (aj eE l) l.length 8 .any) h2=(.sl (aj eE l) l.length 8 .any,h2):=Si _ _ _ _ _
    simp[AW,g0,g5,bz,hlen,h8,ec,eE,ro,hzs]
    have kb:=axC S (ev:=.sl (aj eE l) l.length 8 .any) (.inr rfl) aqs x.client j hj
    refine(kb h2 aH).mono ?_
    rintro o h3 bF ⟨rfl,e3⟩
    simp
    have e13:=e12.trans e3
    have hv2:bk (l.take j).reverse (x ::l.drop (j+1))=match xk (l.take j).reverse x with|0=>bk (x ::(l.take j).reverse) (l.drop (j+1))|n=>n:=rfl
    have hb:xk (l.take j).reverse x=if x.kind=0∧0≤fU x.client (l.take j).reverse then 2 else if x.kind=1∧fU x.client (l.take j).reverse<0 then 3 else 0:=by unfold xk;rw[mD];rfl
    have Ny:x ::(l.take j).reverse=(l.take (j+1)).reverse:=by rw[zqu bz,hxe];simp
    generalize fU x.client (l.take j).reverse=ob at *
    have fin:∀ n:Nat,xk (l.take j).reverse x=n+1→iM (bk [] l)=iM (n+1):=fun n e=>by rw[hv,hv2,e];rfl
    have go:∀ ay:T AV,aa (K 0) ay=some (.sl (aj eE l) l.length 8 .any)→aa (K 5) ay=some (I j)→xk (l.take j).reverse x=0→∃ m,m<l.length-j∧∃ j':Nat,m=l.length-j'∧j'≤l.length∧aa (K 0) ay=some (.sl (aj eE l) l.length 8 .any)∧(j:Int)+1=(j':Int)∧Ext h nx h3 bF∧bk [] l=bk (l.take j').reverse (l.drop j'):=fun ay q0 q5 e=>⟨l.length-(j+1),by omega,j+1,rfl,by omega,q0,by omega,e13,by rw[hv,hv2,e];exact congrArg (fun p=>bk p _) Ny⟩
    by_cases k0:x.kind=0
    ·by_cases ho:ob<0
     ·simp[gy,g0,g5,bz,hlen,h8,ec,eE,k0,ho]
      simp[jy,g0,g5,bz,hlen,h8,ec,eE,k0,ho]
      simp[mI,g5]
      rw[aq (by omega) (by omega)]
      have:=go dn g0 g5 (by rw[hb,if_neg (by omega),if_neg (by omega)])
      simpa[g0] using this
     ·simp[gy,g0,g5,bz,hlen,h8,ec,eE,k0,ho]
      simp[AX]
      have:=hR h3 bF e13
      rw[fin 1 (by rw[hb,if_pos ⟨k0,by omega⟩])] at this
      simpa[iM] using this
    ·by_cases k1:x.kind=1
     ·by_cases ho:ob<0
      ·simp[gy,g0,g5,bz,hlen,h8,ec,eE,bq k0,ho]
       simp[jy,g0,g5,bz,hlen,h8,ec,eE,k1,ho]
       simp[AY]
       have:=hR h3 bF e13
       rw[fin 2 (by rw[hb,if_neg (by omega),if_pos ⟨k1,by omega⟩])] at this
       simpa[iM] using this
      ·simp[gy,g0,g5,bz,hlen,h8,ec,eE,bq k0,ho]
       simp[jy,g0,g5,bz,hlen,h8,ec,eE,k1,ho]
       simp[mI,g5]
       rw[aq (by omega) (by omega)]
       have:=go dn g0 g5 (by rw[hb,if_neg (by omega),if_neg (by omega)])
       simpa[g0] using this
     ·simp[gy,g0,g5,bz,hlen,h8,ec,eE,bq k0]
      simp[jy,g0,g5,bz,hlen,h8,ec,eE,bq k1]
      simp[mI,g5]
      rw[aq (by omega) (by omega)]
      have:=go dn g0 g5 (by rw[hb,if_neg (by omega),if_neg (by omega)])
      simpa[g0] using this
  ·have bz:j=l.length:=by omega
   subst bz
   simp[mH]
   have:=hR h1 bN e1
   rw[hv] at this
   simpa[bk,iM] using this
theorem aqt{ev:AV}{l:List Ev}(hv:jN 8 eE ev l)(hl:Few l):RY C mc [ev] (·=.ret (I (iM (bk [] l)))):=by
 intro h nx
 have aqs:=hl.len
 refine S.EA.call ?_
 simp[CR]
 simp[C3]
 simp[C4]
 simp[C5]
 rcases hv with⟨rfl,rfl⟩|rfl
 ·refine W.E8 (W.of ?_)
  simp[ve]
  simp[vf]
  simp[vg]
  simp[vh]
  refine W.E8 (W.of ?_)
  simp[oe]
  simp[sC]
  simp[mH]
  exact⟨rfl,Ext.refl _ _⟩
 ·refine W.dQ (n:=l.length) (fun m tm' h' nx'=>∃ j b:Nat,m=l.length-j∧j≤l.length∧b≤j∧aa (K 0) tm'=some (.sl (aj eE l) l.length 8 .any)∧aa (K 4) tm'=some (I j)∧aa (K 3) tm'=some (I b)∧h'=h∧nx'=nx) ?_ ?_
  ·exact⟨0,0,by simp,by omega,by omega,by simp,by simp,by simp,rfl,rfl⟩
  ·rintro m dn h1 bN ⟨j,b,rfl,hj,hb,g0,g4,g3,rfl,rfl⟩
   refine W.of ?_
   simp[ve]
   simp[vf,g0,g4]
   refine⟨fun bO=>?_,fun QJ=>?_⟩
   ·have bz:j<l.length:=by omega
    have hlen:=fe.rows l
    have h8:8≤l.length*8-j*8:=by omega
    have ec:=fe.at bz
    by_cases k0:l[j].kind=0
    ·simp[vk,g0,g4,bz,hlen,h8,ec,eE,k0]
     simp[C6,g3]
     simp[vl,g4]
     rw[aq (by omega) (by omega),aq (by omega) (by omega)]
     exact⟨l.length-(j+1),by omega,j+1,rfl,by omega,b+1,by omega,g0,by omega,by omega⟩
    ·simp[vk,g0,g4,bz,hlen,h8,ec,eE,bq k0]
     simp[vl,g4]
     rw[aq (by omega) (by omega)]
     exact⟨l.length-(j+1),by omega,j+1,rfl,by omega,b,by omega,g0,by omega,g3⟩
   ·have aBX:¬ (64:Int)<l.length:=by omega
    have aBY:¬ (16:Int)<b:=by omega
    simp[vg,g0,g3,aBX,aBY]
    simp[vh]
    have key:=fun ay q0 q5=>ajl S hl (tm:=ay) (h:=h1) (nx:=bN) (R:=fun o h' nx'=>o=.ret (I (iM (bk [] l)))∧Ext h1 bN h' nx') q0 q5 (fun h' nx' e=>⟨rfl,e⟩)
    refine key _ ?_ ?_<;>simp[g0]
end Ln
/-
 LN: the calls of a history: the reference. No condition.
-/
namespace Ln
open Go.Sx Go
theorem Kd{o:Op}(h:¬ (o.e<0∧o.lost<0)):∀ (l:List Ev) (i:Nat),follow o i l=o
 | [],i=>rfl
 |x ::l,i=>by
  show follow (mz i x o) (i+1) l=o
  rw[Vm h];exact Kd h l (i+1)
theorem qW:∀ (l:List Ev) (i:Nat),(cU i l).length≤l.length
 | [],i=>by simp[cU]
 |x ::l,i=>by
  have:=qW l (i+1)
  simp only[cU,zqf,zqi]
  split<;>simp<;>omega
def RIn(l:List Ev)(o:Op)(i:Nat)(c5:AV)(b:Key)(h:T ag)(nx:Key)(m:Nat)(tm':T AV)(h':T ag)(nx':Key):Prop:=∃ (j:Nat) (o':Op),m=l.length-j∧i+1≤j∧j≤l.length∧o'.client=o.client∧aa (K 0) tm'=some (.sl (aj eE l) l.length 8 .any)∧aa (K 5) tm'=some c5∧aa (K 6) tm'=some (I i)∧aa (K 7) tm'=some (.ptr b 0)∧aa (K 8) tm'=some (I j)∧aa b h'=some (.cells (eO o') .fix)∧follow o (i+1) (l.drop (i+1))=follow o' j (l.drop j)∧(∀ k:Key,k≠b→aa k h'=aa k h)∧nx'=nx
variable{C:cD}{X:Kn}(S:Std C X)
include S
omit S in
theorem awf{l:List Ev}(hl:Few l){Q:dN}{tm:T AV}{h:T ag}{nx b:Key}{o:Op}{i:Nat}{c5:AV}(hi:i<l.length)(hb:b.toNat<nx.toNat)(ho:o.e<0∧o.lost<0)
  (g0:aa (K 0) tm=some (.sl (aj eE l) l.length 8 .any)) (g5:aa (K 5) tm=some c5) (g6:aa (K 6) tm=some (I i)) (g7:aa (K 7) tm=some (.ptr b 0)) (g8:aa (K 8) tm=some (I ((i:Int)+1))) (gb:aa b h=some (.cells (eO o) .fix))
  (hQ:∀ tm' h',aa (K 0) tm'=some (.sl (aj eE l) l.length 8 .any)→aa (K 5) tm'=some c5→aa (K 6) tm'=some (I i)→aa (K 7) tm'=some (.ptr b 0)→aa b h'=some (.cells (eO (follow o (i+1) (l.drop (i+1)))) .fix)→(∀ k:Key,k≠b→aa k h'=aa k h)→Q .norm tm' h' nx) :
  W C (.loop zG) (al 2 Q) tm h nx:=by
 have aqs:=hl.len
 refine W.dQ (n:=l.length-(i+1)) (RIn l o i c5 b h nx) ?_ ?_
 ·exact⟨i+1,o,rfl,by omega,by omega,rfl,g0,g5,g6,g7,by simpa using g8,gb,rfl,fun _ _=>rfl,rfl⟩
 ·rintro m dn h1 bN ⟨j,o',rfl,hj1,hj,hc,g0,g5,g6,g7,g8,gb,hf,hk,rfl⟩
  refine W.of ?_
  simp[zG]
  by_cases bO:j<l.length
  ·have as4:(j:Int)<l.length:=by omega
   by_cases hoo:o'.e<0∧o'.lost<0
   ·simp[mg,g0,g7,g8,gb,eO,bO,as4,hoo.1,hoo.2]
    have hlen:=fe.rows l
    have h8:8≤l.length*8-j*8:=by omega
    have ec:=fe.at bO
    rw[zqt bO] at hf
    have hu:follow o' j (l[j] ::l.drop (j+1))=follow (mz j l[j] o') (j+1) (l.drop (j+1)):=rfl
    rw[hu] at hf
    generalize l[j]=x at hf ec hu
    have hu2:mz j x o'=if x.kind=2 then {o' with lost:=j} else if x.kind=1∧x.client=o'.client then {o' with e:=j,res:=x.res} else o':=by unfold mz;rw[if_pos hoo]
    by_cases k2:x.kind=2
    ·rw[if_pos k2] at hu2
     simp[qM,g0,g8,bO,hlen,h8,ec,eE,k2]
     simp[Ej,g7,g8,gb,eO]
     simp[mh,g0,g7,g8,gb,eO,bO,hlen,h8,ec,eE,k2]
     simp[mj,g8]
     rw[aq (by omega) (by omega)]
     refine⟨l.length-(j+1),by omega,j+1,{o' with lost:=j},rfl,by omega,by omega,hc,by simp[g0],by simp[g5],by simp[g6],by simp[g7],by simp,by simp[eO],by rw[hf,hu2],fun k Nv=>?_,rfl⟩
     rw[bG _ _ _ _ Nv];exact hk k Nv
    ·rw[if_neg k2] at hu2
     by_cases k1:x.kind=1∧x.client=o'.client
     ·rw[if_pos k1] at hu2
      simp[qM,g0,g8,bO,hlen,h8,ec,eE,k1.1]
      simp[mh,g0,g7,g8,gb,eO,bO,hlen,h8,ec,eE,k1.1,k1.2]
      simp[Ek,g7,g8,gb,eO]
      simp[El,g0,g7,g8,gb,eO,bO,hlen,h8,ec,eE]
      simp[mj,g8]
      rw[aq (by omega) (by omega)]
      refine⟨l.length-(j+1),by omega,j+1,{o' with e:=j,res:=x.res},rfl,by omega,by omega,hc,by simp[g0],by simp[g5],by simp[g6],by simp[g7],by simp,by simp[eO],by rw[hf,hu2],fun k Nv=>?_,rfl⟩
      rw[bG _ _ _ _ Nv];exact hk k Nv
     ·rw[if_neg k1] at hu2
      simp[qM,g0,g8,bO,hlen,h8,ec,eE,bq k2]
      have fin:∀ ay:T AV,aa (K 0) ay=some (.sl (aj eE l) l.length 8 .any)→aa (K 5) ay=some c5→aa (K 6) ay=some (I i)→aa (K 7) ay=some (.ptr b 0)→aa (K 8) ay=some (I ((j+1:Nat):Int))→∃ m,m<l.length-j∧RIn l o i c5 b h bN m ay h1 bN:=fun ay q0 q5 q6 q7 q8=>
       ⟨l.length-(j+1),by omega,j+1,o',rfl,by omega,by omega,hc,q0,q5,q6,q7,q8,gb,by rw[hf,hu2],hk,rfl⟩
      by_cases k1':x.kind=1
      ·have bU:x.client≠o'.client:=fun e=>k1 ⟨k1',e⟩
       simp[mh,g0,g7,g8,gb,eO,bO,hlen,h8,ec,eE,k1',bq bU]
       simp[mj,g8]
       rw[aq (by omega) (by omega)]
       refine fin _ ?_ ?_ ?_ ?_ ?_<;>simp[g0,g5,g6,g7]
      ·simp[mh,g0,g7,g8,gb,eO,bO,hlen,h8,ec,eE,bq k1']
       simp[mj,g8]
       rw[aq (by omega) (by omega)]
       refine fin _ ?_ ?_ ?_ ?_ ?_<;>simp[g0,g5,g6,g7]
   ·have fin:∀ tm':T AV,aa (K 0) tm'=some (.sl (aj eE l) l.length 8 .any)→aa (K 5) tm'=some c5→aa (K 6) tm'=some (I i)→aa (K 7) tm'=some (.ptr b 0)→Q .norm tm' h1 bN:=fun tm' q0 q5 q6 q7=>hQ tm' h1 q0 q5 q6 q7 (by rw[hf,Kd hoo];exact gb) hk
    by_cases he:o'.e<0
    ·have ta:¬ o'.lost<0:=fun q=>hoo ⟨he,q⟩
     simp[mg,g0,g7,g8,gb,eO,bO,as4,he,ta]
     exact fin _ (by simp[g0]) (by simp[g5]) (by simp[g6]) (by simp[g7])
    ·simp[mg,g0,g7,g8,gb,eO,bO,as4,he]
     exact fin _ (by simp[g0]) (by simp[g5]) (by simp[g6]) (by simp[g7])
  ·have qL:j=l.length:=by omega
   subst qL
   simp[mg,g0,g7,g8,gb,eO]
   refine hQ _ h1 (by simp[g0]) (by simp[g5]) (by simp[g6]) (by simp[g7]) ?_ hk
   rw[hf];simpa[follow] using gb
end Ln
/-
 LN: the calls of a history: the reference, all of it. No condition.
-/
namespace Ln
open Go.Sx Go
def RQ(l:List Ev)(h:T ag)(nx:Key)(m:Nat)(tm':T AV)(h':T ag)(nx':Key):Prop:=∃ (i:Nat) (c:AV) (os:List Op),m=l.length-i∧i≤l.length∧os.length≤i∧aa (K 0) tm'=some (.sl (aj eE l) l.length 8 .any)∧aa (K 5) tm'=some c∧aa (K 6) tm'=some (I i)∧App c (aj eO os) os.length 10 h' nx' nx∧cU 0 l=os++cU i (l.drop i)∧Ext h nx h' nx'
def avK(l:List Ev)(o:Out):Prop:=∃ c,o=.ret (.tuple [c,I (iM (bk [] l))])∧jN 10 eO c (if bk [] l=0 then cU 0 l else [])
variable{C:cD}{X:Kn}(S:Std C X)
include S
omit S in
theorem awd{c:AV}{l:List AV}{len sz:Nat}{h h':T ag}{nx nx' n0 b:Key}(ha:App c l len sz h nx n0)(hn:nx.toNat≤nx'.toNat)(hb:nx.toNat≤b.toNat)(hk:∀ k:Key,k≠b→aa k h'=aa k h):App c l len sz h' nx' n0:=
 ha.ew hn fun k SA _=>hk k (fun e=>by subst e;omega)
theorem awe{ev:AV}{l:List Ev}(hv:jN 8 eE ev l)(hl:Few l):RY C rm [ev] (avK l):=by
 intro h nx
 have aqs:=hl.len
 have rv:C.raw mc=false:=S.nr (by decide)
 have hz:aO 9999 ev h=(ev,h):=hv.D3 _ _
 refine S.JK.call ?_
 simp[II]
 simp[GI]
 simp[GJ,rv,hz]
 refine(aqt S hv hl _ _).mono ?_
 rintro o h1 bN ⟨rfl,e1⟩
 simp
 by_cases Po:bk [] l=0
 ·simp[zx,Po,iM]
  simp[GK]
  simp[GL]
  have fin:∀ (ay:T AV) (c:AV) (h2:T ag) (aH:Key),aa (K 5) ay=some c→App c (aj eO (cU 0 l)) (cU 0 l).length 10 h2 aH bN→Ext h1 bN h2 aH→eP C (.seq (.ops wW) .ret) (bB [.tmp (K 2),.tmp (K 3)] fun o h' nx'=>avK l o∧Ext h nx h' nx') ay h2 aH:=by
   intro ay c h2 aH q5 A x
   simp[wW,q5]
   obtain⟨f1,f2⟩:=A.GM ep 9998
   refine⟨⟨_,by rw[Po];rfl,?_⟩,?_⟩
   ·rw[if_pos Po];exact f1
   ·have x2:=e1.trans x
    exact⟨x2.n,fun b hb=>by rw[f2 b (by have:=e1.n;omega)];exact x2.g b hb⟩
  simp only[bp,bE] at fin
  rcases hv with⟨rfl,rfl⟩|rfl
  ·refine W.E8 (W.of ?_)
   simp[zy]
   simp[zz]
   refine fin _ .nils h1 bN ?_ (App.nil 10) (Ext.refl _ _)
   simp
  ·refine W.dQ (n:=l.length) (RQ l h1 bN) ?_ ?_
   ·exact⟨0,.nils,[],by simp,by omega,by simp,by simp,by simp,by simp,App.nil 10,by simp,Ext.refl _ _⟩
   ·rintro m dn h2 aH ⟨i,c,os,rfl,hi,hol,g0,g5,g6,A,kb,xe⟩
    refine W.of ?_
    simp[zy]
    simp[zz,g0,g6]
    refine⟨fun bO=>?_,fun QJ=>?_⟩
    ·have Pj:i<l.length:=by omega
     have hlen:=fe.rows l
     have h8:8≤l.length*8-i*8:=by omega
     have ec:=fe.at Pj
     rw[zqt Pj] at kb
     have ho:cU i (l[i] ::l.drop (i+1))=(if l[i].kind=0 then [follow (xO i l[i]) (i+1) (l.drop (i+1))] else [])++cU (i+1) (l.drop (i+1)):=rfl
     rw[ho] at kb
     clear ho
     generalize l[i]=x at kb ec
     by_cases k0:x.kind=0
     ·rw[if_pos k0] at kb
      have s2:=kTSu aH
      have ac1:=(aZ x.args).1
      have ac2:=(aZ x.args).2
      simp[zA,g0,g6,Pj,hlen,h8,ec,eE,k0]
      simp[GN,g0,g6,Pj,hlen,h8,ec,eE,ac1,ac2]
      simp[GO,g6]
      rw[aq (by omega) (by omega)]
      refine awf (o:=xO i x) (i:=i) (b:=aH) hl Pj (by omega) (by simp[xO]) (c5:=c) ?_ ?_ ?_ ?_ ?_ ?_ ?_
      ·simp[g0]
      ·simp[g5]
      ·simp[g6]
      ·simp
      ·simp
      ·simp[eO,xO]
      ·intro JL h3 q0 q5 q6 q7 qb qk
       have A2:=(A.ext (E0 h2 aH (.cells (eO (xO i x)) .fix)))
       have A3:App c (aj eO os) os.length 10 h3 aH.succ bN:=awd A (by omega) (fh _) (fun k hk=>by rw[qk k hk,bG _ _ _ _ hk])
       generalize follow (xO i x) (i+1) (l.drop (i+1))=y at *
       have A4:=A3.ext (E0 h3 aH.succ (.cells (eO y) .fix))
       obtain⟨c5,h5,Ut,g,A5,m1,m2,_⟩:=A4.Fm ep (by have:=xe.n;have:=kTSu aH.succ;omega) (by omega) y
       have yc1:=(aZ y.args).1
       have yc2:=(aZ y.args).2
       have ey:eO y=[I y.client,I y.b,I y.e,I y.lost,.str y.name.1 y.name.2,aC y.args,I y.res.k,I y.res.n,.str 0 0,.nils]:=rfl
       rw[ey] at g qb
       have yf:∀ n H,aO n (aC y.args) H=(aC y.args,H):=dp _
       simp[-appendTo,Ea,q5,q7,qb,yc1,yc2,yf,g]
       simp[wX,q6]
       rw[aq (by omega) (by omega)]
       refine⟨l.length-(i+1),by omega,i+1,c5,os ++ [y],rfl,by omega,by simp;omega,by simp[q0],by simp,by simp,A5,by rw[kb];simp,?_⟩
       have x3:=xe.n
       have:=kTSu aH.succ
       exact⟨by omega,fun b hb=>by rw[m2 b hb,ax (by omega),qk b (fun e=>by subst e;omega),ax (by omega)];exact xe.g b hb⟩
     ·rw[if_neg k0] at kb
      simp[zA,g0,g6,Pj,hlen,h8,ec,eE,bq k0]
      simp[wX,g6]
      rw[aq (by omega) (by omega)]
      exact⟨l.length-(i+1),by omega,i+1,c,os,rfl,by omega,by omega,by simp[g0],by simp[g5],by simp,A,by simpa using kb,xe⟩
    ·have:i=l.length:=by omega
     subst this
     rw[List.drop_length] at kb
     have aH4:cU 0 l=os:=by simpa[cU] using kb
     rw[← aH4] at A
     exact fin _ c h2 aH (by simp[g5]) A xe
 ·have bU:iM (bk [] l)≠0:=by
   unfold iM
   split<;>first|exact absurd ‹_› Po|decide
  simp[zx,bq bU]
  simp[GP]
  exact⟨⟨_,rfl,.inl ⟨rfl,by rw[if_neg Po]⟩⟩,e1⟩
end Ln
/-
 LN: events that are formed: the program. No condition.
-/
namespace Ln
open Go.Sx Go
theorem asS(u:U):wV ⟨u.k,u.n,[]⟩ ⟨0,0,[]⟩=0↔zU u=true:=by
 rw[Dw]
 unfold zU
 rw[decide_eq_true_eq]
 simp
variable{C:cD}{X:Kn}(S:Std C X)
include S
theorem S0{x:Ev}{R:Out→T ag→Key→Prop}{Q:dN}{tm:T AV}{h:T ag}{nx nx0:Key}(hlen:x.args.length≤1000)(h0:nx0.toNat<nx.toNat)(f1:aa (K 1) tm=some (.ptr nx0 0))(hb:aa nx0 h=some (.cells (eE x) .fix))
  (oW:∀ h' nx',x.args.all v7=false→Ext h nx h' nx'→R (.ret (I 1)) h' nx') (eK:∀ tm' h' nx',aa (K 1) tm'=some (.ptr nx0 0)→x.args.all v7=true→Ext h nx h' nx'→Q .norm tm' h' nx')
  (hq:∀ tm' h' nx',bB [.tmp (K 2)] R .ret tm' h' nx'→Q .ret tm' h' nx') :
  eP C (.seq (.ops eQ) (.block 0 (.loop eR))) Q tm h nx:=by
 have rv:C.raw ku=false:=S.nr (by decide)
 obtain⟨kind,client,name,args,res⟩:=x
 have cG:aC args=.nils∧args=[]∨aC args=.sl (aj eU args) args.length 4 .any∧args≠[]:=by
  cases args with
  |nil=>exact .inl ⟨rfl,rfl⟩
  |cons a t=>exact .inr ⟨rfl,by simp⟩
 simp
 have anq:args.length≤1000:=hlen
 rcases cG with⟨e,rfl⟩|⟨e,bU⟩
 ·simp[eQ,f1,hb,eE,e]
  refine W.E8 (W.of ?_)
  simp[eR]
  simp[nI]
  refine eK _ _ _ ?_ rfl (Ext.refl _ _)
  simp[f1]
 ·simp[eQ,f1,hb,eE,e]
  refine W.dQ (n:=args.length) (fun m tm' h' nx'=>∃ j:Nat,m=args.length-j∧j≤args.length∧aa (K 1) tm'=some (.ptr nx0 0)∧aa (K 53) tm'=some (.sl (aj eU args) args.length 4 .any)∧aa (K 54) tm'=some (I args.length)∧aa (K 55) tm'=some (I j)∧Ext h nx h' nx'∧(args.take j).all v7=true) ?_ ?_
  ·exact⟨0,by simp,by omega,by simp[f1],by simp,by simp,by simp,Ext.refl _ _,by simp⟩
  ·rintro m dn h1 bN ⟨j,rfl,hj,g1,g53,g54,g55,e1,ha⟩
   refine W.of ?_
   simp[eR]
   simp[nI,g54,g55]
   refine⟨fun bO=>?_,fun QJ=>?_⟩
   ·have bz:j<args.length:=by omega
    have hr:=An.rows args
    have h4:4≤args.length*4-j*4:=by omega
    have ec:=An.at bz
    have he:List.take 4 (eU args[j])=eU args[j]:=rfl
    have hl4:(eU args[j]).length=4:=rfl
    have hz:∀ H,aO 9999 (.agg (eU args[j])) H=(.agg (eU args[j]),H):=fun H=>by simp[eU]
    have hpc:(eU args[j]).all AV.aN=true:=rfl
    simp[v9,g53,g55,bz,hr,h4,ec,he,hl4,hpc]
    simp[uD,rv,he,hl4,hz]
    refine aI.known (S.uE _ _ _) ?_
    have e2:=e1.trans (E0 h1 bN (.cells (eU args[j]) .fix))
    cases ho:v7 args[j] with
    |false=>
     simp[mN,uF]
     refine hq _ _ _ ?_
     simp
     refine oW _ _ ?_ e2
     rw[List.all_eq_false]
     exact⟨_,Dn bz,by simp[ho]⟩
    |true=>
     simp[mN,uG,g55]
     refine⟨args.length-(j+1),by omega,j+1,rfl,by omega,by simp[g1],by simp[g53],by simp[g54],?_,e2,?_⟩
     ·rw[aq (by omega) (by omega)];simp
     ·intro x hx
      rw[zqu bz,List.mem_append,List.mem_singleton] at hx
      rcases hx with hx|rfl
      ·exact vV.1 ha x hx
      ·exact ho
   ·have bz:j=args.length:=by omega
    subst bz
    rw[List.take_length] at ha
    exact eK _ _ _ (by simp[g1]) ha e1
theorem S6{x:Ev}{R:Out→T ag→Key→Prop}{tm:T AV}{h:T ag}{nx nx0:Key}(hlen:x.args.length≤1000)(h0:nx0.toNat<nx.toNat)(f1:aa (K 1) tm=some (.ptr nx0 0))(f3:aa (K 3) tm=some (.bool (zU x.res)))(hb:aa nx0 h=some (.cells (eE x) .fix))
  (hk:0≤x.kind∧x.kind≤2) (hc:0≤x.client∧x.client≤3) (hR:∀ h' nx',Ext h nx h' nx'→R (.ret (I (if pt x=true then 0 else 1))) h' nx') :
  eP C (.seq (.seq (.ops gE) (.cond (.t (K 32)) (.seq (.seq (.ops c9) (.cond (.t (K 51)) (.seq (.ops eT) .ret) .skip)) (.seq (.seq (.ops eQ) (.block 0 (.loop eR))) (.seq (.ops iS) .ret))) .skip))
   (.seq (.seq (.ops bW) (.cond (.t (K 87)) (.seq (.ops cK) .ret) .skip)) (.seq (.ops iT) .ret))) (bB [.tmp (K 2)] R) tm h nx:=by
 have rv:C.raw ku=false:=S.nr (by decide)
 have fail:pt x=false→R (.ret (I 1)) h nx:=fun e=>by simpa[e] using hR h nx (Ext.refl _ _)
 obtain⟨kind,client,⟨nl,nc⟩,args,res⟩:=x
 have anq:args.length≤1000:=hlen
 have c0:0≤client:=hc.1
 have c3:client≤3:=hc.2
 have cG:aC args=.nils∧args=[]∨∃ l,aC args=.sl l args.length 4 .any∧args≠[]:=by
  cases args with
  |nil=>exact .inl ⟨rfl,rfl⟩
  |cons a t=>exact .inr ⟨_,rfl,by simp⟩
 have rq:kind=0∨kind=1∨kind=2:=by have:=hk.1;have:=hk.2;simp at *;omega
 have last:∀ ay:T AV,aa (K 1) ay=some (.ptr nx0 0)→pt ⟨kind,client,(nl,nc),args,res⟩=v7 res→eP C (.seq (.ops iT) .ret) (bB [.tmp (K 2)] R) ay h nx:=by
  intro ay q1 e
  have hz:∀ H,aO 9999 (.agg (eU res)) H=(.agg (eU res),H):=fun H=>by simp[eU]
  simp
  simp[iT,q1,hb,eE,rv]
  refine aI.known (S.uE res _ _) ?_
  simp
  have:=hR h nx (Ext.refl _ _)
  rw[e] at this
  exact this
 simp only[bp,bE] at last
 rcases rq with rfl|rfl|rfl
 ·-- a call begins
  simp[gE,f1,hb,eE]
  cases hz:zU res with
  |false=>
   rw[hz] at f3
   simp[c9,f1,f3,hb,eE,eT]
   exact fail (by unfold pt;simp[hz])
  |true=>
   rw[hz] at f3
   by_cases hn:nl=0∧nc=0
   ·simp[c9,f1,f3,hb,eE,hn,eT]
    exact fail (by unfold pt;simp[hn])
   ·by_cases hl:16<nl
    ·have Fq:(16:Int)<nl:=by omega
     simp[c9,f1,f3,hb,eE,hn,hl,Fq,eT]
     exact fail (by unfold pt;simp;omega)
    ·have Fq:¬ (16:Int)<nl:=by omega
     have go:∀ (Q:dN) (ay:T AV),args.length≤16→aa (K 1) ay=some (.ptr nx0 0)→(∀ tm' h' nx',bB [.tmp (K 2)] R .ret tm' h' nx'→Q .ret tm' h' nx')→eP C (.seq (.seq (.ops eQ) (.block 0 (.loop eR))) (.seq (.ops iS) .ret)) Q ay h nx:=by
      intro Q ay ha q1 hq
      have eok:=asT (client:=client) hz hn (by omega) ha c0 c3
      rw[bp]
      refine S0 S (x:=⟨0,client,(nl,nc),args,res⟩) (R:=R) hlen h0 q1 hb ?_ ?_ ?_
      ·intro h' nx' e1 e2
       have:=hR h' nx' e2
       rw[eok,e1] at this
       exact this
      ·intro tm' h' nx' q e1 e2
       simp
       simp[iS]
       refine hq _ _ _ ?_
       simp
       have:=hR h' nx' e2
       rw[eok,e1] at this
       exact this
      ·intro tm' h' nx' q
       exact hq _ _ _ q
     simp only[bp,bE] at go
     rcases cG with⟨ea,rfl⟩|⟨l,ea,bU⟩
     ·simp[c9,f1,f3,hb,eE,hn,hl,Fq,ea]
      refine go _ _ (by simp) ?_ (fun _ _ _ q=>q)
      simp[f1]
     ·by_cases ha:16<args.length
      ·have ha2:(16:Int)<args.length:=by omega
       simp[c9,f1,f3,hb,eE,hn,hl,Fq,ea,ha,ha2,eT]
       exact fail (by unfold pt;simp;omega)
      ·have ha2:¬ (16:Int)<args.length:=by omega
       simp[c9,f1,f3,hb,eE,hn,hl,Fq,ea,ha,ha2]
       refine go _ _ (by omega) ?_ (fun _ _ _ q=>q)
       simp[f1]
 ·-- a call ends
  simp[gE,f1,hb,eE]
  by_cases hn:nl=0∧nc=0
  ·obtain⟨rfl,rfl⟩:=hn
   rcases cG with⟨ea,rfl⟩|⟨l,ea,bU⟩
   ·simp[bW,f1,f3,hb,eE,ea]
    refine last _ ?_ (ayI c0 c3)
    simp[f1]
   ·simp[bW,f1,f3,hb,eE,ea,List.length_pos_iff.2 bU,cK]
    exact fail (by unfold pt;simp[bU])
  ·simp[bW,f1,f3,hb,eE,hn,cK]
   exact fail (by unfold pt;simp;intros;omega)
 ·-- a ayJ
  simp[gE,f1,hb,eE]
  by_cases hn:nl=0∧nc=0
  ·obtain⟨rfl,rfl⟩:=hn
   rcases cG with⟨ea,rfl⟩|⟨l,ea,bU⟩
   ·by_cases Sm:client=0
    ·subst Sm
     cases hz:zU res with
     |false=>
      rw[hz] at f3
      simp[bW,f1,f3,hb,eE,ea,cK]
      exact fail (by rw[anr,hz])
     |true=>
      rw[hz] at f3
      simp[bW,f1,f3,hb,eE,ea]
      refine last _ ?_ (by rw[anr,hz,asU hz])
      simp[f1]
    ·simp[bW,f1,f3,hb,eE,ea,bq Sm,cK]
     exact fail (by unfold pt;simp[Sm])
   ·simp[bW,f1,f3,hb,eE,ea,List.length_pos_iff.2 bU,cK]
    exact fail (by unfold pt;simp[bU])
  ·simp[bW,f1,f3,hb,eE,hn,cK]
   exact fail (by unfold pt;simp;intros;omega)
theorem ako(x:Ev)(hlen:x.args.length≤1000):RY C ik [.agg (eE x)] (·=.ret (I (if pt x=true then 0 else 1))):=by
 intro h nx
 have s1:=kTSu nx
 have rc:C.raw il=false:=S.nr (by decide)
 have ac:=aZ x.args
 refine S.xS.call ?_
 simp[uH]
 simp[wa,eE,ac.1]
 have hb1:aa nx (au nx (some (.cells (eE x) .fix)) h)=some (.cells (eE x) .fix):=by simp
 have he:=E0 h nx (.cells (eE x) .fix)
 have hcz:(wV ⟨x.res.k,x.res.n,[]⟩ ⟨0,0,[]⟩==0)=zU x.res:=by
  rw[Bool.eq_iff_iff,beq_iff_eq];exact asS _
 unfold eE at hb1 he
 simp[wb,rc]
 refine aI.known (S.pJ ⟨x.res.k,x.res.n,[]⟩ ⟨0,0,[]⟩ (by simp) (by simp) _ _) ?_
 simp[hcz]
 by_cases hk:x.kind<0
 ·simp[eV,hk,gF,wc (x:=x) (by omega)]
  exact he
 by_cases Nv:2<x.kind
 ·simp[eV,hk,Nv,gF,wc (x:=x) (by omega)]
  exact he
 by_cases hc:x.client<0
 ·simp[eV,hk,Nv,hc,gF,wc (x:=x) (by omega)]
  exact he
 by_cases hc2:3<x.client
 ·have Mq:¬ x.client<4:=by omega
  simp[eV,hk,Nv,hc,Mq,gF,wc (x:=x) (by omega)]
  exact he
 have Mq:x.client<4:=by omega
 simp[eV,hk,Nv,hc,Mq]
 have key:=fun ay g1 g3=>S6 S (x:=x) (nx0:=nx) (nx:=nx.succ) (h:=au nx (some (.cells (eE x) .fix)) h) (tm:=ay) (R:=fun o h' nx'=>o=.ret (I (if pt x=true then 0 else 1))∧Ext h nx h' nx') hlen (by omega) g1 g3 hb1 (by omega) (by omega) (fun h' nx' e=>⟨rfl,he.trans e⟩)
 simp only[bp,bE] at key
 refine key _ ?_ ?_<;>simp
end Ln
/-
 LN: rows that are written in place. No condition.
-/
namespace Go.Sx
open Go
section
variable{α:Type}{z:Nat}{enc:α→List AV}
theorem Flat.parts(F:Flat z enc){l:List α}{j:Nat}(hj:j<l.length):aj enc l=aj enc (l.take j)++(enc l[j]++aj enc (l.drop (j+1))):=by
 conv=>lhs;rw[← List.take_append_drop j l,zqt hj]
 rw[kU,cY]
theorem Flat.BP(F:Flat z enc){l:List α}{j off:Nat}{vs:List AV}{y:α}(hj:j<l.length)(ho:off+vs.length≤z)(hy:enc y=(enc l[j]).take off++(vs++(enc l[j]).drop (off+vs.length))) :
  (aj enc l).take (j*z+off)++(vs++(aj enc l).drop (j*z+off+vs.length))=aj enc (l.set j y):=by
 have ht:(l.take j).length=j:=by simp;omega
 have hr:(aj enc (l.take j)).length=j*z:=by rw[F.rows,ht]
 have hz:(enc l[j]).length=z:=F.len _
 rw[List.set_eq_take_append_cons_drop,if_pos hj,kU,cY,hy,F.parts hj]
 have h1:List.take (j*z+off) (aj enc (l.take j))=aj enc (l.take j):=Pu (by rw[hr];omega)
 have h2:List.drop (j*z+off+vs.length) (aj enc (l.take j))=[]:=List.drop_eq_nil_of_le (by rw[hr];omega)
 rw[zqw,zqq,hr,h1,h2]
 rw[show j*z+off-j*z=off by omega,show j*z+off+vs.length-j*z=off+vs.length by omega]
 rw[List.take_append_of_le_length (by omega),List.drop_append_of_le_length (by omega)]
 simp
theorem Flat.put(F:Flat z enc){l:List α}{j:Nat}(hj:j<l.length)(y:α):(aj enc l).take (j*z)++(enc y++(aj enc l).drop (j*z+z))=aj enc (l.set j y):=by
 have h1:=F.len y
 have:=F.BP (off:=0) (vs:=enc y) (y:=y) hj (by omega) (by rw[List.take_zero,List.drop_eq_nil_of_le (by rw[F.len];omega)];simp)
 rw[h1] at this
 exact this
end
end Go.Sx
/-
 LN: one event of the pass over a history. No condition.
-/
namespace Ln
open Go.Sx Go
def VA(res:List RV)(R:Out→T ag→Key→Prop):dN:=fun e tm h nx=>match e with
 |.norm|.ret=>∃ l,resultsA h tm res=some l∧R (.ret (lT l)) h nx
 |.pan a=>R (.pan a) h nx
 |.exit _=>False
@[simp] theorem aDp(res:List RV)(R:Out→T ag→Key→Prop)(tm:T AV)(h:T ag)(nx:Key):VA res R .ret tm h nx=∃ l,resultsA h tm res=some l∧R (.ret (lT l)) h nx:=ug Iff.rfl
@[simp] theorem aBn(res:List RV)(R:Out→T ag→Key→Prop)(tm:T AV)(h:T ag)(nx:Key):VA res R .norm tm h nx=∃ l,resultsA h tm res=some l∧R (.ret (lT l)) h nx:=ug Iff.rfl
theorem FnR.call{C:cD}{f:Nat}{p:fK}(S:FnR C f p){l:List AV}{h:T ag}{nx:Key}{R:Out→T ag→Key→Prop}(hw:eP C p.body (VA p.res R) (fV l (K 0) .nil) h nx):aI C f l h nx R:=by
 refine aI.of_wp (S.off _ _ _) S.get ?_
 have e:yl C f p.res R=VA p.res R:=by
  funext e tm h nx
  cases e<;>simp only[yl,VA,S.lS]<;>rfl
 rw[e]
 exact hw
def Vp(c:AV)(os:List Op)(h:T ag)(nx n0:Key):Prop:=(c=.nils∧os=[])∨∃ b:Key,c=.slice b 0 os.length 10∧aa b h=some (.cells (aj eO os) .part)∧n0.toNat≤b.toNat∧b.toNat<nx.toNat
theorem Vp.ext{c:AV}{os:List Op}{h h':T ag}{nx nx' n0:Key}(g:Vp c os h nx n0)(e:Ext h nx h' nx'):Vp c os h' nx' n0:=by
 rcases g with g|⟨b,h1,h2,h3,h4⟩
 ·exact .inl g
 ·exact .inr ⟨b,h1,by rw[e.g b h4];exact h2,h3,by have:=e.n;omega⟩
theorem Vp.ne{c:AV}{os:List Op}{h h':T ag}{nx nx' n0 k:Key}(g:Vp c os h nx n0)(hn:nx.toNat≤nx'.toNat)(hk:∀ l,aa k h≠some (.cells l .part))(e:∀ b:Key,b.toNat<nx.toNat→b≠k→aa b h'=aa b h):Vp c os h' nx' n0:=by
 rcases g with g|⟨b,h1,h2,h3,h4⟩
 ·exact .inl g
 ·exact .inr ⟨b,h1,by rw[e b h4 (fun q=>by subst q;exact hk _ h2)];exact h2,h3,by omega⟩
theorem Vp.add{c:AV}{os:List Op}{h:T ag}{nx n0:Key}(g:Vp c os h nx n0)(h0:n0.toNat≤nx.toNat)(hl:os.length≤1000)(y:Op) :
  ∃ c' h' nx',appendTo 10 c (eO y) 1 h nx=.val c' h' nx'∧Vp c' (os ++ [y]) h' nx' n0∧nx.toNat≤nx'.toNat∧(∀ b:Key,b.toNat<n0.toNat→aa b h'=aa b h)∧∀ b:Key,b.toNat<nx.toNat→(∀ l,aa b h≠some (.cells l .part))→aa b h'=aa b h:=by
 have s1:=kTSu nx
 have hc:(eO y).all AV.aN=true:=vV.2 (ep.cell y)
 rcases g with⟨rfl,rfl⟩|⟨b,rfl,h2,h3,h4⟩
 ·exact⟨.slice nx 0 1 10,au nx (some (.cells (eO y) .part)) h,nx.succ,by simp,.inr ⟨nx,rfl,by simp[pK],h0,by omega⟩,by omega,fun b hb=>ax (by omega),fun b hb _=>ax hb⟩
 ·have hr:=ep.rows os
  have Fq:os.length+1≤1048576:=by omega
  refine⟨.slice nx 0 (os.length+1) 10,au nx (some (.cells (aj eO os++eO y) .part)) (au b none h),nx.succ,?_,.inr ⟨nx,by simp,by rw[kU,pK];simp,h0,by omega⟩,by omega,fun x hx=>?_,fun x hx hk=>?_⟩
  ·simp[Fq,hc,h2,hr,Cd]
  ·rw[ax (by omega),ax (by omega)]
  ·rw[ax hx,bG]
   rintro rfl
   exact hk _ h2
def DG(s:Sc):List AV:=[I s.o0,I s.o1,I s.o2,I s.o3]
theorem HC(s:Sc):(DG s).length=4:=rfl
theorem LY(s:Sc){c:Nat}(h:c<4):(DG s)[c]?=some (I (s.op c)):=by
 have:c=0∨c=1∨c=2∨c=3:=by omega
 rcases this with rfl|rfl|rfl|rfl<;>simp[DG,Sc.op]
theorem Tc(s:Sc){c:Nat}(h:c<4)(v:Int):List.take c (DG s)++I v ::List.drop (c+1) (DG s)=DG (s.set c v):=by
 have:c=0∨c=1∨c=2∨c=3:=by omega
 rcases this with rfl|rfl|rfl|rfl<;>simp[DG,Sc.set]
abbrev I2:aA:=(.block 4 (.seq (.ops im)
 (.cond (.t (K 53))
 (.seq (.seq (.ops lj)
 (.cond (.t (K 56))
 (.seq (.ops pW)
 .ret)
 .skip))
 (.seq (.ops lp)
 (.ops lq)))
 (.seq (.ops kZ)
 (.cond (.t (K 73))
 (.seq (.seq (.ops lr)
 (.cond (.t (K 76))
 (.seq (.ops pY)
 .ret)
 .skip))
 (.seq (.staged pZ ⟨[K 77,K 78,K 79,K 80,K 81,K 82,K 83,K 84,K 85,K 86,K 87],[]⟩)
 (.ops p9)))
 (.seq (.ops pO)
 (.cond (.t (K 91))
 (.seq (.ops pP)
 (.block 5 (.loop sj)))
 .skip)))))))
structure At(l:List Ev)(s:Sc)(i:Nat)(bo n0:Key)(tm:T AV)(h:T ag)(nx:Key):Prop where
 g8:aa (K 8) tm=some (.ptr bo 0)
 g35:aa (K 35) tm=some (.sl (aj eE l) l.length 8 .any)
 g36:aa (K 36) tm=some (I l.length)
 g37:aa (K 37) tm=some (I i)
 gro:∃ c,aa (K 7) tm=some c∧Vp c s.ops h nx n0
 DG:aa bo h=some (.cells (DG s) .fix)
 bo0:n0.toNat≤bo.toNat
 bo1:bo.toNat<nx.toNat
variable{C:cD}
theorem atw{l:List Ev}{s:Sc}{i:Nat}{bo n0 nb:Key}{x:Ev}{Q:dN}{tm:T AV}{h:T ag}{nx:Key}(A:At l s i bo n0 tm h nx)(hx:pt x=true)(hk:x.kind=0)(hl:s.ops.length≤1000)(bU:bo≠nb)(hnb:nb.toNat<nx.toNat)
  (g9:aa (K 9) tm=some (I i)) (DQ:aa (K 10) tm=some (.ptr nb 0)) (gb:aa nb h=some (.cells (eE x) .fix)) (Gg:aa (K 12) tm=some (I (s.op x.client))) (g52:aa (K 52) tm=some (I x.kind))
  (oW:∀ tm',ry s x=2→aa (K 2) tm'=some .nils→aa (K 3) tm'=some (I 20)→Q .ret tm' h nx)
  (eK:∀ tm' h' nx',ry s x=0→At l (ju i s x) i bo n0 tm' h' nx'→(∀ b:Key,b.toNat<n0.toNat→aa b h'=aa b h)→nx.toNat≤nx'.toNat→Q .norm tm' h' nx') :
  eP C I2 Q tm h nx:=by
 have Pf:=hx
 unfold pt at Pf
 rw[decide_eq_true_eq] at Pf
 obtain⟨_,_,c0,c3,_⟩:=Pf
 obtain⟨g8,g35,g36,g37,⟨c7,g7,gro⟩,go,bo0,bo1⟩:=A
 have hb:ry s x=if 0≤s.op x.client then 2 else 0:=by unfold ry;rw[hx];simp[hk]
 obtain⟨kind,client,⟨nl,nc⟩,args,res⟩:=x
 have hk:kind=0:=hk
 subst hk
 obtain⟨c,rfl⟩:=Int.eq_ofNat_of_zero_le c0
 have hc4:c<4:=by have:((c:Nat):Int)≤3:=c3;omega
 have hg:=LY s hc4
 have hp:=fun v=>Tc s hc4 v
 have ol:=HC s
 have Mq:c≤3:=by omega
 simp
 simp[im,g52]
 by_cases ho:s.op c<0
 ·have JE:ry s ⟨0,c,(nl,nc),args,res⟩=0:=by rw[hb,if_neg];simpa using ho
  simp[lj,Gg,ho]
  have UG:∀ ls,aa bo h≠some (.cells ls .part):=fun ls e=>by rw[go] at e;cases e
  have ac:=aZ args
  have af:∀ n H,aO n (aC args) H=(aC args,H):=dp args
  have s1:=kTSu nx
  -- the row of the open calls is written first
  have aEV:Vp c7 s.ops (au bo (some (.cells (DG (s.set c s.ops.length)) .fix)) h) nx n0:=gro.ne (fh _) UG (fun b _ hb=>bG _ _ _ _ hb)
  have go1:aa bo (au bo (some (.cells (DG (s.set c s.ops.length)) .fix)) h)=some (.cells (DG (s.set c s.ops.length)) .fix):=by simp
  have gb1:aa nb (au bo (some (.cells (DG (s.set c s.ops.length)) .fix)) h)=some (.cells (eE ⟨0,c,(nl,nc),args,res⟩) .fix):=by rw[bG _ _ _ _ (Ne.symm bU)];exact gb
  have ay8:∀ b:Key,b.toNat<n0.toNat→aa b (au bo (some (.cells (DG (s.set c s.ops.length)) .fix)) h)=aa b h:=fun b hb=>ax (by omega)
  have fin:∀ ay:T AV,(∀ k:Key,k=K 7∨k=K 8∨k=K 9∨k=K 10∨k=K 35∨k=K 36∨k=K 37→aa k ay=aa k tm)→mX C (al 4 Q) lq ay (au bo (some (.cells (DG (s.set c s.ops.length)) .fix)) h) nx:=by
   intro ay q
   have q7:=(q (K 7) (by simp)).trans g7
   have q8:=(q (K 8) (by simp)).trans g8
   have q9:=(q (K 9) (by simp)).trans g9
   have Sk:=(q (K 10) (by simp)).trans DQ
   generalize au bo (some (.cells (DG (s.set c s.ops.length)) .fix)) h=h1 at aEV go1 gb1 ay8 ⊢
   have atb:=aEV.ext (E0 h1 nx (.cells (eO (xO i ⟨0,c,(nl,nc),args,res⟩)) .fix))
   obtain⟨c',h',nx',ga,aK7,n3,aK8,aEW⟩:=atb.add (by omega) hl (xO i ⟨0,c,(nl,nc),args,res⟩)
   have ey:eO (xO i ⟨0,c,(nl,nc),args,res⟩)=[I c,I i,I (-1),I (-1),.str nl nc,aC args,I 0,I 0,.str 0 0,.nils]:=rfl
   rw[ey] at ga
   simp[-appendTo,lq,q7,q9,Sk,gb1,eE,ac.1,ac.2,af,ga]
   have hn:ju i s ⟨0,c,(nl,nc),args,res⟩={s.set c s.ops.length with ops:=s.ops ++ [xO i ⟨0,c,(nl,nc),args,res⟩]}:=by unfold ju;simp
   refine eK _ _ _ JE ⟨by simp[q8],?_,?_,?_,⟨c',by simp,?_⟩,?_,bo0,by omega⟩ ?_ (by omega)
   ·simp;exact(q (K 35) (by simp)).trans g35
   ·simp;exact(q (K 36) (by simp)).trans g36
   ·simp;exact(q (K 37) (by simp)).trans g37
   ·rw[hn];exact aK7
   ·rw[hn,aEW bo (by omega) (fun ls e=>by rw[ax bo1,go1] at e;cases e),ax bo1,go1]
    rfl
   ·intro b fL
    rw[aK8 b fL,ax (by omega),ay8 b fL]
  rcases gro with⟨e7,eo⟩|⟨b7,e7,hb7,_,awH⟩
  ·rw[e7] at g7
   have e0:s.ops.length=0:=by simp[eo]
   rw[e0] at fin
   have S7:=hp 0
   simp[lp,g7,g8,DQ,gb,eE,go,ol,hc4,S7,hg,Mq]
   refine fin _ ?_
   rintro k (rfl|rfl|rfl|rfl|rfl|rfl|rfl)<;>simp[g7]
  ·rw[e7] at g7
   have S7:=hp s.ops.length
   simp[lp,g7,g8,DQ,gb,eE,go,ol,hc4,S7,hg,Mq]
   refine fin _ ?_
   rintro k (rfl|rfl|rfl|rfl|rfl|rfl|rfl)<;>simp[g7]
 ·have JE:ry s ⟨0,c,(nl,nc),args,res⟩=2:=by rw[hb,if_pos];simpa using ho
  simp[lj,Gg,ho]
  simp[pW]
  refine oW _ JE ?_ ?_<;>simp
theorem aBp{l:List Ev}{s:Sc}{i:Nat}{bo n0 nb:Key}{x:Ev}{Q:dN}{tm:T AV}{h:T ag}{nx:Key}(A:At l s i bo n0 tm h nx)(hx:pt x=true)(hk:x.kind=1)(x4:s.op x.client<s.ops.length)(bU:bo≠nb)(hnb:nb.toNat<nx.toNat)
  (g9:aa (K 9) tm=some (I i)) (DQ:aa (K 10) tm=some (.ptr nb 0)) (gb:aa nb h=some (.cells (eE x) .fix)) (Gg:aa (K 12) tm=some (I (s.op x.client))) (g52:aa (K 52) tm=some (I x.kind))
  (oW:∀ tm',ry s x=3→aa (K 2) tm'=some .nils→aa (K 3) tm'=some (I 25)→Q .ret tm' h nx)
  (eK:∀ tm' h' nx',ry s x=0→At l (ju i s x) i bo n0 tm' h' nx'→(∀ b:Key,b.toNat<n0.toNat→aa b h'=aa b h)→nx.toNat≤nx'.toNat→Q .norm tm' h' nx') :
  eP C I2 Q tm h nx:=by
 have Pf:=hx
 unfold pt at Pf
 rw[decide_eq_true_eq] at Pf
 obtain⟨_,_,c0,c3,_⟩:=Pf
 obtain⟨g8,g35,g36,g37,⟨c7,g7,gro⟩,go,bo0,bo1⟩:=A
 have hb:ry s x=if s.op x.client<0 then 3 else 0:=by unfold ry;rw[hx];simp[hk]
 obtain⟨kind,client,⟨nl,nc⟩,args,res⟩:=x
 have hk:kind=1:=hk
 subst hk
 obtain⟨c,rfl⟩:=Int.eq_ofNat_of_zero_le c0
 have hc4:c<4:=by have:((c:Nat):Int)≤3:=c3;omega
 have hg:=LY s hc4
 have hp:=fun v=>Tc s hc4 v
 have ol:=HC s
 have Mq:c≤3:=by omega
 simp
 simp[im,g52]
 simp[kZ,g52]
 by_cases ho:s.op c<0
 ·have JE:ry s ⟨1,c,(nl,nc),args,res⟩=3:=by rw[hb,if_pos];simpa using ho
  simp[lr,Gg,ho]
  simp[pY]
  refine oW _ JE ?_ ?_<;>simp
 ·have JE:ry s ⟨1,c,(nl,nc),args,res⟩=0:=by rw[hb,if_neg];simpa using ho
  simp[lr,Gg,ho]
  have x4:s.op c<s.ops.length:=x4
  obtain⟨a,ha⟩:=Int.eq_ofNat_of_zero_le (show 0≤s.op c by omega)
  have hal:a<s.ops.length:=by omega
  rcases gro with⟨e7,eo⟩|⟨b7,e7,hb7,aAB,awH⟩
  ·rw[eo] at hal;simp at hal
  ·rw[e7] at g7
   have awI:b7≠bo:=by rintro rfl;rw[go] at hb7;simp at hb7
   have aK9:b7≠nb:=by rintro rfl;rw[gb] at hb7;simp at hb7
   have hr:=ep.rows s.ops
   have p1:=ep.BP (l:=s.ops) (j:=a) (off:=2) (vs:=[I i]) (y:={s.ops[a] with e:=i}) hal (by simp) rfl
   have aLa:a<(s.ops.set a {s.ops[a] with e:=i}).length:=by simpa using hal
   have Pk:=ep.rows (s.ops.set a {s.ops[a] with e:=i})
   have p2:=ep.BP (l:=s.ops.set a {s.ops[a] with e:=i}) (j:=a) (off:=6) (vs:=eU res) (y:={s.ops[a] with e:=i,res:=res}) aLa (by simp[eU]) (by simp[eO,eU])
   simp[eU] at p1 p2 Pk
   rw[ha] at Gg
   have hb1:a*10+2<s.ops.length*10:=by omega
   have Ch:a*10+2+1≤s.ops.length*10:=by omega
   have hb3:a*10+6+4≤s.ops.length*10:=by omega
   have gnb:∀ B,aa nb (au b7 B h)=some (.cells (eE ⟨1,c,(nl,nc),args,res⟩) .fix):=fun B=>by rw[bG _ _ _ _ (Ne.symm aK9)];exact gb
   have gbo:∀ B,aa bo (au b7 B h)=some (.cells (DG s) .fix):=fun B=>by rw[bG _ _ _ _ (Ne.symm awI)];exact go
   have hbr:AV.beq (.agg [I res.k,I res.n,.str 0 0,.nils]) (.agg [I res.k,I res.n,.str 0 0,.nils])=true:=beq_refl _ rfl
   simp[pZ,g7,g9,DQ,Gg,gb,eE,hal,hb7,hr,Pk,Ch,hb3,p1,p2,gnb,hbr]
   have hp1:=hp (-1)
   simp[p9,g8,DQ,gnb,gbo,eE,ol,hc4,hp1,Mq]
   have hn:ju i s ⟨1,c,(nl,nc),args,res⟩={s.set c (-1) with ops:=s.ops.modify a fun o=>{o with e:=i,res:=res}}:=by unfold ju;simp[ha]
   have hm:s.ops.modify a (fun o=>{o with e:=(i:Int),res:=res})=s.ops.set a {s.ops[a] with e:=i,res:=res}:=by
    apply List.ext_getElem?
    intro q
    rw[List.getElem?_modify,List.getElem?_set]
    by_cases hq:a=q
    ·subst hq;simp[hal]
    ·simp[hq]
   refine eK _ _ _ JE ⟨by simp[g8],by simp[g35],by simp[g36],by simp[g37],⟨.slice b7 0 s.ops.length 10,by simp[g7],.inr ⟨b7,?_,?_,aAB,awH⟩⟩,?_,bo0,bo1⟩ ?_ (fh _)
   ·rw[hn];simp
   ·rw[hn]
    show aa b7 _=some (ag.cells (aj eO (s.ops.modify a _)) CK.part)
    rw[hm,bG _ _ _ _ awI]
    simp
   ·rw[hn];simp;rfl
   ·intro b fL
    rw[ax (by omega),ax (by omega)]
end Ln
/-
 LN: a crash in the pass over a history. No condition.
-/
namespace Ln
open Go.Sx Go
def uR(i:Nat)(s:Sc):Nat→List Op
 |0=>s.ops
 |j+1=>lW i (s.op j) (uR i s j)
def clr(s:Sc):Nat→Sc
 |0=>s
 |j+1=>(clr s j).set j (-1)
theorem Vo(i:Nat)(v:Int)(l:List Op):(lW i v l).length=l.length:=by unfold lW;split<;>simp
theorem Ri(i:Nat)(s:Sc):∀ j,(uR i s j).length=s.ops.length
 |0=>rfl
 |j+1=>by
  show(lW i (s.op j) (uR i s j)).length=_
  rw[Vo,Ri i s j]
theorem as7{i a:Nat}{v:Int}{l:List Op}(hv:v=a)(ha:a<l.length):lW i v l=l.set a {l[a] with lost:=i}:=by
 subst hv
 unfold lW
 rw[if_pos (by omega)]
 apply List.ext_getElem?
 intro q
 rw[List.getElem?_modify,List.getElem?_set]
 by_cases hq:a=q
 ·subst hq;simp[ha]
 ·simp[hq]
theorem awF{i:Nat}{v:Int}{l:List Op}(hv:v<0):lW i v l=l:=by unfold lW;rw[if_neg (by omega)]
def SwI(l:List Ev)(s:Sc)(i:Nat)(bo n0:Key)(h:T ag)(nx:Key)(c7:AV)(m:Nat)(tm':T AV)(h':T ag)(nx':Key):Prop:=∃ j:Nat,m=4-j∧j≤4∧nx'=nx∧
 aa (K 7) tm'=some c7∧aa (K 8) tm'=some (.ptr bo 0)∧aa (K 9) tm'=some (I i)∧aa (K 35) tm'=some (.sl (aj eE l) l.length 8 .any)∧aa (K 36) tm'=some (I l.length)∧aa (K 37) tm'=some (I i)∧
 aa (K 93) tm'=some (.agg (DG s))∧aa (K 94) tm'=some (I j)∧Vp c7 (uR i s j) h' nx n0∧aa bo h'=some (.cells (DG (clr s j)) .fix)∧(∀ b:Key,b.toNat<n0.toNat→aa b h'=aa b h)
variable{C:cD}
theorem as8{l:List Ev}{s:Sc}{i:Nat}{bo n0:Key}{x:Ev}{Q:dN}{tm:T AV}{h:T ag}{nx:Key}(A:At l s i bo n0 tm h nx)(hx:pt x=true)(hk:x.kind=2)(x4:∀ c,0≤c→c≤3→s.op c<s.ops.length)(hl:s.ops.length≤1000)
  (g9:aa (K 9) tm=some (I i)) (g52:aa (K 52) tm=some (I x.kind))
  (eK:∀ tm' h' nx',ry s x=0→At l (ju i s x) i bo n0 tm' h' nx'→(∀ b:Key,b.toNat<n0.toNat→aa b h'=aa b h)→nx.toNat≤nx'.toNat→Q .norm tm' h' nx') :
  eP C I2 Q tm h nx:=by
 obtain⟨g8,g35,g36,g37,⟨c7,g7,gro⟩,go,bo0,bo1⟩:=A
 have JE:ry s x=0:=by unfold ry;rw[hx];simp[hk]
 have hn:ju i s x=⟨lW i s.o3 (lW i s.o2 (lW i s.o1 (lW i s.o0 s.ops))),-1,-1,-1,-1⟩:=by unfold ju;simp[hk]
 rw[hk] at g52
 simp
 simp[im,g52]
 simp[kZ,g52]
 simp[pO,g52]
 have ol:=HC s
 have ot:List.take 4 (DG s)=DG s:=rfl
 have oz:∀ H,aO 9999 (.agg (DG s)) H=(.agg (DG s),H):=fun H=>by simp[DG]
 simp[pP,g8,go,ol,ot,oz]
 refine W.dQ (n:=4) (SwI l s i bo n0 h nx c7) ?_ ?_
 ·refine⟨0,rfl,by omega,rfl,?_,?_,?_,?_,?_,?_,?_,?_,gro,go,fun _ _=>rfl⟩<;>simp[*]
 ·rintro m dn h1 bN ⟨j,rfl,hj,rfl,g7,g8,g9,g35,g36,g37,g93,g94,gro,go,aqJ⟩
  refine W.of ?_
  simp[sj]
  simp[x5,g94]
  refine⟨fun bO=>?_,fun QJ=>?_⟩
  ·have hj4:j<4:=by omega
   have hj3:j≤3:=by omega
   have hg:=LY s hj4
   have hp:=Tc (clr s j) hj4 (-1)
   have ol2:=HC (clr s j)
   have hjb:=x4 j (by omega) (by omega)
   have hlen:=Ri i s j
   simp[x6,g93,g94,hj4,hg]
   have fin:∀ (ay:T AV) (h2:T ag),(∀ k:Key,k=K 7∨k=K 8∨k=K 9∨k=K 35∨k=K 36∨k=K 37∨k=K 93∨k=K 94→aa k ay=aa k dn)→aa (K 13) ay=some (I j)→Vp c7 (uR i s (j+1)) h2 bN n0→aa bo h2=some (.cells (DG (clr s j)) .fix)→(∀ b:Key,b.toNat<n0.toNat→aa b h2=aa b h)→
     mX C (al 6 (av (eP C (.ops pQ) (av (fun tm h' nx=>∃ m,m<4-j∧SwI l s i bo n0 h bN c7 m tm h' nx) (al 5 (al 4 Q)))) (av (fun tm h' nx=>∃ m,m<4-j∧SwI l s i bo n0 h bN c7 m tm h' nx) (al 5 (al 4 Q))))) pR ay h2 bN:=by
    intro ay h2 q q13 atb go2 aJK
    have q7:=(q (K 7) (by simp)).trans g7
    have q8:=(q (K 8) (by simp)).trans g8
    have q9:=(q (K 9) (by simp)).trans g9
    have q35:=(q (K 35) (by simp)).trans g35
    have q36:=(q (K 36) (by simp)).trans g36
    have q37:=(q (K 37) (by simp)).trans g37
    have q93:=(q (K 93) (by simp)).trans g93
    have q94:=(q (K 94) (by simp)).trans g94
    simp[pR,q13,q8,go2,hj4,hj3,ol2,hp]
    simp[pQ,q94]
    rw[aq (by omega) (by omega)]
    refine⟨4-(j+1),by omega,j+1,rfl,by omega,rfl,by simp[q7],by simp[q8],by simp[q9],by simp[q35],by simp[q36],by simp[q37],by simp[q93],by simp,?_,by simp[clr],fun b hb=>?_⟩
    ·exact atb.ne (fh _) (fun ls e=>by rw[go2] at e;simp at e) (fun b _ hb=>bG _ _ _ _ hb)
    ·rw[ax (by omega)];exact aJK b hb
   by_cases ho:s.op j<0
   ·simp[pS,ho]
    refine fin _ h1 ?_ ?_ ?_ go aqJ
    ·rintro k (rfl|rfl|rfl|rfl|rfl|rfl|rfl|rfl)<;>simp
    ·simp
    ·show Vp c7 (lW i (s.op j) (uR i s j)) h1 bN n0
     rw[awF ho];exact gro
   ·obtain⟨a,ha⟩:=Int.eq_ofNat_of_zero_le (show 0≤s.op j by omega)
    have hal:a<(uR i s j).length:=by omega
    have ho2:¬ (a:Int)<0:=by omega
    rcases gro with⟨e7,eo⟩|⟨b7,e7,hb7,aAB,awH⟩
    ·rw[eo] at hal;simp at hal
    ·have g7':=g7
     rw[e7] at g7
     have awI:b7≠bo:=by rintro rfl;rw[go] at hb7;simp at hb7
     have hr:=ep.rows (uR i s j)
     have p1:=ep.BP (l:=uR i s j) (j:=a) (off:=3) (vs:=[I i]) (y:={(uR i s j)[a] with lost:=i}) hal (by simp) rfl
     simp at p1
     have Ch:a*10+3+1≤(uR i s j).length*10:=by omega
     simp[pS,ha,ho2]
     simp[x7,g7,g9,hal,hb7,hr,Ch,p1]
     refine fin _ _ ?_ ?_ ?_ ?_ ?_
     ·rintro k (rfl|rfl|rfl|rfl|rfl|rfl|rfl|rfl)<;>simp[g7]
     ·simp
     ·refine .inr ⟨b7,by rw[e7];simp[uR,Vo],?_,aAB,awH⟩
      show _=some (ag.cells (aj eO (lW i (s.op j) (uR i s j))) CK.part)
      rw[as7 ha hal];simp
     ·rw[bG _ _ _ _ (Ne.symm awI)];exact go
     ·intro b hb
      rw[ax (by omega)];exact aqJ b hb
  ·have:j=4:=by omega
   subst this
   refine eK _ _ _ JE ⟨by simp[g8],by simp[g35],by simp[g36],by simp[g37],⟨c7,by simp[g7],?_⟩,?_,bo0,bo1⟩ aqJ (fh _)
   ·rw[hn]
    have:uR i s 4=lW i s.o3 (lW i s.o2 (lW i s.o1 (lW i s.o0 s.ops))):=by simp[uR,Sc.op]
    rw[this] at gro;exact gro
   ·rw[hn,go]
    simp[clr,Sc.set,DG]
end Ln
/-
 LN: the pass over a history. No condition.
-/
namespace Ln
open Go.Sx Go
def sc0:Sc:=⟨[],-1,-1,-1,-1⟩
theorem kp0:Kp [] sc0:=by
 refine⟨rfl,?_,?_,?_,?_⟩
 ·intro c a b;unfold sc0 Sc.op fU;repeat' split<;>simp
 ·intro c _;unfold sc0 Sc.op;simp
 ·intro c a b h;unfold sc0 Sc.op at h;simp at h
 ·intro j o h;simp[sc0] at h
theorem Kp.lt{p:List Ev}{s:Sc}(h:Kp p s):∀ c,0≤c→c≤3→s.op c<s.ops.length:=by
 intro c a b
 by_cases h0:0≤s.op c
 ·obtain⟨o,h1,_⟩:=h.here c a b h0
  have:=(List.getElem?_eq_some_iff.1 h1).1
  omega
 ·omega
def ScI(l:List Ev)(bo:Key)(h:T ag)(nx:Key)(m:Nat)(tm':T AV)(h':T ag)(nx':Key):Prop:=∃ (i:Nat) (s:Sc),m=l.length-i∧i≤l.length∧At l s i bo nx tm' h' nx'∧Kp (l.take i).reverse s∧scan 0 sc0 l=scan i s (l.drop i)∧Ext h nx h' nx'
def azm(l:List Ev)(h:T ag)(nx:Key)(o:Out)(h':T ag)(nx':Key):Prop:=(∃ c,o=.ret (.tuple [c,I (iM (bk [] l))])∧Vp c (if bk [] l=0 then cU 0 l else []) h' nx' nx)∧Ext h nx h' nx'
variable{C:cD}{X:Kn}(S:Std C X)
include S
omit S in
theorem OC{l:List Ev}{s:Sc}{i:Nat}{x:Ev}{t:List Ev}{n:Nat}(hs:scan 0 sc0 l=scan i s (x ::t))(hb:ry s x=n+1):bk [] l=n+1:=by
 have h1:=aiw l
 have h2:scan i s (x ::t)=(n+1,[]):=by
  show(match ry s x with|0=>scan (i+1) (ju i s x) t|n=>(n,[]))=_
  rw[hb];rfl
 have:(⟨[],-1,-1,-1,-1⟩:Sc)=sc0:=rfl
 rw[this,hs,h2] at h1
 exact(congrArg Prod.fst h1).symm
omit S in
theorem auZ{l:List Ev}{s:Sc}{i:Nat}(hs:scan 0 sc0 l=scan i s []):bk [] l=0∧cU 0 l=s.ops:=by
 have h1:=aiw l
 have:(⟨[],-1,-1,-1,-1⟩:Sc)=sc0:=rfl
 have h2:scan i s []=(0,s.ops):=rfl
 rw[this,hs,h2] at h1
 have h3:=(congrArg Prod.fst h1).symm
 have h4:=(congrArg Prod.snd h1).symm
 simp only at h3 h4
 rw[if_pos h3] at h4
 exact⟨h3,h4⟩
theorem amO{l:List Ev}(hl:Few l){dn:T AV}{h h1:T ag}{nx bN bo:Key}{s:Sc}{i:Nat}{Q:dN}(hi:i<l.length)(A:At l s i bo nx dn h1 bN)(kp:Kp (l.take i).reverse s)(hs:scan 0 sc0 l=scan i s (l.drop i))(e1:Ext h nx h1 bN)
  (vn:∀ tm' h' nx',aa (K 2) tm'=some .nils→aa (K 3) tm'=some (I (iM (bk [] l)))→bk [] l≠0→Ext h nx h' nx'→Q .ret tm' h' nx')
  (ajq:∀ tm' h' nx' m,m<l.length-i→ScI l bo h nx m tm' h' nx'→Q .norm tm' h' nx') :
  eP C jE Q dn h1 bN:=by
 have aqs:=hl.len
 have rf:C.raw ik=false:=S.nr (by decide)
 have s1:=kTSu bN
 have A':=A
 obtain⟨g8,g35,g36,g37,⟨c7,g7,gro⟩,go,bo0,bo1⟩:=A'
 have hii:(i:Int)<l.length:=by omega
 have hlen:=fe.rows l
 have h8:8≤l.length*8-i*8:=by omega
 have ec:=fe.at hi
 have HE:=hl.args _ (Dn hi)
 have hx2:=hl.cl _ (Dn hi)
 have hz:∀ H,aO 9999 (.agg (eE l[i])) H=(.agg (eE l[i]),H):=fun H=>by
  have:=dj (n:=9998) (l:=eE l[i]) (h:=H) (fe.D3 _)
  simp only[Rn];rw[this]
 have he:List.take 8 (eE l[i])=eE l[i]:=rfl
 have hl8:(eE l[i]).length=8:=rfl
 have KP:(eE l[i]).all AV.aN=true:=vV.2 (fe.cell _)
 rw[zqt hi] at hs
 have Ny:(l.take (i+1)).reverse=l[i] ::(l.take i).reverse:=by rw[zqu hi];simp
 have rK:(l.take i).reverse.length=i:=by simp;omega
 generalize l[i]=x at *
 simp[jE]
 simp[lz,g36,g37,hii]
 simp[y8,g35,g37,hi,hlen,h8,ec,he,hl8,KP]
 simp[y9,rf,he,hl8,hz]
 have KY:=e1.trans (E0 h1 bN (.cells (eE x) .fix))
 refine(ako S x HE _ _).mono ?_
 rintro o h2 aH ⟨rfl,e2⟩
 have e12:=KY.trans e2
 have gb2:aa bN h2=some (.cells (eE x) .fix):=by rw[e2.g bN (by omega)];simp
 have go2:aa bo h2=some (.cells (DG s) .fix):=by rw[e2.g bo (by omega),ax bo1];exact go
 have atb:Vp c7 s.ops h2 aH nx:=(gro.ext (E0 h1 bN (.cells (eE x) .fix))).ext e2
 have n2:=e2.n
 simp
 cases mD:pt x with
 |false=>
  simp[qy]
  simp[za]
  have hv:=OC hs (n:=0) (by unfold ry;rw[mD];rfl)
  refine vn _ _ _ ?_ ?_ (by omega) e12
  ·simp
  ·simp[hv,iM]
 |true=>
  simp[qy]
  obtain⟨c,hc⟩:=Int.eq_ofNat_of_zero_le hx2.1
  have hc4:c<4:=by omega
  have Mq:c≤3:=by omega
  have hg:=LY s hc4
  have ol:=HC s
  simp[zb,g8,gb2,eE,hc,hc4,Mq,go2,hg,ol]
  simp[zc,gb2,eE]
  have rq:x.kind=0∨x.kind=1∨x.kind=2:=by
   unfold pt at mD;rw[decide_eq_true_eq] at mD;omega
  have bU:bo≠bN:=by rintro rfl;omega
  have sol:s.ops.length≤1000:=by
   have:=qW (l.take i) 0
   have h3:=kp.ops
   rw[List.reverse_reverse] at h3
   rw[h3];simp at this;omega
  have hcx:x.client=(c:Int):=hc
  have fin:∀ (JL:T AV) (h3:T ag) (bF:Key),ry s x=0→At l (ju i s x) i bo nx JL h3 bF→(∀ b:Key,b.toNat<nx.toNat→aa b h3=aa b h2)→aH.toNat≤bF.toNat→
    (al 3 (av (eP C (.ops fJ) Q) Q)) .norm JL h3 bF:=by
   intro JL h3 bF hb A3 low n3
   obtain⟨a8,a35,a36,a37,⟨d7,a7,aCb⟩,ao,ab0,ab1⟩:=A3
   simp
   simp[fJ,a37]
   rw[aq (by omega) (by omega)]
   refine ajq _ _ _ (l.length-(i+1)) (by omega) ⟨i+1,ju i s x,rfl,by omega,⟨by simp[a8],by simp[a35],by simp[a36],by simp,⟨d7,by simp[a7],aCb⟩,ao,ab0,ab1⟩,?_,?_,?_⟩
   ·have:=apW kp mD hb
    rw[rK] at this
    rw[Ny];exact this
   ·rw[hs]
    show(match ry s x with|0=>scan (i+1) (ju i s x) _|n=>(n,[]))=_
    rw[hb];rfl
   ·exact⟨by have:=e12.n;omega,fun b hb=>by rw[low b hb];exact e12.g b hb⟩
  have hg2:∀ hh,(DG s)[c]'hh=I (s.op c):=fun hh=>by
   have:=Pe hh
   rw[hg] at this;exact(Option.some.inj this).symm
  simp only[hg2]
  have A2:∀ JL:T AV,(∀ k:Key,k=K 7∨k=K 8∨k=K 35∨k=K 36∨k=K 37→aa k JL=aa k dn)→At l s i bo nx JL h2 aH:=fun JL q=>
   ⟨(q (K 8) (by simp)).trans g8,(q (K 35) (by simp)).trans g35,(q (K 36) (by simp)).trans g36,(q (K 37) (by simp)).trans g37,⟨c7,(q (K 7) (by simp)).trans g7,atb⟩,go2,bo0,by omega⟩
  rcases rq with k0|k0|k0
  ·have key:=fun JL A g9 DQ Gg g52=>atw (C:=C) (Q:=al 3 (av (eP C (.ops fJ) Q) Q)) (tm:=JL) A mD k0 sol bU (by omega) g9 DQ gb2 Gg g52 (fun tm' hb e2 e3=>by
     simp
     have hv:=OC hs (n:=1) hb
     exact vn _ _ _ e2 (by rw[hv];exact e3) (by omega) e12) (fun tm' h' nx' hb A' low n=>fin tm' h' nx' hb A' low n)
   simp only[I2,jF,bp,bE] at key
   refine key _ (A2 _ ?_) ?_ ?_ ?_ ?_
   ·rintro k (rfl|rfl|rfl|rfl|rfl)<;>simp
   all_goals simp[hcx]
  ·have key:=fun JL A g9 DQ Gg g52=>aBp (C:=C) (Q:=al 3 (av (eP C (.ops fJ) Q) Q)) (tm:=JL) A mD k0 (kp.lt _ hx2.1 hx2.2) bU (by omega) g9 DQ gb2 Gg g52 (fun tm' hb e2 e3=>by
     simp
     have hv:=OC hs (n:=2) hb
     exact vn _ _ _ e2 (by rw[hv];exact e3) (by omega) e12) (fun tm' h' nx' hb A' low n=>fin tm' h' nx' hb A' low n)
   simp only[I2,jF,bp,bE] at key
   refine key _ (A2 _ ?_) ?_ ?_ ?_ ?_
   ·rintro k (rfl|rfl|rfl|rfl|rfl)<;>simp
   all_goals simp[hcx]
  ·have key:=fun JL A g9 g52=>as8 (C:=C) (Q:=al 3 (av (eP C (.ops fJ) Q) Q)) (tm:=JL) A mD k0 kp.lt sol g9 g52 (fun tm' h' nx' hb A' low n=>fin tm' h' nx' hb A' low n)
   simp only[I2,jF,bp,bE] at key
   refine key _ (A2 _ ?_) ?_ ?_
   ·rintro k (rfl|rfl|rfl|rfl|rfl)<;>simp
   all_goals simp
theorem avL{ev:AV}{l:List Ev}(hv:jN 8 eE ev l)(hl:Few l)(h:T ag)(nx:Key):aI C kg [ev] h nx (azm l h nx):=by
 have aqs:=hl.len
 have s1:=kTSu nx
 refine S.CV.call ?_
 simp[zR]
 simp[Bd]
 simp[Be]
 simp[Bf]
 have DH:∀ {c:AV} {h':T ag} {nx':Key} {s:Sc} {i:Nat},scan 0 sc0 l=scan i s []→Vp c s.ops h' nx' nx→Ext h nx h' nx'→azm l h nx (.ret (.tuple [c,I 0])) h' nx':=by
  intro c h' nx' s i hs g e
  obtain⟨h1,h2⟩:=auZ hs
  refine⟨⟨c,by rw[h1];rfl,?_⟩,e⟩
  rw[if_pos h1,h2];exact g
 rcases hv with⟨rfl,rfl⟩|rfl
 ·simp
  refine W.E8 (W.of ?_)
  simp[sK]
  simp[sM]
  simp[sN]
  simp[qz]
  simp[qA]
  simp[qB]
  refine W.E8 (W.of ?_)
  simp[jE]
  simp[lz]
  simp[qC]
  exact DH (s:=sc0) (i:=0) rfl (.inl ⟨rfl,rfl⟩) (E0 h nx _)
 ·simp
  refine W.dQ (n:=l.length) (fun m tm' h' nx'=>∃ j b:Nat,m=l.length-j∧j≤l.length∧b≤j∧aa (K 0) tm'=some (.sl (aj eE l) l.length 8 .any)∧aa (K 15) tm'=some (.sl (aj eE l) l.length 8 .any)∧aa (K 16) tm'=some (I l.length)∧aa (K 17) tm'=some (I j)∧aa (K 4) tm'=some (I b)∧Ext h nx h' nx') ?_ ?_
  ·exact⟨0,0,by simp,by omega,by omega,by simp,by simp,by simp,by simp,by simp,Ext.refl _ _⟩
  ·rintro m dn h1 bN ⟨j,b,rfl,hj,hb,g0,g15,g16,g17,g4,e1⟩
   have s11:=kTSu bN
   refine W.of ?_
   simp[sK]
   simp[sM,g16,g17]
   refine⟨fun bO=>?_,fun QJ=>?_⟩
   ·have bz:j<l.length:=by omega
    have hlen:=fe.rows l
    have h8:8≤l.length*8-j*8:=by omega
    have ec:=fe.at bz
    have KP:(eE l[j]).all AV.aN=true:=vV.2 (fe.cell _)
    have he:List.take 8 (eE l[j])=eE l[j]:=rfl
    have hl8:(eE l[j]).length=8:=rfl
    have hk0:(eE l[j])[0]?=some (I l[j].kind):=rfl
    have e2:=e1.trans (E0 h1 bN (.cells (eE l[j]) .fix))
    simp[Bg,g15,g17,bz,hlen,h8,ec,he,hl8,KP]
    by_cases k0:l[j].kind=0
    ·simp[sO,hl8,k0,eE]
     simp[Bh,g4]
     simp[sP,g17]
     rw[aq (by omega) (by omega),aq (by omega) (by omega)]
     exact⟨l.length-(j+1),by omega,j+1,rfl,by omega,b+1,by omega,g0,g15,g16,by omega,by omega,by simpa[eE,k0] using e2⟩
    ·simp[sO,hl8,bq k0,eE]
     simp[sP,g17]
     rw[aq (by omega) (by omega)]
     exact⟨l.length-(j+1),by omega,j+1,rfl,by omega,b,by omega,g0,g15,g16,by omega,g4,by simpa[eE] using e2⟩
   ·have aBX:¬ (64:Int)<l.length:=by omega
    have aBY:¬ (16:Int)<b:=by omega
    simp[sN,g0,g4,aBX,aBY]
    simp[qz]
    simp[qA]
    simp[qB,g0]
    have n1:=e1.n
    refine W.dQ (n:=l.length) (ScI l bN h nx) ?_ ?_
    ·refine⟨0,sc0,by simp,by omega,⟨by simp,by simp,by simp,by simp,⟨.nils,by simp,.inl ⟨rfl,rfl⟩⟩,by simp[DG,sc0],by omega,by omega⟩,kp0,rfl,e1.trans (E0 h1 bN _)⟩
    ·rintro m ay h2 aH ⟨i,s,rfl,hi,A,kp,hs,e2⟩
     by_cases Pj:i<l.length
     ·refine W.of (amO S hl Pj A kp hs e2 ?_ ?_)
      ·intro tm' h' nx' q2 q3 hv e'
       simp[q2,q3]
       exact⟨⟨.nils,rfl,.inl ⟨rfl,by rw[if_neg hv]⟩⟩,e'⟩
      ·intro tm' h' nx' m hm hI
       simp
       exact⟨m,hm,hI⟩
     ·have K5:i=l.length:=by omega
      subst K5
      obtain⟨a8,a35,a36,a37,⟨d7,a7,aCb⟩,ao,ab0,ab1⟩:=A
      refine W.of ?_
      simp[jE]
      simp[lz,a36,a37]
      simp[qC,a7]
      rw[List.drop_length] at hs
      exact DH hs aCb e2
end Ln
/-
 LN: copies of arguments. No condition.
-/
namespace Ln
open Go.Sx Go
variable{C:cD}{X:Kn}(S:Std C X)
include S
def ClI(l:List U)(b:Key)(h:T ag)(nx:Key)(m:Nat)(tm':T AV)(h':T ag)(nx':Key):Prop:=∃ (j:Nat) (ls:List U),m=l.length-j∧j≤l.length∧ls.length=l.length∧ls.take j=l.take j∧
 aa (K 0) tm'=some (.sl (aj eU l) l.length 4 .any)∧aa (K 1) tm'=some (.fn gS [] [])∧aa (K 5) tm'=some (.slice b 0 l.length 4)∧aa (K 14) tm'=some (I l.length)∧aa (K 15) tm'=some (I j)∧aa b h'=some (.cells (aj eU ls) .fix)∧(∀ k:Key,k.toNat<b.toNat→aa k h'=aa k h)∧nx'=nx
theorem aqP(l:List U)(hl:l.length≤1000):RY C fS [aC l,.fn gS [] []] (·=.ret (aC l)):=by
 intro h nx
 have s1:=kTSu nx
 have rc:C.raw gS=false:=S.nr (by decide)
 refine S.uW.call ?_
 simp[pU]
 simp[tp]
 have cG:aC l=.nils∧l=[]∨aC l=.sl (aj eU l) l.length 4 .any∧l≠[]:=by
  cases l with
  |nil=>exact .inl ⟨rfl,rfl⟩
  |cons a t=>exact .inr ⟨rfl,by simp⟩
 rcases cG with⟨e,rfl⟩|⟨e,bU⟩
 ·simp[lY,e]
  simp[tq]
  exact Ext.refl _ _
 ·have h0:l.length≠0:=by simpa using bU
  have JE:((l.length:Int)==0)=false:=bq (by omega)
  have hm:l.length≤1048576:=by omega
  simp[lY,e,JE,h0]
  have hz:(List.replicate l.length [I 0,I 0,.str 0 0,.nils]).flatten=aj eU (List.replicate l.length ⟨0,0⟩):=by
   unfold aj
   rw[List.flatMap_def,List.map_replicate];rfl
  simp[tr,hm,hz]
  simp[tu]
  refine W.dQ (n:=l.length) (ClI l nx h nx.succ) ?_ ?_
  ·exact⟨0,List.replicate l.length ⟨0,0⟩,by simp,by omega,by simp,by simp,by simp,by simp,by simp,by simp,by simp,by simp,fun k hk=>ax hk,rfl⟩
  ·rintro m dn h1 bN ⟨j,ls,rfl,hj,hls,Ny,g0,g1,g5,E9,g15,gb,aqJ,rfl⟩
   refine W.of ?_
   simp[tv]
   simp[tw,E9,g15]
   refine⟨fun bO=>?_,fun QJ=>?_⟩
   ·have bz:j<l.length:=by omega
    have hr:=An.rows l
    have Pk:=An.rows ls
    have h4:4≤l.length*4-j*4:=by omega
    have ec:=An.at bz
    have he:List.take 4 (eU l[j])=eU l[j]:=rfl
    have hl4:(eU l[j]).length=4:=rfl
    have hz:∀ H,aO 9999 (.agg (eU l[j])) H=(.agg (eU l[j]),H):=fun H=>by simp[eU]
    have hjs:j<ls.length:=by omega
    have hp:=An.put hjs l[j]
    have h44:j*4+4≤l.length*4:=by omega
    simp[tz,g15]
    simp[tA,g0,g1,g5,bz,hr,h4,ec,he,hl4,rc,hz]
    refine aI.known (v:=.agg (eU l[j])) (S.RZ ⟨l[j].k,l[j].n,[]⟩ (by simp) _ _) ?_
    simp[g0,g1,g5,bz,gb,Pk,hls,h44,hl4,hp]
    simp[tB,g15]
    rw[aq (by omega) (by omega)]
    refine⟨l.length-(j+1),by omega,j+1,ls.set j l[j],rfl,by omega,by simpa using hls,?_,by simp[g0],by simp[g1],by simp[g5],by simp[E9],by simp,by simp,fun k hk=>?_,rfl⟩
    ·have q:(ls.set j l[j]).take j=ls.take j:=by rw[List.take_set];exact List.set_eq_of_length_le (by simp;omega)
     rw[zqu bz,zqu (by simpa using hjs),q,Ny,List.getElem_set_self]
    ·rw[ax hk];exact aqJ k hk
   ·have bz:j=l.length:=by omega
    subst bz
    rw[List.take_length,Pu (by omega)] at Ny
    subst Ny
    simp[tC,g5]
    have hf:=Dx (n:=9998) gb (An.rows ls) (An.Gp ls)
    simp only[hf]
    refine⟨trivial,?_⟩
    exact⟨by omega,fun k hk=>by rw[ax hk];exact aqJ k hk⟩
theorem aqf(l:List U)(hl:l.length≤1000):RY C kh [aC l] (·=.ret (aC l)):=by
 intro h nx
 have rc:C.raw fS=false:=S.nr (by decide)
 have hf:∀ n H,aO n (aC l) H=(aC l,H):=dp l
 refine S.CA.call ?_
 simp[zI]
 simp[As]
 simp[Au,rc,hf]
 refine(aqP S l hl _ _).mono ?_
 rintro o h1 bN ⟨rfl,e1⟩
 simp[hf]
 exact e1
end Ln
/-
 LN: the calls of a history: the program. No condition.
-/
namespace Ln
open Go.Sx Go
variable{C:cD}{X:Kn}(S:Std C X)
omit S in
theorem JD:∀ (l:List Ev) (o:Op) (i:Nat),(follow o i l).args=o.args
 | [],o,i=>rfl
 |x ::l,o,i=>by
  show(follow (mz i x o) (i+1) l).args=_
  rw[JD l]
  unfold mz;(repeat' split)<;>rfl
theorem QG{n:Nat}:∀ {l:List Ev} {i:Nat},(∀ x∈l,x.args.length≤n)→∀ o∈cU i l,o.args.length≤n
 | [],i,_,o,ho=>by simp[cU] at ho
 |x ::l,i,h,o,ho=>by
  simp only[cU,List.mem_append] at ho
  rcases ho with ho|ho
  ·split at ho
   ·simp at ho;subst ho
    rw[JD];exact h x (by simp)
   ·simp at ho
  ·exact QG (fun x hx=>h x (by simp[hx])) o ho
def OpI(os:List Op)(code:Int)(b n0:Key)(h:T ag)(nx:Key)(m:Nat)(tm':T AV)(h':T ag)(nx':Key):Prop:=∃ j:Nat,m=os.length-j∧j≤os.length∧aa (K 4) tm'=some (.slice b 0 os.length 10)∧aa (K 5) tm'=some (I code)∧aa (K 13) tm'=some (I os.length)∧aa (K 14) tm'=some (I j)∧
 aa b h'=some (.cells (aj eO os) .part)∧b.toNat<nx'.toNat∧Ext h nx h' nx'
include S
theorem avJ{ev:AV}{l:List Ev}(hv:jN 8 eE ev l)(hl:Few l):RY C l7 [ev] (avK l):=by
 intro h nx
 have s1:=kTSu nx
 have rs:C.raw kg=false:=S.nr (by decide)
 have rc:C.raw kh=false:=S.nr (by decide)
 have rv:C.raw gS=false:=S.nr (by decide)
 have hz:aO 9999 ev h=(ev,h):=hv.D3 _ _
 refine S.D4.call ?_
 simp[BM]
 simp[BN]
 simp[BO,rs,hz]
 refine(avL S hv hl _ _).mono ?_
 rintro o h1 bN ⟨⟨c,rfl,gro⟩,e1⟩
 have cG:∀ o∈(if bk [] l=0 then cU 0 l else []),o.args.length≤1000:=by
  intro o ho
  split at ho
  ·exact QG hl.args o ho
  ·simp at ho
 simp
 unfold avK
 have rW:(if bk [] l=0 then cU 0 l else []).length≤16:=by
  split
  ·have:=qW l 0;have:=hl.len;omega
  ·simp
 generalize (if bk [] l=0 then cU 0 l else [])=os at *
 generalize iM (bk [] l)=code at *
 rcases gro with⟨rfl,rfl⟩|⟨b,rfl,hb,JE,Iq⟩
 ·simp[ui]
  refine W.E8 (W.of ?_)
  simp[uj]
  simp[uk]
  simp[um]
  exact⟨.inl ⟨rfl,rfl⟩,e1⟩
 ·simp[ui]
  refine W.dQ (n:=os.length) (OpI os code b nx h1 bN) ?_ ?_
  ·exact⟨0,by simp,by omega,by simp,by simp,by simp,by simp,hb,Iq,Ext.refl _ _⟩
  ·rintro m dn h2 aH ⟨j,rfl,hj,g4,g5,g13,E9,gb,aHD,e2⟩
   refine W.of ?_
   simp[uj]
   simp[uk,g13,E9]
   refine⟨fun bO=>?_,fun QJ=>?_⟩
   ·have bz:j<os.length:=by omega
    have hr:=ep.rows os
    have ec:=ep.at bz
    have hax:=cG _ (Dn bz)
    have ha:((aj eO os))[j*10+5]?=some (aC os[j].args):=by
     have:=congrArg (fun l=>l[5]?) ec
     rw[List.getElem?_take,List.getElem?_drop] at this
     simpa[eO] using this
    have ha2:∀ hh,(aj eO os)[j*10+5]'hh=aC os[j].args:=fun hh=>by
     have q:=Pe hh
     rw[ha] at q;exact(Option.some.inj q).symm
    have KH:List.take 4 (List.drop (j*10+6) (aj eO os))=eU os[j].res:=by
     have:=congrArg (fun l=>List.take 4 (List.drop 6 l)) ec
     simp only[List.drop_take,List.drop_drop,List.take_take] at this
     simpa[eO,eU] using this
    have hz1:∀ n H,aO n (aC os[j].args) H=(aC os[j].args,H):=dp _
    have hz2:∀ H,aO 9999 (.agg (eU os[j].res)) H=(.agg (eU os[j].res),H):=fun H=>by simp[eU]
    have p1:=ep.BP (l:=os) (j:=j) (off:=5) (vs:=[aC os[j].args]) (y:=os[j]) bz (by simp) rfl
    have p2:=ep.BP (l:=os) (j:=j) (off:=6) (vs:=eU os[j].res) (y:=os[j]) bz (by simp[eU]) rfl
    have ajU:os.set j os[j]=os:=List.set_getElem_self bz
    rw[ajU] at p1 p2
    simp[eU] at p1 p2
    have Ae:j*10+5<os.length*10:=by omega
    have QL:j*10+5+1≤os.length*10:=by omega
    have QM:j*10+6+4≤os.length*10:=by omega
    have h4':4≤os.length*10-(j*10+6):=by omega
    have ac:=aZ os[j].args
    simp[BQ,E9]
    simp[BR,g4,bz,gb,hr,ha2,Ae,rc,hz1]
    refine(aqf S _ hax _ _).mono ?_
    rintro o h3 bF ⟨rfl,e3⟩
    have gb3:aa b h3=some (.cells (aj eO os) .part):=by rw[e3.g b aHD];exact gb
    simp[g4,bz,gb3,hr,QL,ac.1,ac.2,p1]
    simp[BS,g4,bz,gb3,hr,KH,h4',rv,hz2]
    refine aI.known (v:=.agg (eU os[j].res)) (S.RZ ⟨os[j].res.k,os[j].res.n,[]⟩ (by simp) _ _) ?_
    simp[g4,bz,gb3,hr,QM,eU,p2]
    simp[BT,E9]
    rw[aq (by omega) (by omega)]
    have n3:=e3.n
    have n2:=e2.n
    refine⟨os.length-(j+1),by omega,j+1,rfl,by omega,by simp[g4],by simp[g5],by simp[g13],by simp,by simp,by omega,?_⟩
    refine⟨by omega,fun k hk=>?_⟩
    by_cases hkb:k=b
    ·subst hkb;simp[hb]
    ·rw[bG _ _ _ _ hkb,e3.g k (by omega)];exact e2.g k hk
   ·simp[um,g4,g5]
    have hf:=Gn (n:=9998) gb (ep.rows os) (ep.Gp os)
    simp only[hf]
    refine⟨.inr rfl,?_⟩
    have e12:=e1.trans e2
    exact⟨e12.n,fun k hk=>by rw[ax (by omega)];exact e12.g k hk⟩
end Ln
/-
 LN: calls one before another; orders as rows. No condition.
-/
namespace Ln
open Go.Sx Go
def eI(n:Int):List AV:=[I n]
theorem ans:Flat 1 eI where
 len _:=rfl
 D3 x y hy:=by simp[eI] at hy;subst hy;exact dS _ _
 cell x y hy:=by simp[eI] at hy;subst hy;rfl
 lits x:=by simp[eI,AV.gf,AV.lits,I]
theorem uJ(l:List Int):(aj eI l).length=l.length:=by rw[ans.rows];omega
theorem ajx:∀ l:List Int,aj eI l=l.map I
 | []=>rfl
 |a ::t=>by rw[cY,ajx t];rfl
theorem Vi{l:List Int}{i:Nat}(hi:i<l.length):(aj eI l)[i]?=some (I l[i]):=by
 rw[ajx];simp[hi]
@[simp] theorem aDC{l:List Int}{i:Nat}(hh:i<(aj eI l).length):(aj eI l)[i]=I (l[i]'(by rw[uJ] at hh;exact hh)):=by
 have h1:i<l.length:=by rw[uJ] at hh;exact hh
 have:=Pe hh
 rw[Vi h1] at this
 exact(Option.some.inj this).symm
theorem Ra{l:List Int}{i:Nat}(hi:i<l.length):List.take 1 (List.drop i (aj eI l))=[I l[i]]:=by
 have:=ans.at hi;rw[Nat.mul_one] at this;exact this
def Ord(c:AV)(l:List Int)(n:Nat)(h:T ag)(nx:Key):Prop:=n≤l.length∧((c=.nils∧n=0)∨(∃ f,c=.sl (aj eI (l.take n)) n 1 f)∨∃ (b:Key) (k:CK),c=.slice b 0 n 1∧aa b h=some (.cells (aj eI l) k)∧b.toNat<nx.toNat)
theorem Ord.ext{c:AV}{l:List Int}{n:Nat}{h h':T ag}{nx nx':Key}(o:Ord c l n h nx)(e:Ext h nx h' nx'):Ord c l n h' nx':=by
 obtain⟨h0,o⟩:=o
 refine⟨h0,?_⟩
 rcases o with o|o|⟨b,k,h1,h2,h3⟩
 ·exact .inl o
 ·exact .inr (.inl o)
 ·exact .inr (.inr ⟨b,k,h1,by rw[e.g b h3];exact h2,by have:=e.n;omega⟩)
variable{C:cD}{X:Kn}(S:Std C X)
include S
theorem OD(a b:Op):RY C ir [.agg (eO a),.agg (eO b)] (·=.ret (.bool (before a b))):=by
 intro h nx
 have s1:=kTSu nx
 have s2:=kTSu nx.succ
 have ac1:=aZ a.args
 have ac2:=aZ b.args
 refine S.CY.call ?_
 simp[zY]
 simp[Bz,eO,ac1.1,ac2.1]
 have e1:=(E0 h nx (.cells (eO a) .fix)).trans (E0 _ nx.succ (.cells (eO b) .fix))
 simp[eO] at e1
 have uq:before a b=(decide (0≤a.e)&&decide (a.e<b.b)||decide (0≤a.lost)&&decide (a.lost<b.b)):=by
  unfold before;rw[Bool.eq_iff_iff];simp
 by_cases h1:a.e<0
 ·by_cases h2:a.lost<0
  ·simp[ei,h1,h2]
   exact⟨by rw[uq];simp;omega,e1⟩
  ·by_cases h3:a.lost<b.b
   ·simp[ei,h1,h2,h3]
    exact⟨by rw[uq];simp;omega,e1⟩
   ·simp[ei,h1,h2,h3]
    exact⟨by rw[uq];simp;omega,e1⟩
 ·by_cases h4:a.e<b.b
  ·simp[ei,h1,h4]
   exact⟨by rw[uq];simp;omega,e1⟩
  ·by_cases h2:a.lost<0
   ·simp[ei,h1,h4,h2]
    exact⟨by rw[uq];simp;omega,e1⟩
   ·by_cases h3:a.lost<b.b
    ·simp[ei,h1,h4,h2,h3]
     exact⟨by rw[uq];simp;omega,e1⟩
    ·simp[ei,h1,h4,h2,h3]
     exact⟨by rw[uq];simp;omega,e1⟩
theorem Oe(a b:Op):RY C fD [.agg (eO a),.agg (eO b)] (·=.ret (.bool (before a b))):=by
 intro h nx
 have s1:=kTSu nx
 have s2:=kTSu nx.succ
 have ac1:=aZ a.args
 have ac2:=aZ b.args
 refine S.yB.call ?_
 simp[u5]
 simp[wO,eO,ac1.1,ac2.1]
 have e1:=(E0 h nx (.cells (eO a) .fix)).trans (E0 _ nx.succ (.cells (eO b) .fix))
 simp[eO] at e1
 have uq:before a b=(decide (0≤a.e)&&decide (a.e<b.b)||decide (0≤a.lost)&&decide (a.lost<b.b)):=by
  unfold before;rw[Bool.eq_iff_iff];simp
 by_cases h1:a.e<0
 ·by_cases h2:a.lost<0
  ·simp[di,h1,h2]
   exact⟨by rw[uq];simp;omega,e1⟩
  ·by_cases h3:a.lost<b.b
   ·simp[di,h1,h2,h3]
    exact⟨by rw[uq];simp;omega,e1⟩
   ·simp[di,h1,h2,h3]
    exact⟨by rw[uq];simp;omega,e1⟩
 ·by_cases h4:a.e<b.b
  ·simp[di,h1,h4]
   exact⟨by rw[uq];simp;omega,e1⟩
  ·by_cases h2:a.lost<0
   ·simp[di,h1,h4,h2]
    exact⟨by rw[uq];simp;omega,e1⟩
   ·by_cases h3:a.lost<b.b
    ·simp[di,h1,h4,h2,h3]
     exact⟨by rw[uq];simp;omega,e1⟩
    ·simp[di,h1,h4,h2,h3]
     exact⟨by rw[uq];simp;omega,e1⟩
end Ln
/-
 LN: orders that real time allows: the program, the pairs. No condition.
-/
namespace Ln
open Go.Sx Go
variable{C:cD}{X:Kn}(S:Std C X)
include S
end Ln
/-
 LN: orders that real time allows: the program, all pairs. No condition.
-/
namespace Ln
open Go.Sx Go
variable{C:cD}{X:Kn}(S:Std C X)
include S
end Ln
/-
 LN: orders that real time allows: the program, all of it. No condition.
-/
namespace Ln
open Go.Sx Go
variable{C:cD}{X:Kn}(S:Std C X)
include S
end Ln
/-
 LN: orders that real time allows: the program. No condition.
-/
namespace Ln
open Go.Sx Go
variable{C:cD}{X:Kn}(S:Std C X)
include S
end Ln
/-
 LN: orders that real time allows: the reference. No condition.
-/
namespace Ln
open Go.Sx Go
theorem Ord.cases{c:AV}{l:List Int}{h:T ag}{nx:Key}(o:Ord c l l.length h nx):(c=.nils∧l=[])∨(∃ f,c=.sl (aj eI l) l.length 1 f)∨∃ (b:Key) (k:CK),c=.slice b 0 l.length 1∧aa b h=some (.cells (aj eI l) k)∧b.toNat<nx.toNat:=by
 obtain⟨_,oc⟩:=o
 rcases oc with⟨e,h0⟩|⟨f,e⟩|e
 ·exact .inl ⟨e,zqr h0⟩
 ·rw[List.take_length] at e;exact .inr (.inl ⟨f,e⟩)
 ·exact .inr (.inr e)
variable{C:cD}{X:Kn}(S:Std C X)
include S
end Ln
/-
 LN: orders that real time allows: the reference, pairs. No condition.
-/
namespace Ln
open Go.Sx Go
theorem anB(z:Op)(H:T ag):bY (aO 9998) (eO z) H=(eO z,H):=dj (ep.D3 _)
theorem Kc(z:Op):List.take 10 (eO z)=eO z:=rfl
theorem S8(z:Op):(eO z).length=10:=rfl
variable{C:cD}{X:Kn}(S:Std C X)
include S
end Ln
/-
 LN: orders that real time allows: the reference, the calls that ended. No condition.
-/
namespace Ln
open Go.Sx Go
variable{C:cD}{X:Kn}(S:Std C X)
include S
end Ln
/-
 LN: orders that real time allows: the reference, all of it. No condition.
-/
namespace Ln
open Go.Sx Go
variable{C:cD}{X:Kn}(S:Std C X)
include S
end Ln
/-
 LN: the commands of a model. No condition.
-/
namespace Ln
open Go.Sx Go
def AL(i:Nat)(name:Nat×Nat):Int:=match (az i).findIdx? fun c=>c.name==name with
 |some t=>t
 |none=>-1
theorem Rs(i:Nat):(az i).length≤3:=by unfold az;split<;>simp
theorem anZ{i:Nat}{name:Nat×Nat}(h:∀ (t:Nat) (ht:t<(az i).length),(az i)[t].name≠name):AL i name=-1∧kD i name=none:=by
 have h1:(az i).findIdx? (fun c=>c.name==name)=none:=by
  rw[List.findIdx?_eq_none_iff]
  intro c hc
  obtain⟨t,ht,rfl⟩:=List.getElem_of_mem hc
  simpa using h t ht
 have h2:(az i).find? (fun c=>c.name==name)=none:=by
  rw[List.find?_eq_none]
  intro c hc
  obtain⟨t,ht,rfl⟩:=List.getElem_of_mem hc
  simpa using h t ht
 exact⟨by unfold AL;rw[h1],h2⟩
theorem anY{i t:Nat}{name:Nat×Nat}(ht:t<(az i).length)(h:∀ (s:Nat) (hs:s<(az i).length),s<t→(az i)[s].name≠name)(he:(az i)[t].name=name):AL i name=t∧kD i name=some (az i)[t]:=by
 have h1:(az i).findIdx? (fun c=>c.name==name)=some t:=by
  rw[List.findIdx?_eq_some_iff_getElem]
  exact⟨ht,by simpa using he,fun s hs=>by simpa using h s (by omega) hs⟩
 have h2:(az i).find? (fun c=>c.name==name)=some (az i)[t]:=by
  rw[List.find?_eq_some_iff_getElem]
  refine⟨by simpa using he,t,ht,rfl,fun s hs=>?_⟩
  simpa using h s (by omega) hs
 exact⟨by unfold AL;rw[h1],h2⟩
def jR(i:Nat):List Op→Int
 | []=>0
 |o ::l=>match kD i o.name with
  |none=>6
  |some c=>if o.args.length=c.ar then jR i l else 1
theorem Tz{i:Nat}:∀ {l:List Op},jR i l=0→∀ o∈l,∃ c,kD i o.name=some c∧o.args.length=c.ar
 | [],_,o,ho=>by simp at ho
 |x ::l,h,o,ho=>by
  unfold jR at h
  cases hc:kD i x.name with
  |none=>rw[hc] at h;simp at h
  |some c=>
   rw[hc] at h
   simp only at h
   by_cases ha:x.args.length=c.ar
   ·rw[if_pos ha] at h
    rcases Ga.1 ho with rfl|ho
    ·exact⟨c,hc,ha⟩
    ·exact Tz h o ho
   ·rw[if_neg ha] at h;simp at h
variable{C:cD}{X:Kn}(S:Std C X)
include S
theorem L1{i t:Nat}(ht:t<(az i).length):List.take 23 (List.drop (t*23) (aj (X.cmd i) (List.range (az i).length)))=X.cmd i t:=by
 have:=(S.ok.P2 i).at (l:=List.range (az i).length) (i:=t) (by simpa using ht)
 simpa using this
theorem L2{i:Nat}:(aj (X.cmd i) (List.range (az i).length)).length=(az i).length*23:=by
 have:=(S.ok.P2 i).rows (List.range (az i).length)
 simpa using this
theorem aFi{i t:Nat}(hi:i<3)(ht:t<(az i).length)(o:Op){h:T ag}{nx b:Key}{k:CK}(hb:aa b h=some (.cells (eO o) k))(Iq:b.toNat<nx.toNat):aI C dZ [.agg (X.cmd i t),.ptr b 0] h nx (fun out h' nx'=>out=.ret (.bool (decide ((az i)[t].name=o.name)))∧Ext h nx h' nx'):=by
 have s1:=kTSu nx
 have h0:=S.ok.aES i hi t _ (Pe ht)
 have hl:=(S.ok.P2 i).len t
 have hc:(X.cmd i t).all AV.aN=true:=vV.2 ((S.ok.P2 i).cell t)
 have Ch:aa b (au nx (some (.cells (X.cmd i t) .fix)) h)=some (.cells (eO o) k):=by rw[ax Iq];exact hb
 refine S.wA.call ?_
 simp[sx]
 simp[u9,hc]
 generalize (az i)[t]=c at *
 rcases hn:c.name with⟨n1,n2⟩
 rcases hm:o.name with⟨m1,m2⟩
 rw[hn] at h0
 have h0':∀ hh,(X.cmd i t)[0]'hh=.str n1 n2:=fun hh=>by
  have q:=Pe hh
  rw[h0] at q;exact(Option.some.inj q).symm
 simp[vd,h0',hl,Ch,eO,hm]
 exact E0 h nx _
end Ln
