/- A part of the proof. No condition. -/
import Derived.Test.YtecbfpngkfdkoaaGreatP10
import Derived.Test.YtecbfpngkfdkoaaGreatP12
import Derived.Test.YtecbfpngkfdkoaaGreatP11
import Derived.Test.YtecbfpngkfdkoaaGreatP18
import Derived.Test.YtecbfpngkfdkoaaGreatP35
import Derived.Test.YtecbfpngkfdkoaaGreatP8
set_option linter.unusedSimpArgs false
set_option linter.unusedVariables false
set_option linter.unusedSectionVars false
namespace Ln
open Go.Sx Go
structure FnR(C:dm)(f:Nat)(p:fO):Prop where
 get:DS C f=some p
 off:∀ l h nx,C.sum f l h nx=none
 mN:C.mN f=true
def VD(f:Nat):Bool:=Nat.beq f 30||Nat.beq f 31||Nat.beq f 82||Nat.beq f 84||Nat.beq f 153||Nat.beq f 152||Nat.beq f 75||Nat.beq f 67
structure Std(C:dm)(X:Kn):Prop where
 orc:C.orc=[]
 raw:∀ f,C.raw f=VD f
 ok:X.Ok
 uw:Fn C ft oU
 B6:Fn C jC yR
 xS:Fn C gV uC
 xT:Fn C gW uD
 Dm:Fn C kY Bi
 xb:Fn C gQ tZ
 Cn:FnR C jA y7
 sU:Fn C kT nd
 Co:Fn C fm y8
 B9:Fn C cJ yU
 GP:Fn C de EU
 Cp:Fn C fo y9
 Cq:Fn C jR za
 vR:Fn C dI rq
 nY:Fn C dR kR
 B7:Fn C cM yS
 JD:Fn C jF Ip
 z4:Fn C iQ wE
 Ha:Fn C nf EY
 Cr:Fn C cZ zc
 Dv:Fn C lf Bw
 Bz:Fn C jE yE
 GZ:Fn C ng EZ
 I0:Fn C qp HR
 D5:Fn C lp Cj
 Hb:Fn C nh E1
 Cs:Fn C jS zd
 DR:Fn C gz BS
 GC:Fn C mV EI
 z5:Fn C en lA
 Ct:Fn C jT ze
 z6:Fn C iR wF
 Nn:Fn C iA Nk
 B8:Fn C jQ yT
 Hc:Fn C mU E3
 D6:Fn C gy Ck
 vS:Fn C fY ru
 Cu:Fn C fp zf
 zH:Fn C iL wz
 Ch:Fn C dG y0
 z7:FnR C ep wG
 zC:Fn C iK wu
 JE:Fn C fT Iw
 Jn:Fn C jK HZ
 Hd:Fn C nj E5
 Ca:Fn C fj yV
 fu:Fn C bz dJ
 anA:∀ i,i<3→∀ h nx,C.sum zi [X.m,dE i,jG] h nx=some (.tuple [.agg (eS (bL i)),I 0],h,nx)
 asw:∀ c s aZZ,gM c.qm s→aZZ.length=c.ar→∀ h nx,C.sum B3 [X.m,dE c.qm,.str c.name.1 c.name.2,.agg (eS s),aB aZZ,jG] h nx=some (.tuple [.bool (X.LH c s aZZ),I (X.LI c s aZZ)],h,nx)
 UG:∀ c s aZZ r,gM c.qm s→aZZ.length=c.ar→∀ h nx,C.sum wA [X.m,dE c.qm,.str c.name.1 c.name.2,.agg (eS s),aB aZZ,.agg (eU r),jG] h nx=some (.tuple [.bool (X.oa c s aZZ r),I (X.od c s aZZ r)],h,nx)
 amJ:∀ c s aZZ r,gM c.qm s→aZZ.length=c.ar→∀ h nx,C.sum yQ [X.m,dE c.qm,.str c.name.1 c.name.2,.agg (eS s),aB aZZ,.agg (eU r),jG] h nx=some (.tuple [.agg (eS (X.ql c s aZZ r)),I (X.tO c s aZZ r)],h,nx)
 anB:∀ i,i<3→∀ h nx,C.sum zj [X.m,dE i,jG] h nx=some (.tuple [.agg (eS (bL i)),I 0],h,nx)
 as0:∀ c s aZZ,gM c.qm s→aZZ.length=c.ar→∀ h nx,C.sum Cg [X.m,dE c.qm,.str c.name.1 c.name.2,.agg (eS s),aB aZZ,jG] h nx=some (.tuple [.bool (X.LH c s aZZ),I (X.LI c s aZZ)],h,nx)
 UU:∀ c s aZZ r,gM c.qm s→aZZ.length=c.ar→∀ h nx,C.sum wD [X.m,dE c.qm,.str c.name.1 c.name.2,.agg (eS s),aB aZZ,.agg (eU r),jG] h nx=some (.tuple [.bool (X.oa c s aZZ r),I (X.od c s aZZ r)],h,nx)
 amT:∀ c s aZZ r,gM c.qm s→aZZ.length=c.ar→∀ h nx,C.sum yZ [X.m,dE c.qm,.str c.name.1 c.name.2,.agg (eS s),aB aZZ,.agg (eU r),jG] h nx=some (.tuple [.agg (eS (X.ql c s aZZ r)),I (X.tO c s aZZ r)],h,nx)
 D7:∀ i,i<3→∀ h nx,C.sum wJ [X.m,I 4,dE i] h nx=some (.tuple [.agg (X.dec i),.bool true],h,nx)
 zk:∀ i,i<3→∀ h nx,C.sum nn [X.m,I 4,dE i] h nx=some (.tuple [.agg (X.dec i),.bool true],h,nx)
 tW:∀ u,∀ h nx,C.sum jJ [.agg (eU u)] h nx=some (I (if xa u=true then 0 else 1),h,nx)
 xc:∀ s t:St,s.kids.length≤3→t.kids.length≤3→∀ h nx,C.sum oq [.agg (eS s),.agg (eS t)] h nx=some (I (FE s t),h,nx)
 wK:∀ u,∀ h nx,C.sum pZ [.agg (eU u)] h nx=some (I (if xa u=true then 0 else 1),h,nx)
 z8:∀ s t:St,s.kids.length≤3→t.kids.length≤3→∀ h nx,C.sum ry [.agg (eS s),.agg (eS t)] h nx=some (I (FE s t),h,nx)
 anC:∀ s t:St,s.kids.length≤3→t.kids.length≤3→∀ h nx,C.sum wL [.agg (eS s),.agg (eS t)] h nx=some (.bool (decide (s=t)),h,nx)
 Re:∀ s:St,s.kids.length≤3→∀ h nx,C.sum gn [.agg (eS s)] h nx=some (.agg (eS s),h,nx)
 VE:∀ h nx,C.sum uE [] h nx=some (X.m,h,nx)
 anD:∀ h nx,C.sum wM [] h nx=some (.bool true,h,nx)
theorem Std.rw{C:dm}{X:Kn}(S:Std C X){f:Nat}(h:VD f=true):C.raw f=true:=by rw[S.raw,h]
theorem Std.nr{C:dm}{X:Kn}(S:Std C X){f:Nat}(h:VD f=false):C.raw f=false:=by rw[S.raw,h]
theorem aO.known{C:dm}{f:Nat}{l:List AV}{h:T ah}{nx:Key}{v:AV}{R:Out→T ah→Key→Prop}(hs:C.sum f l h nx=some (v,h,nx))(hR:R (.ret v) h nx):aO C f l h nx R:=.inl ⟨v,h,nx,hs,hR⟩
end Ln
/-
 LN: the machine with what is known of calls. No condition.
-/
namespace Ln
open Go.Sx Go Go.Proofs
def aj7:HO:=⟨12,Unit,fun _=>[],fun _=>vM,fun _ _ _=>rfl⟩
theorem aqm:lj Tryz.prog .nil aj7:=⟨⟨_,kH (n:=12) (by decide)⟩,fun _=>PR⟩
def Sv:HO:=⟨23,Unit,fun _=>[],fun _=>.bool true,fun _ _ _=>rfl⟩
theorem aj8:lj Tryz.prog .nil Sv:=⟨⟨_,kH (n:=23) (by decide)⟩,fun _=>asG⟩
def fI:List HO:=[Ru,HP,LR,Rv,HQ,LU,No,Np,E6,IA,IB,IC,Sw,Sy,Sz,Nq,aj7,Sv]
theorem awL:∀ F∈fI,lj Tryz.prog .nil F:=by
 intro F h
 unfold fI at h
 simp only[JY,List.not_mem_nil,or_false] at h
 rcases h with rfl|rfl|rfl|rfl|rfl|rfl|rfl|rfl|rfl|rfl|rfl|rfl|rfl|rfl|rfl|rfl|rfl|rfl
 ·exact yF
 ·exact j0
 ·exact vn
 ·exact ajl
 ·exact Rw
 ·exact Uf
 ·exact B4
 ·exact VF
 ·exact wC
 ·exact SA
 ·exact tu
 ·exact SB
 ·exact uv
 ·exact aj9
 ·exact aka
 ·exact qu
 ·exact aqm
 ·exact aj8
theorem fE:fI.Pairwise fun a b=>a.f≠b.f:=by
 have h:(fI.map (·.f)).Pairwise (·≠·):=of_decide_eq_true (by kernel_rfl)
 exact List.pairwise_map.1 h
def anE(f:Nat):Bool:=Nat.beq f 86||Nat.beq f 67
noncomputable def CL:dm:=atl aAK VD anE fI
theorem aEv{f:Nat}(h:(fI.map (·.f)).contains f=false):∀ l h nx,CL.sum f l h nx=none:=by
 refine JC fun F hF e=>?_
 have:(fI.map (·.f)).contains f=true:=List.contains_iff_mem.2 (zqv.2 ⟨F,hF,e⟩)
 rw[h] at this;cases this
theorem vg{f:Nat}{p:fO}(hp:iI Tryz.prog f=some p)(hg:DS CL f=some (fx f))(ho:(fI.map (·.f)).contains f=false)(hr:anE f=false):Fn CL f p:=⟨by rw[hg,ayq hp],aEv ho,hr⟩
theorem aEw{f:Nat}{p:fO}(hp:iI Tryz.prog f=some p)(hg:DS CL f=some (fx f))(ho:(fI.map (·.f)).contains f=false)(hr:anE f=true):FnR CL f p:=⟨by rw[hg,ayq hp],aEv ho,hr⟩
theorem aqn:Ru∈fI:=by simp[fI]
theorem VG:HP∈fI:=by simp[fI]
theorem akb:LR∈fI:=by simp[fI]
theorem aqo:Rv∈fI:=by simp[fI]
theorem VH:HQ∈fI:=by simp[fI]
theorem akc:LU∈fI:=by simp[fI]
theorem akd:No∈fI:=by simp[fI]
theorem ake:Np∈fI:=by simp[fI]
theorem SC:E6∈fI:=by simp[fI]
theorem VI:IA∈fI:=by simp[fI]
theorem VJ:IB∈fI:=by simp[fI]
theorem VK:IC∈fI:=by simp[fI]
theorem aqp:Sw∈fI:=by simp[fI]
theorem aqq:Sy∈fI:=by simp[fI]
theorem aqr:Sz∈fI:=by simp[fI]
theorem akf:Nq∈fI:=by simp[fI]
theorem atm:aj7∈fI:=by simp[fI]
theorem aqs:Sv∈fI:=by simp[fI]
theorem aKp:Std CL K0 where
 orc:=rfl
 raw _:=rfl
 ok:=aCY
 uw:=vg Dj (by kernel_rfl) (by kernel_rfl) (by kernel_rfl)
 B6:=vg Kj (by kernel_rfl) (by kernel_rfl) (by kernel_rfl)
 xS:=vg GW (by kernel_rfl) (by kernel_rfl) (by kernel_rfl)
 xT:=vg GX (by kernel_rfl) (by kernel_rfl) (by kernel_rfl)
 Dm:=vg Ng (by kernel_rfl) (by kernel_rfl) (by kernel_rfl)
 xb:=vg GY (by kernel_rfl) (by kernel_rfl) (by kernel_rfl)
 Cn:=aEw Kk (by kernel_rfl) (by kernel_rfl) (by kernel_rfl)
 sU:=vg Ci (by kernel_rfl) (by kernel_rfl) (by kernel_rfl)
 Co:=vg Kl (by kernel_rfl) (by kernel_rfl) (by kernel_rfl)
 B9:=vg Km (by kernel_rfl) (by kernel_rfl) (by kernel_rfl)
 GP:=vg Pg (by kernel_rfl) (by kernel_rfl) (by kernel_rfl)
 Cp:=vg Ko (by kernel_rfl) (by kernel_rfl) (by kernel_rfl)
 Cq:=vg Kq (by kernel_rfl) (by kernel_rfl) (by kernel_rfl)
 vR:=vg EX (by kernel_rfl) (by kernel_rfl) (by kernel_rfl)
 nY:=vg zb (by kernel_rfl) (by kernel_rfl) (by kernel_rfl)
 B7:=vg Kr (by kernel_rfl) (by kernel_rfl) (by kernel_rfl)
 JD:=vg So (by kernel_rfl) (by kernel_rfl) (by kernel_rfl)
 z4:=vg Iq (by kernel_rfl) (by kernel_rfl) (by kernel_rfl)
 Ha:=vg Ph (by kernel_rfl) (by kernel_rfl) (by kernel_rfl)
 Cr:=vg Ks (by kernel_rfl) (by kernel_rfl) (by kernel_rfl)
 Dv:=vg Nh (by kernel_rfl) (by kernel_rfl) (by kernel_rfl)
 Bz:=vg Kt (by kernel_rfl) (by kernel_rfl) (by kernel_rfl)
 GZ:=vg Pj (by kernel_rfl) (by kernel_rfl) (by kernel_rfl)
 I0:=vg Sp (by kernel_rfl) (by kernel_rfl) (by kernel_rfl)
 D5:=vg Ni (by kernel_rfl) (by kernel_rfl) (by kernel_rfl)
 Hb:=vg Pk (by kernel_rfl) (by kernel_rfl) (by kernel_rfl)
 Cs:=vg Ku (by kernel_rfl) (by kernel_rfl) (by kernel_rfl)
 DR:=vg Nj (by kernel_rfl) (by kernel_rfl) (by kernel_rfl)
 GC:=vg Pl (by kernel_rfl) (by kernel_rfl) (by kernel_rfl)
 z5:=vg Ir (by kernel_rfl) (by kernel_rfl) (by kernel_rfl)
 Ct:=vg Kv (by kernel_rfl) (by kernel_rfl) (by kernel_rfl)
 z6:=vg Is (by kernel_rfl) (by kernel_rfl) (by kernel_rfl)
 Nn:=vg UY (by kernel_rfl) (by kernel_rfl) (by kernel_rfl)
 B8:=vg Kw (by kernel_rfl) (by kernel_rfl) (by kernel_rfl)
 Hc:=vg Pm (by kernel_rfl) (by kernel_rfl) (by kernel_rfl)
 D6:=vg Nl (by kernel_rfl) (by kernel_rfl) (by kernel_rfl)
 vS:=vg E4 (by kernel_rfl) (by kernel_rfl) (by kernel_rfl)
 Cu:=vg Kx (by kernel_rfl) (by kernel_rfl) (by kernel_rfl)
 zH:=vg It (by kernel_rfl) (by kernel_rfl) (by kernel_rfl)
 Ch:=vg Ky (by kernel_rfl) (by kernel_rfl) (by kernel_rfl)
 z7:=aEw Iu (by kernel_rfl) (by kernel_rfl) (by kernel_rfl)
 zC:=vg Iv (by kernel_rfl) (by kernel_rfl) (by kernel_rfl)
 JE:=vg Sq (by kernel_rfl) (by kernel_rfl) (by kernel_rfl)
 Jn:=vg Sr (by kernel_rfl) (by kernel_rfl) (by kernel_rfl)
 Hd:=vg Pn (by kernel_rfl) (by kernel_rfl) (by kernel_rfl)
 Ca:=vg Kz (by kernel_rfl) (by kernel_rfl) (by kernel_rfl)
 fu:=vg lB (by kernel_rfl) (by kernel_rfl) (by kernel_rfl)
 anA i hi h nx:=cg akd fE ⟨i,hi⟩ h nx
 asw c s bs hs ha h nx:=cg aqn fE ⟨c,s,bs,hs,ha⟩ h nx
 UG c s bs r hs ha h nx:=cg VG fE ⟨⟨c,s,bs,hs,ha⟩,r⟩ h nx
 amJ c s bs r hs ha h nx:=cg akb fE ⟨⟨c,s,bs,hs,ha⟩,r⟩ h nx
 anB i hi h nx:=cg ake fE ⟨i,hi⟩ h nx
 as0 c s bs hs ha h nx:=cg aqo fE ⟨c,s,bs,hs,ha⟩ h nx
 UU c s bs r hs ha h nx:=cg VH fE ⟨⟨c,s,bs,hs,ha⟩,r⟩ h nx
 amT c s bs r hs ha h nx:=cg akc fE ⟨⟨c,s,bs,hs,ha⟩,r⟩ h nx
 D7 i hi h nx:=cg SC fE ⟨i,hi⟩ h nx
 zk i hi h nx:=cg VI fE ⟨i,hi⟩ h nx
 tW u h nx:=cg VJ fE u h nx
 xc s t hs ht h nx:=cg aqp fE ⟨s,t,hs,ht⟩ h nx
 wK u h nx:=cg VK fE u h nx
 z8 s t hs ht h nx:=cg aqq fE ⟨s,t,hs,ht⟩ h nx
 anC s t hs ht h nx:=cg aqr fE ⟨s,t,hs,ht⟩ h nx
 Re s hs h nx:=cg akf fE ⟨s,hs⟩ h nx
 VE h nx:=cg atm fE () h nx
 anD h nx:=cg aqs fE () h nx
theorem aKq{ρ:Nat→Int}(w0:W0)(hL:kZ Tryz.prog .nil w0):Ctx Tryz.prog ρ w0 CL:=aAV QB as1 mix awL VD anE w0 hL
end Ln
/-
 LN: events that are formed. No condition.
-/
namespace Ln
open Go.Sx Go
theorem bq{a b:Int}(h:a≠b):(a==b)=false:=by simpa using h
theorem bt{a b:Int}(h:a=b):(a==b)=true:=by simpa using h
variable{C:dm}{X:Kn}(S:Std C X)
include S
theorem aw6(u:U):Tv C nh [.agg (eU u)] (·=.ret (.bool (zU u))):=by
 intro h nx
 obtain⟨k,n⟩:=u
 have s1:=kTSu nx
 refine S.Hb.call ?_
 simp[E1]
 simp[Ef,eU]
 by_cases h1:k=0
 ·subst h1
  by_cases h2:n=0
  ·subst h2
   simp[qa,zU];exact E0 _ _ _
  ·simp[qa,bq h2,zU,h2];exact E0 _ _ _
 ·simp[qa,bq h1,zU,h1];exact E0 _ _ _
end Ln
/-
 LN: events that are formed: the reference. No condition.
-/
namespace Ln
open Go.Sx Go
variable{C:dm}{X:Kn}(S:Std C X)
include S
theorem SY{x:Ev}{R:Out→T ah→Key→Prop}{tm:T AV}{h:T ah}{nx nx0:Key}(hlen:x.args.length≤1000)(f1:aa (K 1) tm=some (.ptr nx0 0))(hb:aa nx0 h=some (.cells (eE x) .fix))
  (hR:R (.ret (I (if (x.args.all xa&&xa x.res)=true then 0 else 1))) h nx) :
  dz C (.seq (.seq (.ops iT) (.block 0 (.loop iU))) (.seq (.ops eY) .ret)) (bb [.tmp (K 2)] R) tm h nx:=by
 have rv:C.raw pZ=false:=S.nr (by decide)
 obtain⟨kind,client,name,args,res⟩:=x
 simp
 simp[iT]
 have fin:∀ tm:T AV,aa (K 1) tm=some (.ptr nx0 0)→args.all xa=true→dz C (.seq (.ops eY) .ret) (bb [.tmp (K 2)] R) tm h nx:=by
  intro tm g1 ha
  simp
  simp[eY,g1,hb,eE,rv]
  refine aO.known (S.wK res _ _) ?_
  simp
  simpa[ha] using hR
 refine W.di (n:=args.length) (fun m an h' nx'=>∃ j:Nat,m=args.length-j∧j≤args.length∧aa (K 1) an=some (.ptr nx0 0)∧aa (K 4) an=some (I j)∧h'=h∧nx'=nx∧(args.take j).all xa=true) ?_ ?_
 ·exact⟨0,by simp,by omega,by simp[f1],by simp,rfl,rfl,by simp⟩
 ·rintro m cu h1 bM ⟨j,rfl,hj,g1,g4,rfl,rfl,ha⟩
  refine W.of ?_
  simp[iU]
  cases args with
  |nil=>
   simp[r7,g1,g4,hb,eE,aB]
   have:j=0:=by simpa using hj
   subst this
   simp
   exact fin _ (by simp[g1]) (by simp)
  |cons a t=>
   simp[r7,g1,g4,hb,eE,aB]
   have amA:t.length+1≤1000:=by simpa using hlen
   refine⟨fun bN=>?_,fun TF=>?_⟩
   ·have aR:j<(a ::t).length:=by simp;omega
    have aqF:j<t.length+1:=by simpa using aR
    have hr:=zt.rows (a ::t)
    have ec:=zt.at aR
    simp at hr
    have h4:4≤(ai eU (a ::t)).length-j*4:=by omega
    simp[yd,g1,g4,hb,eE,aB,ec,rv,aqF,h4]
    have hz:aY 9999 (.agg (eU (a ::t)[j])) h1=(.agg (eU (a ::t)[j]),h1):=by simp[eU]
    have he:List.take 4 (eU (a ::t)[j])=eU (a ::t)[j]:=rfl
    have hl4:(eU (a ::t)[j]).length=4:=rfl
    simp[he,hl4,hz]
    refine aO.known (S.wK _ _ _) ?_
    cases ho:xa (a ::t)[j] with
    |false=>
     simp[pC,ye]
     have EV:(a ::t).all xa=false:=by
      rw[List.all_eq_false]
      exact⟨_,JW aR,by simp[ho]⟩
     simpa[EV] using hR
    |true=>
     simp[pC,yg,g4]
     refine⟨t.length+1-(j+1),by omega,j+1,rfl,by omega,by simp[g1],?_,?_⟩
     ·simp;rw[au (by omega) (by omega)]
     ·intro x hx
      rw[zqu aR,List.mem_append,List.mem_singleton] at hx
      rcases hx with hx|rfl
      ·exact zr.1 ha x hx
      ·exact ho
   ·have aR:j=(a ::t).length:=by simp at hj ⊢;omega
    subst aR
    rw[List.take_length] at ha
    exact fin _ (by simp[g1]) ha
omit S in
theorem ar7{client:Int}{nl nc:Nat}{args:List U}{res:U}(hz:zU res=true)(hn:¬ (nl=0∧nc=0))(hl:nl≤16)(ha:args.length≤16)(c0:0≤client)(c3:client≤3):qB ⟨0,client,(nl,nc),args,res⟩=args.all xa:=by
 rw[Bool.eq_iff_iff]
 unfold qB
 rw[decide_eq_true_eq]
 constructor
 ·rintro⟨_,_,_,_,h|h|h⟩
  ·exact h.2.2.2.2.2
  ·exact absurd h.1 (by simp)
  ·exact absurd h.1 (by simp)
 ·intro h
  exact⟨by simp,by simp,c0,c3,.inl ⟨rfl,hz,by simpa using hn,hl,ha,h⟩⟩
omit S in
theorem axV{client:Int}{res:U}(c0:0≤client)(c3:client≤3):qB ⟨1,client,(0,0),[],res⟩=xa res:=by
 rw[Bool.eq_iff_iff]
 unfold qB
 rw[decide_eq_true_eq]
 constructor
 ·rintro⟨_,_,_,_,h|h|h⟩
  ·exact absurd h.1 (by simp)
  ·exact h.2.2.2
  ·exact absurd h.1 (by simp)
 ·intro h
  exact⟨by simp,by simp,c0,c3,.inr (.inl ⟨rfl,rfl,rfl,h⟩)⟩
omit S in
theorem amB{res:U}:qB ⟨2,0,(0,0),[],res⟩=zU res:=by
 rw[Bool.eq_iff_iff]
 unfold qB
 rw[decide_eq_true_eq]
 constructor
 ·rintro⟨_,_,_,_,h|h|h⟩
  ·exact absurd h.1 (by simp)
  ·exact absurd h.1 (by simp)
  ·exact h.2.2.2.2
 ·intro h
  exact⟨by simp,by simp,by simp,by simp,.inr (.inr ⟨rfl,rfl,rfl,rfl,h⟩)⟩
omit S in
theorem ar8{res:U}(hz:zU res=true):xa res=true:=by unfold zU at hz;unfold xa;simp at hz ⊢;exact .inl hz.1
theorem SZ{x:Ev}{R:Out→T ah→Key→Prop}{tm:T AV}{h:T ah}{nx nx0:Key}(hlen:x.args.length≤1000)(f1:aa (K 1) tm=some (.ptr nx0 0))(f3:aa (K 3) tm=some (.bool (zU x.res)))(hb:aa nx0 h=some (.cells (eE x) .fix))
  (hk:0≤x.kind∧x.kind≤2) (hc:0≤x.client∧x.client≤3) (hR:R (.ret (I (if qB x=true then 0 else 1))) h nx) :
  dz C (.seq (.seq (.ops bQ) (.cond (.t (K 59)) (.seq (.ops dg) .ret) .skip))
   (.seq (.seq (.ops dh) (.cond (.t (K 79)) (.seq (.ops iV) .ret) .skip))
    (.seq (.seq (.ops iT) (.block 0 (.loop iU))) (.seq (.ops eY) .ret)))) (bb [.tmp (K 2)] R) tm h nx:=by
 have fail:qB x=false→R (.ret (I 1)) h nx:=fun e=>by simpa[e] using hR
 have AW:∀ tm:T AV,aa (K 1) tm=some (.ptr nx0 0)→(qB x=(x.args.all xa&&xa x.res))→dz C (.seq (.seq (.ops iT) (.block 0 (.loop iU))) (.seq (.ops eY) .ret)) (bb [.tmp (K 2)] R) tm h nx:=
  fun tm g1 e=>SY S hlen g1 hb (by rw[← e];exact hR)
 obtain⟨kind,client,⟨nl,nc⟩,args,res⟩:=x
 have amA:args.length≤1000:=hlen
 have c0:0≤client:=hc.1
 have c3:client≤3:=hc.2
 have cy:aB args=.nils∧args=[]∨∃ l,aB args=.sl l args.length 4 .any∧args≠[]:=by
  cases args with
  |nil=>exact .inl ⟨rfl,rfl⟩
  |cons a t=>exact .inr ⟨_,rfl,by simp⟩
 have qq:kind=0∨kind=1∨kind=2:=by have:=hk.1;have:=hk.2;simp at *;omega
 rcases qq with rfl|rfl|rfl
 ·-- a call begins
  cases hz:zU res with
  |false=>
   rw[hz] at f3
   simp[bQ,f1,f3,hb,eE,dg]
   exact fail (by unfold qB;simp[hz])
  |true=>
   rw[hz] at f3
   have mM:=ar8 hz
   simp[bQ,f1,f3,hb,eE]
   by_cases hn:nl=0∧nc=0
   ·simp[dh,f1,hb,eE,hn,iV]
    exact fail (by unfold qB;simp[hn])
   ·by_cases hl:16<nl
    ·have Kb:(16:Int)<nl:=by omega
     simp[dh,f1,hb,eE,hn,hl,Kb,iV]
     exact fail (by unfold qB;simp;omega)
    ·have Kb:¬ (16:Int)<nl:=by omega
     rcases cy with⟨ea,rfl⟩|⟨l,ea,bI⟩
     ·simp[dh,f1,hb,eE,hn,hl,Kb,ea]
      refine AW _ (by simp[f1]) ?_
      rw[ar7 hz (by simpa using hn) (by omega) (by simp) c0 c3,mM,Bool.and_true]
     ·by_cases ha:16<args.length
      ·have KZ:(16:Int)<args.length:=by omega
       simp[dh,f1,hb,eE,hn,hl,Kb,ea,ha,KZ,iV]
       exact fail (by unfold qB;simp;omega)
      ·have KZ:¬ (16:Int)<args.length:=by omega
       simp[dh,f1,hb,eE,hn,hl,Kb,ea,ha,KZ]
       refine AW _ (by simp[f1]) ?_
       rw[ar7 hz (by simpa using hn) (by omega) (by omega) c0 c3,mM,Bool.and_true]
 ·-- a call ends
  by_cases hn:nl=0∧nc=0
  ·obtain⟨rfl,rfl⟩:=hn
   rcases cy with⟨ea,rfl⟩|⟨l,ea,bI⟩
   ·simp[bQ,f1,f3,hb,eE,ea]
    simp[dh,f1,hb,eE]
    exact AW _ (by simp[f1]) (by rw[axV c0 c3];simp)
   ·simp[bQ,f1,f3,hb,eE,ea,List.length_pos_iff.2 bI,dg]
    exact fail (by unfold qB;simp[bI])
  ·simp[bQ,f1,f3,hb,eE,hn,dg]
   exact fail (by unfold qB;simp;intros;omega)
 ·-- a axW
  by_cases hcl:client=0
  ·subst hcl
   by_cases hn:nl=0∧nc=0
   ·obtain⟨rfl,rfl⟩:=hn
    rcases cy with⟨ea,rfl⟩|⟨l,ea,bI⟩
    ·cases hz:zU res with
     |false=>
      rw[hz] at f3
      simp[bQ,f1,f3,hb,eE,ea,dg]
      exact fail (by rw[amB,hz])
     |true=>
      rw[hz] at f3
      simp[bQ,f1,f3,hb,eE,ea]
      simp[dh,f1,hb,eE]
      exact AW _ (by simp[f1]) (by rw[amB,hz,ar8 hz];simp)
    ·simp[bQ,f1,f3,hb,eE,ea,List.length_pos_iff.2 bI,dg]
     exact fail (by unfold qB;simp[bI])
   ·simp[bQ,f1,f3,hb,eE,hn,dg]
    exact fail (by unfold qB;simp;intros;omega)
  ·simp[bQ,f1,f3,hb,eE,bq hcl,dg]
   exact fail (by unfold qB;simp[hcl])
omit S in
theorem vr{x:Ev}(h:¬ (0≤x.kind∧x.kind≤2∧0≤x.client∧x.client≤3)):qB x=false:=by
 unfold qB
 rw[decide_eq_false_iff_not]
 rintro⟨a,b,c,d,_⟩
 exact h ⟨a,b,c,d⟩
theorem alT(x:Ev)(hlen:x.args.length≤1000):Tv C jS [.agg (eE x)] (·=.ret (I (if qB x=true then 0 else 1))):=by
 intro h nx
 have s1:=kTSu nx
 have rz:C.raw nh=false:=S.nr (by decide)
 refine S.Cs.call ?_
 simp[zd]
 simp[Af]
 by_cases hk:x.kind<0
 ·simp[fN,eE,hk,iW,vr (x:=x) (by omega)]
  exact E0 _ _ _
 by_cases Qg:2<x.kind
 ·simp[fN,eE,hk,Qg,iW,vr (x:=x) (by omega)]
  exact E0 _ _ _
 by_cases hc:x.client<0
 ·simp[fN,eE,hk,Qg,hc,iW,vr (x:=x) (by omega)]
  exact E0 _ _ _
 by_cases hc2:3<x.client
 ·simp[fN,eE,hk,Qg,hc,hc2,iW,vr (x:=x) (by omega)]
  exact E0 _ _ _
 simp[fN,eE,hk,Qg,hc,hc2]
 simp[Ag,rz]
 refine(aw6 S x.res _ _).mono ?_
 rintro o h1 bM ⟨rfl,e1⟩
 simp
 have hb1:aa nx h1=some (.cells (eE x) .fix):=by
  rw[e1.g nx (by omega)]
  simp[eE]
 have key:=fun tm2 g1 g3=>SZ S (x:=x) (nx0:=nx) (tm:=tm2) (R:=fun o h' nx'=>o=.ret (I (if qB x=true then 0 else 1))∧Ext h nx h' nx') hlen g1 g3 hb1 (by omega) (by omega) ⟨rfl,(E0 h nx _).trans e1⟩
 simp at key
 refine key _ ?_ ?_<;>simp
end Ln
/-
 LN: valid histories: the reference. No condition.
-/
namespace Ln
open Go.Sx Go
structure Tu(l:List Ev):Prop where
 len:l.length≤16
 args:∀ x∈l,x.args.length≤1000
 cl:∀ x∈l,0≤x.client∧x.client≤3
variable{C:dm}{X:Kn}(S:Std C X)
include S
theorem awH{ev:AV}{l:List Ev}(hv:iD 8 eE ev l)(hl:l.length≤16)(c:Int)(a:Nat)(ha:a≤l.length):Tv C ng [ev,I c,I a] (·=.ret (I (jq c (l.take a).reverse))):=by
 intro h nx
 refine S.GZ.call ?_
 simp[EZ]
 simp[DY]
 simp[DZ]
 rw[au (by omega) (by omega)]
 refine W.di (n:=a) (fun m an h' nx'=>aa (K 0) an=some ev∧aa (K 1) an=some (I c)∧aa (K 7) an=some (I ((m:Int)-1))∧m≤a∧h'=h∧nx'=nx∧jq c (l.take a).reverse=jq c (l.take m).reverse) ?_ ?_
 ·exact⟨by simp,by simp,by simp,by omega,rfl,rfl,rfl⟩
 ·rintro m cu h1 bM ⟨g0,g1,g7,hm,rfl,rfl,he⟩
  refine W.of ?_
  simp[D0]
  cases m with
  |zero=>
   simp[wH,g7]
   simp[D3]
   exact⟨by rw[he];simp[jq],Ext.refl _ _⟩
  |succ m=>
   have TD:m<l.length:=by omega
   have hlen:=ew.rows l
   have h8:8≤l.length*8-m*8:=by omega
   have ec:=ew.at TD
   rw[zqu TD,List.reverse_append,List.reverse_singleton,List.singleton_append] at he
   have Ty:(l.take m).reverse.length=m:=by simp;omega
   rcases hv with⟨e,rfl⟩|e
   ·simp at TD
   have ij:=g0
   rw[e] at g0
   have Lc:¬ (m:Int)<0:=by omega
   have g7:aa (K 7) cu=some (I (m:Int)):=by simpa using g7
   simp[wH,g7,Lc]
   generalize l[m]=x at he ec
   obtain⟨kind,client,name,args,res⟩:=x
   have zS:jq c (⟨kind,client,name,args,res⟩ ::(l.take m).reverse)=if kind=2∨kind=1∧client=c then -1 else if kind=0∧client=c then((l.take m).reverse.length:Int) else jq c (l.take m).reverse:=rfl
   rw[zS,Ty] at he
   by_cases k2:kind=2
   ·subst k2
    simp[gA,g0,g1,g7,TD,hlen,h8,ec,eE]
    simp[wI]
    exact⟨by rw[he];simp,Ext.refl _ _⟩
   by_cases k1:kind=1
   ·subst k1
    by_cases hc:client=c
    ·subst hc
     simp[gA,g0,g1,g7,TD,hlen,h8,ec,eE]
     simp[wI]
     exact⟨by rw[he];simp,Ext.refl _ _⟩
    ·simp[gA,g0,g1,g7,TD,hlen,h8,ec,eE,bq hc]
     simp[lC,g0,g1,g7,TD,hlen,h8,ec,eE,bq hc]
     simp[pY,g7]
     refine⟨m,by omega,ij,g1,au (by omega) (by omega),by omega,?_⟩
     rw[he];simp[hc]
   by_cases k0:kind=0
   ·subst k0
    by_cases hc:client=c
    ·subst hc
     simp[gA,g0,g1,g7,TD,hlen,h8,ec,eE]
     simp[lC,g0,g1,g7,TD,hlen,h8,ec,eE]
     simp[D4,g7]
     exact⟨by rw[he];simp,Ext.refl _ _⟩
    ·simp[gA,g0,g1,g7,TD,hlen,h8,ec,eE,bq hc]
     simp[lC,g0,g1,g7,TD,hlen,h8,ec,eE,bq hc]
     simp[pY,g7]
     refine⟨m,by omega,ij,g1,au (by omega) (by omega),by omega,?_⟩
     rw[he];simp[hc]
   ·simp[gA,g0,g1,g7,TD,hlen,h8,ec,eE,bq k2,bq k1]
    simp[lC,g0,g1,g7,TD,hlen,h8,ec,eE,bq k0]
    simp[pY,g7]
    refine⟨m,by omega,ij,g1,au (by omega) (by omega),by omega,?_⟩
    rw[he];simp[k0,k1,k2]
end Ln
/-
 LN: valid histories: the reference, all events. No condition.
-/
namespace Ln
open Go.Sx Go
def hZ:Nat→Int
 |0=>0|1=>1|2=>20|_=>25
variable{C:dm}{X:Kn}(S:Std C X)
include S
theorem ais{l:List Ev}(hl:Tu l){R:Out→T ah→Key→Prop}{tm:T AV}{h:T ah}{nx:Key}(g0:aa (K 0) tm=some (.sl (ai eE l) l.length 8 .any))(g5:aa (K 5) tm=some (I 0))
  (hR:∀ h' nx',Ext h nx h' nx'→R (.ret (I (hZ (bC [] l)))) h' nx') :
  W C (.loop ns) (ak 2 (aq (dz C (.seq (.ops lN) .ret) (bb [.tmp (K 2)] R)) (bb [.tmp (K 2)] R))) tm h nx:=by
 have apy:=hl.len
 have rf:C.raw jS=false:=S.nr (by decide)
 have ro:C.raw ng=false:=S.nr (by decide)
 refine W.di (n:=l.length) (fun m an h' nx'=>∃ j:Nat,m=l.length-j∧j≤l.length∧aa (K 0) an=some (.sl (ai eE l) l.length 8 .any)∧aa (K 5) an=some (I j)∧Ext h nx h' nx'∧bC [] l=bC (l.take j).reverse (l.drop j)) ?_ ?_
 ·exact⟨0,by simp,by omega,g0,by simpa using g5,Ext.refl _ _,rfl⟩
 ·rintro m cu h1 bM ⟨j,rfl,hj,g0,g5,e1,hv⟩
  refine W.of ?_
  simp[ns]
  simp[rV,g0,g5]
  refine⟨fun bN=>?_,fun TF=>?_⟩
  ·have aR:j<l.length:=by omega
   have hlen:=ew.rows l
   have h8:8≤l.length*8-j*8:=by omega
   have ec:=ew.at aR
   have hx:=hl.args _ (JW aR)
   have hz:aY 9999 (.agg (eE l[j])) h1=(.agg (eE l[j]),h1):=by
    have:=du (n:=9998) (l:=eE l[j]) (h:=h1) (ew.Fl _)
    simp only[Ih];rw[this]
   have he:List.take 8 (eE l[j])=eE l[j]:=rfl
   have hl8:(eE l[j]).length=8:=rfl
   rw[zqt aR] at hv
   simp[z9,g0,g5,aR,hlen,h8,ec,he,hl8,rf,hz]
   refine(alT S l[j] hx _ _).mono ?_
   rintro o h2 aI ⟨rfl,e2⟩
   simp
   have TG:=e1.trans e2
   generalize hxe:l[j]=x at *
   cases mM:qB x with
   |false=>
    simp[rW,Aa]
    have e0:bC [] l=1:=by rw[hv];unfold bC Ns;rw[mM];rfl
    have:=hR h2 aI TG
    rw[e0] at this
    exact this
   |true=>
    simp[rW]
    have hzs:aY 9999 (AV.sl (ai eE l) l.length 8 .any) h2=(.sl (ai eE l) l.length 8 .any,h2):=Rn _ _ _ _ _
    simp[Ab,g0,g5,aR,hlen,h8,ec,eE,ro,hzs]
    have jx:=awH S (ev:=.sl (ai eE l) l.length 8 .any) (.inr rfl) apy x.client j hj
    refine(jx h2 aI).mono ?_
    rintro o h3 bu ⟨rfl,e3⟩
    simp
    have e13:=TG.trans e3
    have hv2:bC (l.take j).reverse (x ::l.drop (j+1))=match Ns (l.take j).reverse x with|0=>bC (x ::(l.take j).reverse) (l.drop (j+1))|n=>n:=rfl
    have hb:Ns (l.take j).reverse x=if x.kind=0∧0≤jq x.client (l.take j).reverse then 2 else if x.kind=1∧jq x.client (l.take j).reverse<0 then 3 else 0:=by unfold Ns;rw[mM];rfl
    have CU:x ::(l.take j).reverse=(l.take (j+1)).reverse:=by rw[zqu aR,hxe];simp
    generalize jq x.client (l.take j).reverse=ob at *
    have fin:∀ n:Nat,Ns (l.take j).reverse x=n+1→hZ (bC [] l)=hZ (n+1):=fun n e=>by rw[hv,hv2,e];rfl
    have go:∀ tm2:T AV,aa (K 0) tm2=some (.sl (ai eE l) l.length 8 .any)→aa (K 5) tm2=some (I j)→Ns (l.take j).reverse x=0→∃ m,m<l.length-j∧∃ j':Nat,m=l.length-j'∧j'≤l.length∧aa (K 0) tm2=some (.sl (ai eE l) l.length 8 .any)∧(j:Int)+1=(j':Int)∧Ext h nx h3 bu∧bC [] l=bC (l.take j').reverse (l.drop j'):=fun tm2 q0 q5 e=>⟨l.length-(j+1),by omega,j+1,rfl,by omega,q0,by omega,e13,by rw[hv,hv2,e];exact congrArg (fun p=>bC p _) CU⟩
    by_cases k0:x.kind=0
    ·by_cases ho:ob<0
     ·simp[fM,g0,g5,aR,hlen,h8,ec,eE,k0,ho]
      simp[iS,g0,g5,aR,hlen,h8,ec,eE,k0,ho]
      simp[lO,g5]
      rw[au (by omega) (by omega)]
      have:=go cu g0 g5 (by rw[hb,if_neg (by omega),if_neg (by omega)])
      simpa[g0] using this
     ·simp[fM,g0,g5,aR,hlen,h8,ec,eE,k0,ho]
      simp[Ac]
      have:=hR h3 bu e13
      rw[fin 1 (by rw[hb,if_pos ⟨k0,by omega⟩])] at this
      simpa[hZ] using this
    ·by_cases k1:x.kind=1
     ·by_cases ho:ob<0
      ·simp[fM,g0,g5,aR,hlen,h8,ec,eE,bq k0,ho]
       simp[iS,g0,g5,aR,hlen,h8,ec,eE,k1,ho]
       simp[Ad]
       have:=hR h3 bu e13
       rw[fin 2 (by rw[hb,if_neg (by omega),if_pos ⟨k1,by omega⟩])] at this
       simpa[hZ] using this
      ·simp[fM,g0,g5,aR,hlen,h8,ec,eE,bq k0,ho]
       simp[iS,g0,g5,aR,hlen,h8,ec,eE,k1,ho]
       simp[lO,g5]
       rw[au (by omega) (by omega)]
       have:=go cu g0 g5 (by rw[hb,if_neg (by omega),if_neg (by omega)])
       simpa[g0] using this
     ·simp[fM,g0,g5,aR,hlen,h8,ec,eE,bq k0]
      simp[iS,g0,g5,aR,hlen,h8,ec,eE,bq k1]
      simp[lO,g5]
      rw[au (by omega) (by omega)]
      have:=go cu g0 g5 (by rw[hb,if_neg (by omega),if_neg (by omega)])
      simpa[g0] using this
  ·have aR:j=l.length:=by omega
   subst aR
   simp[lN]
   have:=hR h1 bM e1
   rw[hv] at this
   simpa[bC,hZ] using this
theorem apz{ev:AV}{l:List Ev}(hv:iD 8 eE ev l)(hl:Tu l):Tv C lp [ev] (·=.ret (I (hZ (bC [] l)))):=by
 intro h nx
 have apy:=hl.len
 refine S.D5.call ?_
 simp[Cj]
 simp[Cw]
 simp[Cx]
 simp[Cy]
 rcases hv with⟨rfl,rfl⟩|rfl
 ·refine W.Bl (W.of ?_)
  simp[uJ]
  simp[uK]
  simp[uL]
  simp[uM]
  refine W.Bl (W.of ?_)
  simp[ns]
  simp[rV]
  simp[lN]
  exact⟨rfl,Ext.refl _ _⟩
 ·refine W.di (n:=l.length) (fun m an h' nx'=>∃ j b:Nat,m=l.length-j∧j≤l.length∧b≤j∧aa (K 0) an=some (.sl (ai eE l) l.length 8 .any)∧aa (K 4) an=some (I j)∧aa (K 3) an=some (I b)∧h'=h∧nx'=nx) ?_ ?_
  ·exact⟨0,0,by simp,by omega,by omega,by simp,by simp,by simp,rfl,rfl⟩
  ·rintro m cu h1 bM ⟨j,b,rfl,hj,hb,g0,g4,g3,rfl,rfl⟩
   refine W.of ?_
   simp[uJ]
   simp[uK,g0,g4]
   refine⟨fun bN=>?_,fun TF=>?_⟩
   ·have aR:j<l.length:=by omega
    have hlen:=ew.rows l
    have h8:8≤l.length*8-j*8:=by omega
    have ec:=ew.at aR
    by_cases k0:l[j].kind=0
    ·simp[uN,g0,g4,aR,hlen,h8,ec,eE,k0]
     simp[Cz,g3]
     simp[uO,g4]
     rw[au (by omega) (by omega),au (by omega) (by omega)]
     exact⟨l.length-(j+1),by omega,j+1,rfl,by omega,b+1,by omega,g0,by omega,by omega⟩
    ·simp[uN,g0,g4,aR,hlen,h8,ec,eE,bq k0]
     simp[uO,g4]
     rw[au (by omega) (by omega)]
     exact⟨l.length-(j+1),by omega,j+1,rfl,by omega,b,by omega,g0,by omega,g3⟩
   ·have aA2:¬ (64:Int)<l.length:=by omega
    have aA3:¬ (16:Int)<b:=by omega
    simp[uL,g0,g3,aA2,aA3]
    simp[uM]
    have key:=fun tm2 q0 q5=>ais S hl (tm:=tm2) (h:=h1) (nx:=bM) (R:=fun o h' nx'=>o=.ret (I (hZ (bC [] l)))∧Ext h1 bM h' nx') q0 q5 (fun h' nx' e=>⟨rfl,e⟩)
    refine key _ ?_ ?_<;>simp[g0]
end Ln
/-
 LN: the calls of a history: the reference. No condition.
-/
namespace Ln
open Go.Sx Go
theorem Jr{o:Op}(h:¬ (o.e<0∧o.lost<0)):∀ (l:List Ev) (i:Nat),follow o i l=o
 | [],i=>rfl
 |x ::l,i=>by
  show follow (nN i x o) (i+1) l=o
  rw[Uu h];exact Jr h l (i+1)
theorem qg:∀ (l:List Ev) (i:Nat),(cv i l).length≤l.length
 | [],i=>by simp[cv]
 |x ::l,i=>by
  have:=qg l (i+1)
  simp only[cv,zqf,zqi]
  split<;>simp<;>omega
def RIn(l:List Ev)(o:Op)(i:Nat)(c5:AV)(b:Key)(h:T ah)(nx:Key)(m:Nat)(an:T AV)(h':T ah)(nx':Key):Prop:=∃ (j:Nat) (o':Op),m=l.length-j∧i+1≤j∧j≤l.length∧o'.client=o.client∧aa (K 0) an=some (.sl (ai eE l) l.length 8 .any)∧aa (K 5) an=some c5∧aa (K 6) an=some (I i)∧aa (K 7) an=some (.ptr b 0)∧aa (K 8) an=some (I j)∧aa b h'=some (.cells (eO o') .fix)∧follow o (i+1) (l.drop (i+1))=follow o' j (l.drop j)∧(∀ k:Key,k≠b→aa k h'=aa k h)∧nx'=nx
variable{C:dm}{X:Kn}(S:Std C X)
include S
omit S in
theorem avw{l:List Ev}(hl:Tu l){Q:cX}{tm:T AV}{h:T ah}{nx b:Key}{o:Op}{i:Nat}{c5:AV}(hi:i<l.length)(hb:b.toNat<nx.toNat)(ho:o.e<0∧o.lost<0)
  (g0:aa (K 0) tm=some (.sl (ai eE l) l.length 8 .any)) (g5:aa (K 5) tm=some c5) (g6:aa (K 6) tm=some (I i)) (g7:aa (K 7) tm=some (.ptr b 0)) (g8:aa (K 8) tm=some (I ((i:Int)+1))) (gb:aa b h=some (.cells (eO o) .fix))
  (hQ:∀ an h',aa (K 0) an=some (.sl (ai eE l) l.length 8 .any)→aa (K 5) an=some c5→aa (K 6) an=some (I i)→aa (K 7) an=some (.ptr b 0)→aa b h'=some (.cells (eO (follow o (i+1) (l.drop (i+1)))) .fix)→(∀ k:Key,k≠b→aa k h'=aa k h)→Q .norm an h' nx) :
  W C (.loop yO) (ak 2 Q) tm h nx:=by
 have apy:=hl.len
 refine W.di (n:=l.length-(i+1)) (RIn l o i c5 b h nx) ?_ ?_
 ·exact⟨i+1,o,rfl,by omega,by omega,rfl,g0,g5,g6,g7,by simpa using g8,gb,rfl,fun _ _=>rfl,rfl⟩
 ·rintro m cu h1 bM ⟨j,o',rfl,hj1,hj,hc,g0,g5,g6,g7,g8,gb,hf,hk,rfl⟩
  refine W.of ?_
  simp[yO]
  by_cases bN:j<l.length
  ·have azr:(j:Int)<l.length:=by omega
   by_cases hoo:o'.e<0∧o'.lost<0
   ·simp[lu,g0,g7,g8,gb,eO,bN,azr,hoo.1,hoo.2]
    have hlen:=ew.rows l
    have h8:8≤l.length*8-j*8:=by omega
    have ec:=ew.at bN
    rw[zqt bN] at hf
    have hu:follow o' j (l[j] ::l.drop (j+1))=follow (nN j l[j] o') (j+1) (l.drop (j+1)):=rfl
    rw[hu] at hf
    generalize l[j]=x at hf ec hu
    have hu2:nN j x o'=if x.kind=2 then {o' with lost:=j} else if x.kind=1∧x.client=o'.client then {o' with e:=j,res:=x.res} else o':=by unfold nN;rw[if_pos hoo]
    by_cases k2:x.kind=2
    ·rw[if_pos k2] at hu2
     simp[pV,g0,g8,bN,hlen,h8,ec,eE,k2]
     simp[DM,g7,g8,gb,eO]
     simp[lv,g0,g7,g8,gb,eO,bN,hlen,h8,ec,eE,k2]
     simp[lx,g8]
     rw[au (by omega) (by omega)]
     refine⟨l.length-(j+1),by omega,j+1,{o' with lost:=j},rfl,by omega,by omega,hc,by simp[g0],by simp[g5],by simp[g6],by simp[g7],by simp,by simp[eO],by rw[hf,hu2],fun k Qg=>?_,rfl⟩
     rw[bZ _ _ _ _ Qg];exact hk k Qg
    ·rw[if_neg k2] at hu2
     by_cases k1:x.kind=1∧x.client=o'.client
     ·rw[if_pos k1] at hu2
      simp[pV,g0,g8,bN,hlen,h8,ec,eE,k1.1]
      simp[lv,g0,g7,g8,gb,eO,bN,hlen,h8,ec,eE,k1.1,k1.2]
      simp[DN,g7,g8,gb,eO]
      simp[DO,g0,g7,g8,gb,eO,bN,hlen,h8,ec,eE]
      simp[lx,g8]
      rw[au (by omega) (by omega)]
      refine⟨l.length-(j+1),by omega,j+1,{o' with e:=j,res:=x.res},rfl,by omega,by omega,hc,by simp[g0],by simp[g5],by simp[g6],by simp[g7],by simp,by simp[eO],by rw[hf,hu2],fun k Qg=>?_,rfl⟩
      rw[bZ _ _ _ _ Qg];exact hk k Qg
     ·rw[if_neg k1] at hu2
      simp[pV,g0,g8,bN,hlen,h8,ec,eE,bq k2]
      have fin:∀ tm2:T AV,aa (K 0) tm2=some (.sl (ai eE l) l.length 8 .any)→aa (K 5) tm2=some c5→aa (K 6) tm2=some (I i)→aa (K 7) tm2=some (.ptr b 0)→aa (K 8) tm2=some (I ((j+1:Nat):Int))→∃ m,m<l.length-j∧RIn l o i c5 b h bM m tm2 h1 bM:=fun tm2 q0 q5 q6 q7 q8=>
       ⟨l.length-(j+1),by omega,j+1,o',rfl,by omega,by omega,hc,q0,q5,q6,q7,q8,gb,by rw[hf,hu2],hk,rfl⟩
      by_cases k1':x.kind=1
      ·have bI:x.client≠o'.client:=fun e=>k1 ⟨k1',e⟩
       simp[lv,g0,g7,g8,gb,eO,bN,hlen,h8,ec,eE,k1',bq bI]
       simp[lx,g8]
       rw[au (by omega) (by omega)]
       refine fin _ ?_ ?_ ?_ ?_ ?_<;>simp[g0,g5,g6,g7]
      ·simp[lv,g0,g7,g8,gb,eO,bN,hlen,h8,ec,eE,bq k1']
       simp[lx,g8]
       rw[au (by omega) (by omega)]
       refine fin _ ?_ ?_ ?_ ?_ ?_<;>simp[g0,g5,g6,g7]
   ·have fin:∀ an:T AV,aa (K 0) an=some (.sl (ai eE l) l.length 8 .any)→aa (K 5) an=some c5→aa (K 6) an=some (I i)→aa (K 7) an=some (.ptr b 0)→Q .norm an h1 bM:=fun an q0 q5 q6 q7=>hQ an h1 q0 q5 q6 q7 (by rw[hf,Jr hoo];exact gb) hk
    by_cases he:o'.e<0
    ·have u6:¬ o'.lost<0:=fun q=>hoo ⟨he,q⟩
     simp[lu,g0,g7,g8,gb,eO,bN,azr,he,u6]
     exact fin _ (by simp[g0]) (by simp[g5]) (by simp[g6]) (by simp[g7])
    ·simp[lu,g0,g7,g8,gb,eO,bN,azr,he]
     exact fin _ (by simp[g0]) (by simp[g5]) (by simp[g6]) (by simp[g7])
  ·have nS:j=l.length:=by omega
   subst nS
   simp[lu,g0,g7,g8,gb,eO]
   refine hQ _ h1 (by simp[g0]) (by simp[g5]) (by simp[g6]) (by simp[g7]) ?_ hk
   rw[hf];simpa[follow] using gb
end Ln
/-
 LN: the calls of a history: the reference, all of it. No condition.
-/
namespace Ln
open Go.Sx Go
def RQ(l:List Ev)(h:T ah)(nx:Key)(m:Nat)(an:T AV)(h':T ah)(nx':Key):Prop:=∃ (i:Nat) (c:AV) (os:List Op),m=l.length-i∧i≤l.length∧os.length≤i∧aa (K 0) an=some (.sl (ai eE l) l.length 8 .any)∧aa (K 5) an=some c∧aa (K 6) an=some (I i)∧App c (ai eO os) os.length 10 h' nx' nx∧cv 0 l=os++cv i (l.drop i)∧Ext h nx h' nx'
def auX(l:List Ev)(o:Out):Prop:=∃ c,o=.ret (.tuple [c,I (hZ (bC [] l))])∧iD 10 eO c (if bC [] l=0 then cv 0 l else [])
variable{C:dm}{X:Kn}(S:Std C X)
include S
omit S in
theorem avs{c:AV}{l:List AV}{len sz:Nat}{h h':T ah}{nx nx' n0 b:Key}(ha:App c l len sz h nx n0)(hn:nx.toNat≤nx'.toNat)(hb:nx.toNat≤b.toNat)(hk:∀ k:Key,k≠b→aa k h'=aa k h):App c l len sz h' nx' n0:=
 ha.kN hn fun k OA _=>hk k (fun e=>by subst e;omega)
theorem avt{ev:AV}{l:List Ev}(hv:iD 8 eE ev l)(hl:Tu l):Tv C qp [ev] (auX l):=by
 intro h nx
 have apy:=hl.len
 have rv:C.raw lp=false:=S.nr (by decide)
 have hz:aY 9999 ev h=(ev,h):=hv.Fl _ _
 refine S.I0.call ?_
 simp[HR]
 simp[FL]
 simp[FM,rv,hz]
 refine(apz S hv hl _ _).mono ?_
 rintro o h1 bM ⟨rfl,e1⟩
 simp
 by_cases Qb:bC [] l=0
 ·simp[yG,Qb,hZ]
  simp[FO]
  simp[FP]
  have fin:∀ (tm2:T AV) (c:AV) (h2:T ah) (aI:Key),aa (K 5) tm2=some c→App c (ai eO (cv 0 l)) (cv 0 l).length 10 h2 aI bM→Ext h1 bM h2 aI→dz C (.seq (.ops wg) .ret) (bb [.tmp (K 2),.tmp (K 3)] fun o h' nx'=>auX l o∧Ext h nx h' nx') tm2 h2 aI:=by
   intro tm2 c h2 aI q5 A x
   simp[wg,q5]
   obtain⟨f1,f2⟩:=A.I1 cG 9998
   refine⟨⟨_,by rw[Qb];rfl,?_⟩,?_⟩
   ·rw[if_pos Qb];exact f1
   ·have x2:=e1.trans x
    exact⟨x2.n,fun b hb=>by rw[f2 b (by have:=e1.n;omega)];exact x2.g b hb⟩
  simp only[aL,aQ] at fin
  rcases hv with⟨rfl,rfl⟩|rfl
  ·refine W.Bl (W.of ?_)
   simp[yH]
   simp[yI]
   refine fin _ .nils h1 bM ?_ (App.nil 10) (Ext.refl _ _)
   simp
  ·refine W.di (n:=l.length) (RQ l h1 bM) ?_ ?_
   ·exact⟨0,.nils,[],by simp,by omega,by simp,by simp,by simp,by simp,App.nil 10,by simp,Ext.refl _ _⟩
   ·rintro m cu h2 aI ⟨i,c,os,rfl,hi,hol,g0,g5,g6,A,jx,xe⟩
    refine W.of ?_
    simp[yH]
    simp[yI,g0,g6]
    refine⟨fun bN=>?_,fun TF=>?_⟩
    ·have J3:i<l.length:=by omega
     have hlen:=ew.rows l
     have h8:8≤l.length*8-i*8:=by omega
     have ec:=ew.at J3
     rw[zqt J3] at jx
     have ho:cv i (l[i] ::l.drop (i+1))=(if l[i].kind=0 then [follow (w7 i l[i]) (i+1) (l.drop (i+1))] else [])++cv (i+1) (l.drop (i+1)):=rfl
     rw[ho] at jx
     clear ho
     generalize l[i]=x at jx ec
     by_cases k0:x.kind=0
     ·rw[if_pos k0] at jx
      have s2:=kTSu aI
      have ac1:=(bc x.args).1
      have ac2:=(bc x.args).2
      simp[yJ,g0,g6,J3,hlen,h8,ec,eE,k0]
      simp[FQ,g0,g6,J3,hlen,h8,ec,eE,ac1,ac2]
      simp[FR,g6]
      rw[au (by omega) (by omega)]
      refine avw (o:=w7 i x) (i:=i) (b:=aI) hl J3 (by omega) (by simp[w7]) (c5:=c) ?_ ?_ ?_ ?_ ?_ ?_ ?_
      ·simp[g0]
      ·simp[g5]
      ·simp[g6]
      ·simp
      ·simp
      ·simp[eO,w7]
      ·intro Fc h3 q0 q5 q6 q7 qb qk
       have A2:=(A.ext (E0 h2 aI (.cells (eO (w7 i x)) .fix)))
       have A3:App c (ai eO os) os.length 10 h3 aI.succ bM:=avs A (by omega) (fe _) (fun k hk=>by rw[qk k hk,bZ _ _ _ _ hk])
       generalize follow (w7 i x) (i+1) (l.drop (i+1))=y at *
       have A4:=A3.ext (E0 h3 aI.succ (.cells (eO y) .fix))
       obtain⟨c5,h5,zA,g,A5,m1,m2,_⟩:=A4.BG cG (by have:=xe.n;have:=kTSu aI.succ;omega) (by omega) y
       have yc1:=(bc y.args).1
       have yc2:=(bc y.args).2
       have ey:eO y=[I y.client,I y.b,I y.e,I y.lost,.str y.name.1 y.name.2,aB y.args,I y.res.k,I y.res.n,.str 0 0,.nils]:=rfl
       rw[ey] at g qb
       have yf:∀ n H,aY n (aB y.args) H=(aB y.args,H):=dB _
       simp[-appendTo,Dw,q5,q7,qb,yc1,yc2,yf,g]
       simp[wi,q6]
       rw[au (by omega) (by omega)]
       refine⟨l.length-(i+1),by omega,i+1,c5,os ++ [y],rfl,by omega,by simp;omega,by simp[q0],by simp,by simp,A5,by rw[jx];simp,?_⟩
       have x3:=xe.n
       have:=kTSu aI.succ
       exact⟨by omega,fun b hb=>by rw[m2 b hb,az (by omega),qk b (fun e=>by subst e;omega),az (by omega)];exact xe.g b hb⟩
     ·rw[if_neg k0] at jx
      simp[yJ,g0,g6,J3,hlen,h8,ec,eE,bq k0]
      simp[wi,g6]
      rw[au (by omega) (by omega)]
      exact⟨l.length-(i+1),by omega,i+1,c,os,rfl,by omega,by omega,by simp[g0],by simp[g5],by simp,A,by simpa using jx,xe⟩
    ·have:i=l.length:=by omega
     subst this
     rw[List.drop_length] at jx
     have aG3:cv 0 l=os:=by simpa[cv] using jx
     rw[← aG3] at A
     exact fin _ c h2 aI (by simp[g5]) A xe
 ·have bI:hZ (bC [] l)≠0:=by
   unfold hZ
   split<;>first|exact absurd ‹_› Qb|decide
  simp[yG,bq bI]
  simp[FU]
  exact⟨⟨_,rfl,.inl ⟨rfl,by rw[if_neg Qb]⟩⟩,e1⟩
end Ln
/-
 LN: events that are formed: the program. No condition.
-/
namespace Ln
open Go.Sx Go
theorem ar6(u:U):FE ⟨u.k,u.n,[]⟩ ⟨0,0,[]⟩=0↔zU u=true:=by
 rw[Rr]
 unfold zU
 rw[decide_eq_true_eq]
 simp
variable{C:dm}{X:Kn}(S:Std C X)
include S
theorem RX{x:Ev}{R:Out→T ah→Key→Prop}{Q:cX}{tm:T AV}{h:T ah}{nx nx0:Key}(hlen:x.args.length≤1000)(h0:nx0.toNat<nx.toNat)(f1:aa (K 1) tm=some (.ptr nx0 0))(hb:aa nx0 h=some (.cells (eE x) .fix))
  (gH:∀ h' nx',x.args.all xa=false→Ext h nx h' nx'→R (.ret (I 1)) h' nx') (cH:∀ an h' nx',aa (K 1) an=some (.ptr nx0 0)→x.args.all xa=true→Ext h nx h' nx'→Q .norm an h' nx')
  (hq:∀ an h' nx',bb [.tmp (K 2)] R .ret an h' nx'→Q .ret an h' nx') :
  dz C (.seq (.ops dZ) (.block 0 (.loop eb))) Q tm h nx:=by
 have rv:C.raw jJ=false:=S.nr (by decide)
 obtain⟨kind,client,name,args,res⟩:=x
 have cy:aB args=.nils∧args=[]∨aB args=.sl (ai eU args) args.length 4 .any∧args≠[]:=by
  cases args with
  |nil=>exact .inl ⟨rfl,rfl⟩
  |cons a t=>exact .inr ⟨rfl,by simp⟩
 simp
 have amA:args.length≤1000:=hlen
 rcases cy with⟨e,rfl⟩|⟨e,bI⟩
 ·simp[dZ,f1,hb,eE,e]
  refine W.Bl (W.of ?_)
  simp[eb]
  simp[mT]
  refine cH _ _ _ ?_ rfl (Ext.refl _ _)
  simp[f1]
 ·simp[dZ,f1,hb,eE,e]
  refine W.di (n:=args.length) (fun m an h' nx'=>∃ j:Nat,m=args.length-j∧j≤args.length∧aa (K 1) an=some (.ptr nx0 0)∧aa (K 53) an=some (.sl (ai eU args) args.length 4 .any)∧aa (K 54) an=some (I args.length)∧aa (K 55) an=some (I j)∧Ext h nx h' nx'∧(args.take j).all xa=true) ?_ ?_
  ·exact⟨0,by simp,by omega,by simp[f1],by simp,by simp,by simp,Ext.refl _ _,by simp⟩
  ·rintro m cu h1 bM ⟨j,rfl,hj,g1,g53,g54,g55,e1,ha⟩
   refine W.of ?_
   simp[eb]
   simp[mT,g54,g55]
   refine⟨fun bN=>?_,fun TF=>?_⟩
   ·have aR:j<args.length:=by omega
    have hr:=zt.rows args
    have h4:4≤args.length*4-j*4:=by omega
    have ec:=zt.at aR
    have he:List.take 4 (eU args[j])=eU args[j]:=rfl
    have hl4:(eU args[j]).length=4:=rfl
    have hz:∀ H,aY 9999 (.agg (eU args[j])) H=(.agg (eU args[j]),H):=fun H=>by simp[eU]
    have hpc:(eU args[j]).all AV.aK=true:=rfl
    simp[vo,g53,g55,aR,hr,h4,ec,he,hl4,hpc]
    simp[tV,rv,he,hl4,hz]
    refine aO.known (S.tW _ _ _) ?_
    have e2:=e1.trans (E0 h1 bM (.cells (eU args[j]) .fix))
    cases ho:xa args[j] with
    |false=>
     simp[lV,tX]
     refine hq _ _ _ ?_
     simp
     refine gH _ _ ?_ e2
     rw[List.all_eq_false]
     exact⟨_,JW aR,by simp[ho]⟩
    |true=>
     simp[lV,tY,g55]
     refine⟨args.length-(j+1),by omega,j+1,rfl,by omega,by simp[g1],by simp[g53],by simp[g54],?_,e2,?_⟩
     ·rw[au (by omega) (by omega)];simp
     ·intro x hx
      rw[zqu aR,List.mem_append,List.mem_singleton] at hx
      rcases hx with hx|rfl
      ·exact zr.1 ha x hx
      ·exact ho
   ·have aR:j=args.length:=by omega
    subst aR
    rw[List.take_length] at ha
    exact cH _ _ _ (by simp[g1]) ha e1
theorem RY{x:Ev}{R:Out→T ah→Key→Prop}{tm:T AV}{h:T ah}{nx nx0:Key}(hlen:x.args.length≤1000)(h0:nx0.toNat<nx.toNat)(f1:aa (K 1) tm=some (.ptr nx0 0))(f3:aa (K 3) tm=some (.bool (zU x.res)))(hb:aa nx0 h=some (.cells (eE x) .fix))
  (hk:0≤x.kind∧x.kind≤2) (hc:0≤x.client∧x.client≤3) (hR:∀ h' nx',Ext h nx h' nx'→R (.ret (I (if qB x=true then 0 else 1))) h' nx') :
  dz C (.seq (.seq (.ops fR) (.cond (.t (K 32)) (.seq (.seq (.ops cU) (.cond (.t (K 51)) (.seq (.ops ed) .ret) .skip)) (.seq (.seq (.ops dZ) (.block 0 (.loop eb))) (.seq (.ops im) .ret))) .skip))
   (.seq (.seq (.ops bK) (.cond (.t (K 87)) (.seq (.ops cI) .ret) .skip)) (.seq (.ops iq) .ret))) (bb [.tmp (K 2)] R) tm h nx:=by
 have rv:C.raw jJ=false:=S.nr (by decide)
 have fail:qB x=false→R (.ret (I 1)) h nx:=fun e=>by simpa[e] using hR h nx (Ext.refl _ _)
 obtain⟨kind,client,⟨nl,nc⟩,args,res⟩:=x
 have amA:args.length≤1000:=hlen
 have c0:0≤client:=hc.1
 have c3:client≤3:=hc.2
 have cy:aB args=.nils∧args=[]∨∃ l,aB args=.sl l args.length 4 .any∧args≠[]:=by
  cases args with
  |nil=>exact .inl ⟨rfl,rfl⟩
  |cons a t=>exact .inr ⟨_,rfl,by simp⟩
 have qq:kind=0∨kind=1∨kind=2:=by have:=hk.1;have:=hk.2;simp at *;omega
 have last:∀ tm2:T AV,aa (K 1) tm2=some (.ptr nx0 0)→qB ⟨kind,client,(nl,nc),args,res⟩=xa res→dz C (.seq (.ops iq) .ret) (bb [.tmp (K 2)] R) tm2 h nx:=by
  intro tm2 q1 e
  have hz:∀ H,aY 9999 (.agg (eU res)) H=(.agg (eU res),H):=fun H=>by simp[eU]
  simp
  simp[iq,q1,hb,eE,rv]
  refine aO.known (S.tW res _ _) ?_
  simp
  have:=hR h nx (Ext.refl _ _)
  rw[e] at this
  exact this
 simp only[aL,aQ] at last
 rcases qq with rfl|rfl|rfl
 ·-- a call begins
  simp[fR,f1,hb,eE]
  cases hz:zU res with
  |false=>
   rw[hz] at f3
   simp[cU,f1,f3,hb,eE,ed]
   exact fail (by unfold qB;simp[hz])
  |true=>
   rw[hz] at f3
   by_cases hn:nl=0∧nc=0
   ·simp[cU,f1,f3,hb,eE,hn,ed]
    exact fail (by unfold qB;simp[hn])
   ·by_cases hl:16<nl
    ·have Kb:(16:Int)<nl:=by omega
     simp[cU,f1,f3,hb,eE,hn,hl,Kb,ed]
     exact fail (by unfold qB;simp;omega)
    ·have Kb:¬ (16:Int)<nl:=by omega
     have go:∀ (Q:cX) (tm2:T AV),args.length≤16→aa (K 1) tm2=some (.ptr nx0 0)→(∀ an h' nx',bb [.tmp (K 2)] R .ret an h' nx'→Q .ret an h' nx')→dz C (.seq (.seq (.ops dZ) (.block 0 (.loop eb))) (.seq (.ops im) .ret)) Q tm2 h nx:=by
      intro Q tm2 ha q1 hq
      have eok:=ar7 (client:=client) hz hn (by omega) ha c0 c3
      rw[aL]
      refine RX S (x:=⟨0,client,(nl,nc),args,res⟩) (R:=R) hlen h0 q1 hb ?_ ?_ ?_
      ·intro h' nx' e1 e2
       have:=hR h' nx' e2
       rw[eok,e1] at this
       exact this
      ·intro an h' nx' q e1 e2
       simp
       simp[im]
       refine hq _ _ _ ?_
       simp
       have:=hR h' nx' e2
       rw[eok,e1] at this
       exact this
      ·intro an h' nx' q
       exact hq _ _ _ q
     simp only[aL,aQ] at go
     rcases cy with⟨ea,rfl⟩|⟨l,ea,bI⟩
     ·simp[cU,f1,f3,hb,eE,hn,hl,Kb,ea]
      refine go _ _ (by simp) ?_ (fun _ _ _ q=>q)
      simp[f1]
     ·by_cases ha:16<args.length
      ·have KZ:(16:Int)<args.length:=by omega
       simp[cU,f1,f3,hb,eE,hn,hl,Kb,ea,ha,KZ,ed]
       exact fail (by unfold qB;simp;omega)
      ·have KZ:¬ (16:Int)<args.length:=by omega
       simp[cU,f1,f3,hb,eE,hn,hl,Kb,ea,ha,KZ]
       refine go _ _ (by omega) ?_ (fun _ _ _ q=>q)
       simp[f1]
 ·-- a call ends
  simp[fR,f1,hb,eE]
  by_cases hn:nl=0∧nc=0
  ·obtain⟨rfl,rfl⟩:=hn
   rcases cy with⟨ea,rfl⟩|⟨l,ea,bI⟩
   ·simp[bK,f1,f3,hb,eE,ea]
    refine last _ ?_ (axV c0 c3)
    simp[f1]
   ·simp[bK,f1,f3,hb,eE,ea,List.length_pos_iff.2 bI,cI]
    exact fail (by unfold qB;simp[bI])
  ·simp[bK,f1,f3,hb,eE,hn,cI]
   exact fail (by unfold qB;simp;intros;omega)
 ·-- a axW
  simp[fR,f1,hb,eE]
  by_cases hn:nl=0∧nc=0
  ·obtain⟨rfl,rfl⟩:=hn
   rcases cy with⟨ea,rfl⟩|⟨l,ea,bI⟩
   ·by_cases hcl:client=0
    ·subst hcl
     cases hz:zU res with
     |false=>
      rw[hz] at f3
      simp[bK,f1,f3,hb,eE,ea,cI]
      exact fail (by rw[amB,hz])
     |true=>
      rw[hz] at f3
      simp[bK,f1,f3,hb,eE,ea]
      refine last _ ?_ (by rw[amB,hz,ar8 hz])
      simp[f1]
    ·simp[bK,f1,f3,hb,eE,ea,bq hcl,cI]
     exact fail (by unfold qB;simp[hcl])
   ·simp[bK,f1,f3,hb,eE,ea,List.length_pos_iff.2 bI,cI]
    exact fail (by unfold qB;simp[bI])
  ·simp[bK,f1,f3,hb,eE,hn,cI]
   exact fail (by unfold qB;simp;intros;omega)
theorem ajr(x:Ev)(hlen:x.args.length≤1000):Tv C gQ [.agg (eE x)] (·=.ret (I (if qB x=true then 0 else 1))):=by
 intro h nx
 have s1:=kTSu nx
 have rc:C.raw oq=false:=S.nr (by decide)
 have ac:=bc x.args
 refine S.xb.call ?_
 simp[tZ]
 simp[vp,eE,ac.1]
 have hb1:aa nx (av nx (some (.cells (eE x) .fix)) h)=some (.cells (eE x) .fix):=by simp
 have he:=E0 h nx (.cells (eE x) .fix)
 have hcz:(FE ⟨x.res.k,x.res.n,[]⟩ ⟨0,0,[]⟩==0)=zU x.res:=by
  rw[Bool.eq_iff_iff,beq_iff_eq];exact ar6 _
 unfold eE at hb1 he
 simp[vq,rc]
 refine aO.known (S.xc ⟨x.res.k,x.res.n,[]⟩ ⟨0,0,[]⟩ (by simp) (by simp) _ _) ?_
 simp[hcz]
 by_cases hk:x.kind<0
 ·simp[ef,hk,fS,vr (x:=x) (by omega)]
  exact he
 by_cases Qg:2<x.kind
 ·simp[ef,hk,Qg,fS,vr (x:=x) (by omega)]
  exact he
 by_cases hc:x.client<0
 ·simp[ef,hk,Qg,hc,fS,vr (x:=x) (by omega)]
  exact he
 by_cases hc2:3<x.client
 ·have hc3:¬ x.client<4:=by omega
  simp[ef,hk,Qg,hc,hc3,fS,vr (x:=x) (by omega)]
  exact he
 have hc3:x.client<4:=by omega
 simp[ef,hk,Qg,hc,hc3]
 have key:=fun tm2 g1 g3=>RY S (x:=x) (nx0:=nx) (nx:=nx.succ) (h:=av nx (some (.cells (eE x) .fix)) h) (tm:=tm2) (R:=fun o h' nx'=>o=.ret (I (if qB x=true then 0 else 1))∧Ext h nx h' nx') hlen (by omega) g1 g3 hb1 (by omega) (by omega) (fun h' nx' e=>⟨rfl,he.trans e⟩)
 simp only[aL,aQ] at key
 refine key _ ?_ ?_<;>simp
end Ln
/-
 LN: rows that are written in place. No condition.
-/
namespace Go.Sx
open Go
section
variable{α:Type}{z:Nat}{enc:α→List AV}
theorem Flat.parts(F:Flat z enc){l:List α}{j:Nat}(hj:j<l.length):ai enc l=ai enc (l.take j)++(enc l[j]++ai enc (l.drop (j+1))):=by
 conv=>lhs;rw[← List.take_append_drop j l,zqt hj]
 rw[mv,ek]
theorem Flat.HC(F:Flat z enc){l:List α}{j off:Nat}{vs:List AV}{y:α}(hj:j<l.length)(ho:off+vs.length≤z)(hy:enc y=(enc l[j]).take off++(vs++(enc l[j]).drop (off+vs.length))) :
  (ai enc l).take (j*z+off)++(vs++(ai enc l).drop (j*z+off+vs.length))=ai enc (l.set j y):=by
 have ht:(l.take j).length=j:=by simp;omega
 have hr:(ai enc (l.take j)).length=j*z:=by rw[F.rows,ht]
 have hz:(enc l[j]).length=z:=F.len _
 rw[List.set_eq_take_append_cons_drop,if_pos hj,mv,ek,hy,F.parts hj]
 have h1:List.take (j*z+off) (ai enc (l.take j))=ai enc (l.take j):=P8 (by rw[hr];omega)
 have h2:List.drop (j*z+off+vs.length) (ai enc (l.take j))=[]:=List.drop_eq_nil_of_le (by rw[hr];omega)
 rw[zqw,zqq,hr,h1,h2]
 rw[show j*z+off-j*z=off by omega,show j*z+off+vs.length-j*z=off+vs.length by omega]
 rw[List.take_append_of_le_length (by omega),List.drop_append_of_le_length (by omega)]
 simp
theorem Flat.put(F:Flat z enc){l:List α}{j:Nat}(hj:j<l.length)(y:α):(ai enc l).take (j*z)++(enc y++(ai enc l).drop (j*z+z))=ai enc (l.set j y):=by
 have h1:=F.len y
 have:=F.HC (off:=0) (vs:=enc y) (y:=y) hj (by omega) (by rw[List.take_zero,List.drop_eq_nil_of_le (by rw[F.len];omega)];simp)
 rw[h1] at this
 exact this
end
end Go.Sx
/-
 LN: one event of the pass over a history. No condition.
-/
namespace Ln
open Go.Sx Go
def Jw(res:List RV)(R:Out→T ah→Key→Prop):cX:=fun e tm h nx=>match e with
 |.norm|.ret=>∃ l,resultsA h tm res=some l∧R (.ret (mP l)) h nx
 |.pan a=>R (.pan a) h nx
 |.exit _=>False
@[simp] theorem aCv(res:List RV)(R:Out→T ah→Key→Prop)(tm:T AV)(h:T ah)(nx:Key):Jw res R .ret tm h nx=∃ l,resultsA h tm res=some l∧R (.ret (mP l)) h nx:=Ig Iff.rfl
@[simp] theorem aAB(res:List RV)(R:Out→T ah→Key→Prop)(tm:T AV)(h:T ah)(nx:Key):Jw res R .norm tm h nx=∃ l,resultsA h tm res=some l∧R (.ret (mP l)) h nx:=Ig Iff.rfl
theorem FnR.call{C:dm}{f:Nat}{p:fO}(S:FnR C f p){l:List AV}{h:T ah}{nx:Key}{R:Out→T ah→Key→Prop}(hw:dz C p.body (Jw p.res R) (gI l (K 0) .nil) h nx):aO C f l h nx R:=by
 refine aO.of_wp (S.off _ _ _) S.get ?_
 have e:xG C f p.res R=Jw p.res R:=by
  funext e tm h nx
  cases e<;>simp only[xG,Jw,S.mN]<;>rfl
 rw[e]
 exact hw
def Uy(c:AV)(os:List Op)(h:T ah)(nx n0:Key):Prop:=(c=.nils∧os=[])∨∃ b:Key,c=.slice b 0 os.length 10∧aa b h=some (.cells (ai eO os) .part)∧n0.toNat≤b.toNat∧b.toNat<nx.toNat
theorem Uy.ext{c:AV}{os:List Op}{h h':T ah}{nx nx' n0:Key}(g:Uy c os h nx n0)(e:Ext h nx h' nx'):Uy c os h' nx' n0:=by
 rcases g with g|⟨b,h1,h2,h3,h4⟩
 ·exact .inl g
 ·exact .inr ⟨b,h1,by rw[e.g b h4];exact h2,h3,by have:=e.n;omega⟩
theorem Uy.ne{c:AV}{os:List Op}{h h':T ah}{nx nx' n0 k:Key}(g:Uy c os h nx n0)(hn:nx.toNat≤nx'.toNat)(hk:∀ l,aa k h≠some (.cells l .part))(e:∀ b:Key,b.toNat<nx.toNat→b≠k→aa b h'=aa b h):Uy c os h' nx' n0:=by
 rcases g with g|⟨b,h1,h2,h3,h4⟩
 ·exact .inl g
 ·exact .inr ⟨b,h1,by rw[e b h4 (fun q=>by subst q;exact hk _ h2)];exact h2,h3,by omega⟩
theorem Uy.add{c:AV}{os:List Op}{h:T ah}{nx n0:Key}(g:Uy c os h nx n0)(h0:n0.toNat≤nx.toNat)(hl:os.length≤1000)(y:Op) :
  ∃ c' h' nx',appendTo 10 c (eO y) 1 h nx=.val c' h' nx'∧Uy c' (os ++ [y]) h' nx' n0∧nx.toNat≤nx'.toNat∧(∀ b:Key,b.toNat<n0.toNat→aa b h'=aa b h)∧∀ b:Key,b.toNat<nx.toNat→(∀ l,aa b h≠some (.cells l .part))→aa b h'=aa b h:=by
 have s1:=kTSu nx
 have hc:(eO y).all AV.aK=true:=zr.2 (cG.cell y)
 rcases g with⟨rfl,rfl⟩|⟨b,rfl,h2,h3,h4⟩
 ·exact⟨.slice nx 0 1 10,av nx (some (.cells (eO y) .part)) h,nx.succ,by simp,.inr ⟨nx,rfl,by simp[ou],h0,by omega⟩,by omega,fun b hb=>az (by omega),fun b hb _=>az hb⟩
 ·have hr:=cG.rows os
  have Kb:os.length+1≤1048576:=by omega
  refine⟨.slice nx 0 (os.length+1) 10,av nx (some (.cells (ai eO os++eO y) .part)) (av b none h),nx.succ,?_,.inr ⟨nx,by simp,by rw[mv,ou];simp,h0,by omega⟩,by omega,fun x hx=>?_,fun x hx hk=>?_⟩
  ·simp[Kb,hc,h2,hr,BD]
  ·rw[az (by omega),az (by omega)]
  ·rw[az hx,bZ]
   rintro rfl
   exact hk _ h2
def C5(s:Sc):List AV:=[I s.o0,I s.o1,I s.o2,I s.o3]
theorem GM(s:Sc):(C5 s).length=4:=rfl
theorem Le(s:Sc){c:Nat}(h:c<4):(C5 s)[c]?=some (I (s.op c)):=by
 have:c=0∨c=1∨c=2∨c=3:=by omega
 rcases this with rfl|rfl|rfl|rfl<;>simp[C5,Sc.op]
theorem R5(s:Sc){c:Nat}(h:c<4)(v:Int):List.take c (C5 s)++I v ::List.drop (c+1) (C5 s)=C5 (s.set c v):=by
 have:c=0∨c=1∨c=2∨c=3:=by omega
 rcases this with rfl|rfl|rfl|rfl<;>simp[C5,Sc.set]
abbrev Ia:aG:=(.block 4 (.seq (.ops gR)
 (.cond (.t (K 53))
 (.seq (.seq (.ops kh)
 (.cond (.t (K 56))
 (.seq (.ops oW)
 .ret)
 .skip))
 (.seq (.ops ki)
 (.ops kj)))
 (.seq (.ops ke)
 (.cond (.t (K 73))
 (.seq (.seq (.ops kl)
 (.cond (.t (K 76))
 (.seq (.ops oY)
 .ret)
 .skip))
 (.seq (.staged o7 ⟨[K 77,K 78,K 79,K 80,K 81,K 82,K 83,K 84,K 85,K 86,K 87],[]⟩)
 (.ops o9)))
 (.seq (.ops oD)
 (.cond (.t (K 91))
 (.seq (.ops oG)
 (.block 5 (.loop qS)))
 .skip)))))))
structure At(l:List Ev)(s:Sc)(i:Nat)(bo n0:Key)(tm:T AV)(h:T ah)(nx:Key):Prop where
 g8:aa (K 8) tm=some (.ptr bo 0)
 g35:aa (K 35) tm=some (.sl (ai eE l) l.length 8 .any)
 g36:aa (K 36) tm=some (I l.length)
 g37:aa (K 37) tm=some (I i)
 gro:∃ c,aa (K 7) tm=some c∧Uy c s.ops h nx n0
 C5:aa bo h=some (.cells (C5 s) .fix)
 bo0:n0.toNat≤bo.toNat
 bo1:bo.toNat<nx.toNat
variable{C:dm}
theorem asO{l:List Ev}{s:Sc}{i:Nat}{bo n0 nb:Key}{x:Ev}{Q:cX}{tm:T AV}{h:T ah}{nx:Key}(A:At l s i bo n0 tm h nx)(hx:qB x=true)(hk:x.kind=0)(hl:s.ops.length≤1000)(bI:bo≠nb)(hnb:nb.toNat<nx.toNat)
  (g9:aa (K 9) tm=some (I i)) (yW:aa (K 10) tm=some (.ptr nb 0)) (gb:aa nb h=some (.cells (eE x) .fix)) (Jx:aa (K 12) tm=some (I (s.op x.client))) (g52:aa (K 52) tm=some (I x.kind))
  (gH:∀ an,qt s x=2→aa (K 2) an=some .nils→aa (K 3) an=some (I 20)→Q .ret an h nx)
  (cH:∀ an h' nx',qt s x=0→At l (iO i s x) i bo n0 an h' nx'→(∀ b:Key,b.toNat<n0.toNat→aa b h'=aa b h)→nx.toNat≤nx'.toNat→Q .norm an h' nx') :
  dz C Ia Q tm h nx:=by
 have Og:=hx
 unfold qB at Og
 rw[decide_eq_true_eq] at Og
 obtain⟨_,_,c0,c3,_⟩:=Og
 obtain⟨g8,g35,g36,g37,⟨c7,g7,gro⟩,go,bo0,bo1⟩:=A
 have hb:qt s x=if 0≤s.op x.client then 2 else 0:=by unfold qt;rw[hx];simp[hk]
 obtain⟨kind,client,⟨nl,nc⟩,args,res⟩:=x
 have hk:kind=0:=hk
 subst hk
 obtain⟨c,rfl⟩:=Int.eq_ofNat_of_zero_le c0
 have hc4:c<4:=by have:((c:Nat):Int)≤3:=c3;omega
 have hg:=Le s hc4
 have hp:=fun v=>R5 s hc4 v
 have ol:=GM s
 have hc3:c≤3:=by omega
 simp
 simp[gR,g52]
 by_cases ho:s.op c<0
 ·have IU:qt s ⟨0,c,(nl,nc),args,res⟩=0:=by rw[hb,if_neg];simpa using ho
  simp[kh,Jx,ho]
  have TK:∀ ls,aa bo h≠some (.cells ls .part):=fun ls e=>by rw[go] at e;cases e
  have ac:=bc args
  have af:∀ n H,aY n (aB args) H=(aB args,H):=dB args
  have s1:=kTSu nx
  -- the row of the open calls is written first
  have aD5:Uy c7 s.ops (av bo (some (.cells (C5 (s.set c s.ops.length)) .fix)) h) nx n0:=gro.ne (fe _) TK (fun b _ hb=>bZ _ _ _ _ hb)
  have go1:aa bo (av bo (some (.cells (C5 (s.set c s.ops.length)) .fix)) h)=some (.cells (C5 (s.set c s.ops.length)) .fix):=by simp
  have gb1:aa nb (av bo (some (.cells (C5 (s.set c s.ops.length)) .fix)) h)=some (.cells (eE ⟨0,c,(nl,nc),args,res⟩) .fix):=by rw[bZ _ _ _ _ (Ne.symm bI)];exact gb
  have ayl:∀ b:Key,b.toNat<n0.toNat→aa b (av bo (some (.cells (C5 (s.set c s.ops.length)) .fix)) h)=aa b h:=fun b hb=>az (by omega)
  have fin:∀ tm2:T AV,(∀ k:Key,k=K 7∨k=K 8∨k=K 9∨k=K 10∨k=K 35∨k=K 36∨k=K 37→aa k tm2=aa k tm)→mF C (ak 4 Q) kj tm2 (av bo (some (.cells (C5 (s.set c s.ops.length)) .fix)) h) nx:=by
   intro tm2 q
   have q7:=(q (K 7) (by simp)).trans g7
   have q8:=(q (K 8) (by simp)).trans g8
   have q9:=(q (K 9) (by simp)).trans g9
   have A9:=(q (K 10) (by simp)).trans yW
   generalize av bo (some (.cells (C5 (s.set c s.ops.length)) .fix)) h=h1 at aD5 go1 gb1 ayl ⊢
   have asq:=aD5.ext (E0 h1 nx (.cells (eO (w7 i ⟨0,c,(nl,nc),args,res⟩)) .fix))
   obtain⟨c',h',nx',ga,aJ4,n3,aJ5,aD6⟩:=asq.add (by omega) hl (w7 i ⟨0,c,(nl,nc),args,res⟩)
   have ey:eO (w7 i ⟨0,c,(nl,nc),args,res⟩)=[I c,I i,I (-1),I (-1),.str nl nc,aB args,I 0,I 0,.str 0 0,.nils]:=rfl
   rw[ey] at ga
   simp[-appendTo,kj,q7,q9,A9,gb1,eE,ac.1,ac.2,af,ga]
   have hn:iO i s ⟨0,c,(nl,nc),args,res⟩={s.set c s.ops.length with ops:=s.ops ++ [w7 i ⟨0,c,(nl,nc),args,res⟩]}:=by unfold iO;simp
   refine cH _ _ _ IU ⟨by simp[q8],?_,?_,?_,⟨c',by simp,?_⟩,?_,bo0,by omega⟩ ?_ (by omega)
   ·simp;exact(q (K 35) (by simp)).trans g35
   ·simp;exact(q (K 36) (by simp)).trans g36
   ·simp;exact(q (K 37) (by simp)).trans g37
   ·rw[hn];exact aJ4
   ·rw[hn,aD6 bo (by omega) (fun ls e=>by rw[az bo1,go1] at e;cases e),az bo1,go1]
    rfl
   ·intro b fb
    rw[aJ5 b fb,az (by omega),ayl b fb]
  rcases gro with⟨e7,eo⟩|⟨b7,e7,hb7,_,avJ⟩
  ·rw[e7] at g7
   have e0:s.ops.length=0:=by simp[eo]
   rw[e0] at fin
   have hp0:=hp 0
   simp[ki,g7,g8,yW,gb,eE,go,ol,hc4,hp0,hg,hc3]
   refine fin _ ?_
   rintro k (rfl|rfl|rfl|rfl|rfl|rfl|rfl)<;>simp[g7]
  ·rw[e7] at g7
   have hp0:=hp s.ops.length
   simp[ki,g7,g8,yW,gb,eE,go,ol,hc4,hp0,hg,hc3]
   refine fin _ ?_
   rintro k (rfl|rfl|rfl|rfl|rfl|rfl|rfl)<;>simp[g7]
 ·have IU:qt s ⟨0,c,(nl,nc),args,res⟩=2:=by rw[hb,if_pos];simpa using ho
  simp[kh,Jx,ho]
  simp[oW]
  refine gH _ IU ?_ ?_<;>simp
theorem aAC{l:List Ev}{s:Sc}{i:Nat}{bo n0 nb:Key}{x:Ev}{Q:cX}{tm:T AV}{h:T ah}{nx:Key}(A:At l s i bo n0 tm h nx)(hx:qB x=true)(hk:x.kind=1)(sC:s.op x.client<s.ops.length)(bI:bo≠nb)(hnb:nb.toNat<nx.toNat)
  (g9:aa (K 9) tm=some (I i)) (yW:aa (K 10) tm=some (.ptr nb 0)) (gb:aa nb h=some (.cells (eE x) .fix)) (Jx:aa (K 12) tm=some (I (s.op x.client))) (g52:aa (K 52) tm=some (I x.kind))
  (gH:∀ an,qt s x=3→aa (K 2) an=some .nils→aa (K 3) an=some (I 25)→Q .ret an h nx)
  (cH:∀ an h' nx',qt s x=0→At l (iO i s x) i bo n0 an h' nx'→(∀ b:Key,b.toNat<n0.toNat→aa b h'=aa b h)→nx.toNat≤nx'.toNat→Q .norm an h' nx') :
  dz C Ia Q tm h nx:=by
 have Og:=hx
 unfold qB at Og
 rw[decide_eq_true_eq] at Og
 obtain⟨_,_,c0,c3,_⟩:=Og
 obtain⟨g8,g35,g36,g37,⟨c7,g7,gro⟩,go,bo0,bo1⟩:=A
 have hb:qt s x=if s.op x.client<0 then 3 else 0:=by unfold qt;rw[hx];simp[hk]
 obtain⟨kind,client,⟨nl,nc⟩,args,res⟩:=x
 have hk:kind=1:=hk
 subst hk
 obtain⟨c,rfl⟩:=Int.eq_ofNat_of_zero_le c0
 have hc4:c<4:=by have:((c:Nat):Int)≤3:=c3;omega
 have hg:=Le s hc4
 have hp:=fun v=>R5 s hc4 v
 have ol:=GM s
 have hc3:c≤3:=by omega
 simp
 simp[gR,g52]
 simp[ke,g52]
 by_cases ho:s.op c<0
 ·have IU:qt s ⟨1,c,(nl,nc),args,res⟩=3:=by rw[hb,if_pos];simpa using ho
  simp[kl,Jx,ho]
  simp[oY]
  refine gH _ IU ?_ ?_<;>simp
 ·have IU:qt s ⟨1,c,(nl,nc),args,res⟩=0:=by rw[hb,if_neg];simpa using ho
  simp[kl,Jx,ho]
  have sC:s.op c<s.ops.length:=sC
  obtain⟨a,ha⟩:=Int.eq_ofNat_of_zero_le (show 0≤s.op c by omega)
  have hal:a<s.ops.length:=by omega
  rcases gro with⟨e7,eo⟩|⟨b7,e7,hb7,azN,avJ⟩
  ·rw[eo] at hal;simp at hal
  ·rw[e7] at g7
   have avK:b7≠bo:=by rintro rfl;rw[go] at hb7;simp at hb7
   have aJ6:b7≠nb:=by rintro rfl;rw[gb] at hb7;simp at hb7
   have hr:=cG.rows s.ops
   have p1:=cG.HC (l:=s.ops) (j:=a) (off:=2) (vs:=[I i]) (y:={s.ops[a] with e:=i}) hal (by simp) rfl
   have aJ7:a<(s.ops.set a {s.ops[a] with e:=i}).length:=by simpa using hal
   have RW:=cG.rows (s.ops.set a {s.ops[a] with e:=i})
   have p2:=cG.HC (l:=s.ops.set a {s.ops[a] with e:=i}) (j:=a) (off:=6) (vs:=eU res) (y:={s.ops[a] with e:=i,res:=res}) aJ7 (by simp[eU]) (by simp[eO,eU])
   simp[eU] at p1 p2 RW
   rw[ha] at Jx
   have hb1:a*10+2<s.ops.length*10:=by omega
   have A8:a*10+2+1≤s.ops.length*10:=by omega
   have Rx:a*10+6+4≤s.ops.length*10:=by omega
   have gnb:∀ B,aa nb (av b7 B h)=some (.cells (eE ⟨1,c,(nl,nc),args,res⟩) .fix):=fun B=>by rw[bZ _ _ _ _ (Ne.symm aJ6)];exact gb
   have gbo:∀ B,aa bo (av b7 B h)=some (.cells (C5 s) .fix):=fun B=>by rw[bZ _ _ _ _ (Ne.symm avK)];exact go
   have hbr:AV.beq (.agg [I res.k,I res.n,.str 0 0,.nils]) (.agg [I res.k,I res.n,.str 0 0,.nils])=true:=beq_refl _ rfl
   simp[o7,g7,g9,yW,Jx,gb,eE,hal,hb7,hr,RW,A8,Rx,p1,p2,gnb,hbr]
   have hp1:=hp (-1)
   simp[o9,g8,yW,gnb,gbo,eE,ol,hc4,hp1,hc3]
   have hn:iO i s ⟨1,c,(nl,nc),args,res⟩={s.set c (-1) with ops:=s.ops.modify a fun o=>{o with e:=i,res:=res}}:=by unfold iO;simp[ha]
   have hm:s.ops.modify a (fun o=>{o with e:=(i:Int),res:=res})=s.ops.set a {s.ops[a] with e:=i,res:=res}:=by
    apply List.ext_getElem?
    intro q
    rw[List.getElem?_modify,List.getElem?_set]
    by_cases hq:a=q
    ·subst hq;simp[hal]
    ·simp[hq]
   refine cH _ _ _ IU ⟨by simp[g8],by simp[g35],by simp[g36],by simp[g37],⟨.slice b7 0 s.ops.length 10,by simp[g7],.inr ⟨b7,?_,?_,azN,avJ⟩⟩,?_,bo0,bo1⟩ ?_ (fe _)
   ·rw[hn];simp
   ·rw[hn]
    show aa b7 _=some (ah.cells (ai eO (s.ops.modify a _)) CK.part)
    rw[hm,bZ _ _ _ _ avK]
    simp
   ·rw[hn];simp;rfl
   ·intro b fb
    rw[az (by omega),az (by omega)]
end Ln
/-
 LN: a crash in the pass over a history. No condition.
-/
namespace Ln
open Go.Sx Go
def uj(i:Nat)(s:Sc):Nat→List Op
 |0=>s.ops
 |j+1=>kQ i (s.op j) (uj i s j)
def clr(s:Sc):Nat→Sc
 |0=>s
 |j+1=>(clr s j).set j (-1)
theorem Ux(i:Nat)(v:Int)(l:List Op):(kQ i v l).length=l.length:=by unfold kQ;split<;>simp
theorem Qr(i:Nat)(s:Sc):∀ j,(uj i s j).length=s.ops.length
 |0=>rfl
 |j+1=>by
  show(kQ i (s.op j) (uj i s j)).length=_
  rw[Ux,Qr i s j]
theorem asm{i a:Nat}{v:Int}{l:List Op}(hv:v=a)(ha:a<l.length):kQ i v l=l.set a {l[a] with lost:=i}:=by
 subst hv
 unfold kQ
 rw[if_pos (by omega)]
 apply List.ext_getElem?
 intro q
 rw[List.getElem?_modify,List.getElem?_set]
 by_cases hq:a=q
 ·subst hq;simp[ha]
 ·simp[hq]
theorem avH{i:Nat}{v:Int}{l:List Op}(hv:v<0):kQ i v l=l:=by unfold kQ;rw[if_neg (by omega)]
def SwI(l:List Ev)(s:Sc)(i:Nat)(bo n0:Key)(h:T ah)(nx:Key)(c7:AV)(m:Nat)(an:T AV)(h':T ah)(nx':Key):Prop:=∃ j:Nat,m=4-j∧j≤4∧nx'=nx∧
 aa (K 7) an=some c7∧aa (K 8) an=some (.ptr bo 0)∧aa (K 9) an=some (I i)∧aa (K 35) an=some (.sl (ai eE l) l.length 8 .any)∧aa (K 36) an=some (I l.length)∧aa (K 37) an=some (I i)∧
 aa (K 93) an=some (.agg (C5 s))∧aa (K 94) an=some (I j)∧Uy c7 (uj i s j) h' nx n0∧aa bo h'=some (.cells (C5 (clr s j)) .fix)∧(∀ b:Key,b.toNat<n0.toNat→aa b h'=aa b h)
variable{C:dm}
theorem asn{l:List Ev}{s:Sc}{i:Nat}{bo n0:Key}{x:Ev}{Q:cX}{tm:T AV}{h:T ah}{nx:Key}(A:At l s i bo n0 tm h nx)(hx:qB x=true)(hk:x.kind=2)(sC:∀ c,0≤c→c≤3→s.op c<s.ops.length)(hl:s.ops.length≤1000)
  (g9:aa (K 9) tm=some (I i)) (g52:aa (K 52) tm=some (I x.kind))
  (cH:∀ an h' nx',qt s x=0→At l (iO i s x) i bo n0 an h' nx'→(∀ b:Key,b.toNat<n0.toNat→aa b h'=aa b h)→nx.toNat≤nx'.toNat→Q .norm an h' nx') :
  dz C Ia Q tm h nx:=by
 obtain⟨g8,g35,g36,g37,⟨c7,g7,gro⟩,go,bo0,bo1⟩:=A
 have IU:qt s x=0:=by unfold qt;rw[hx];simp[hk]
 have hn:iO i s x=⟨kQ i s.o3 (kQ i s.o2 (kQ i s.o1 (kQ i s.o0 s.ops))),-1,-1,-1,-1⟩:=by unfold iO;simp[hk]
 rw[hk] at g52
 simp
 simp[gR,g52]
 simp[ke,g52]
 simp[oD,g52]
 have ol:=GM s
 have ot:List.take 4 (C5 s)=C5 s:=rfl
 have oz:∀ H,aY 9999 (.agg (C5 s)) H=(.agg (C5 s),H):=fun H=>by simp[C5]
 simp[oG,g8,go,ol,ot,oz]
 refine W.di (n:=4) (SwI l s i bo n0 h nx c7) ?_ ?_
 ·refine⟨0,rfl,by omega,rfl,?_,?_,?_,?_,?_,?_,?_,?_,gro,go,fun _ _=>rfl⟩<;>simp[*]
 ·rintro m cu h1 bM ⟨j,rfl,hj,rfl,g7,g8,g9,g35,g36,g37,g93,g94,gro,go,ap0⟩
  refine W.of ?_
  simp[qS]
  simp[xo,g94]
  refine⟨fun bN=>?_,fun TF=>?_⟩
  ·have hj4:j<4:=by omega
   have hj3:j≤3:=by omega
   have hg:=Le s hj4
   have hp:=R5 (clr s j) hj4 (-1)
   have ol2:=GM (clr s j)
   have hjb:=sC j (by omega) (by omega)
   have hlen:=Qr i s j
   simp[xp,g93,g94,hj4,hg]
   have fin:∀ (tm2:T AV) (h2:T ah),(∀ k:Key,k=K 7∨k=K 8∨k=K 9∨k=K 35∨k=K 36∨k=K 37∨k=K 93∨k=K 94→aa k tm2=aa k cu)→aa (K 13) tm2=some (I j)→Uy c7 (uj i s (j+1)) h2 bM n0→aa bo h2=some (.cells (C5 (clr s j)) .fix)→(∀ b:Key,b.toNat<n0.toNat→aa b h2=aa b h)→
     mF C (ak 6 (aq (dz C (.ops oH) (aq (fun tm h' nx=>∃ m,m<4-j∧SwI l s i bo n0 h bM c7 m tm h' nx) (ak 5 (ak 4 Q)))) (aq (fun tm h' nx=>∃ m,m<4-j∧SwI l s i bo n0 h bM c7 m tm h' nx) (ak 5 (ak 4 Q))))) oK tm2 h2 bM:=by
    intro tm2 h2 q q13 asq go2 aIC
    have q7:=(q (K 7) (by simp)).trans g7
    have q8:=(q (K 8) (by simp)).trans g8
    have q9:=(q (K 9) (by simp)).trans g9
    have q35:=(q (K 35) (by simp)).trans g35
    have q36:=(q (K 36) (by simp)).trans g36
    have q37:=(q (K 37) (by simp)).trans g37
    have q93:=(q (K 93) (by simp)).trans g93
    have q94:=(q (K 94) (by simp)).trans g94
    simp[oK,q13,q8,go2,hj4,hj3,ol2,hp]
    simp[oH,q94]
    rw[au (by omega) (by omega)]
    refine⟨4-(j+1),by omega,j+1,rfl,by omega,rfl,by simp[q7],by simp[q8],by simp[q9],by simp[q35],by simp[q36],by simp[q37],by simp[q93],by simp,?_,by simp[clr],fun b hb=>?_⟩
    ·exact asq.ne (fe _) (fun ls e=>by rw[go2] at e;simp at e) (fun b _ hb=>bZ _ _ _ _ hb)
    ·rw[az (by omega)];exact aIC b hb
   by_cases ho:s.op j<0
   ·simp[oO,ho]
    refine fin _ h1 ?_ ?_ ?_ go ap0
    ·rintro k (rfl|rfl|rfl|rfl|rfl|rfl|rfl|rfl)<;>simp
    ·simp
    ·show Uy c7 (kQ i (s.op j) (uj i s j)) h1 bM n0
     rw[avH ho];exact gro
   ·obtain⟨a,ha⟩:=Int.eq_ofNat_of_zero_le (show 0≤s.op j by omega)
    have hal:a<(uj i s j).length:=by omega
    have ho2:¬ (a:Int)<0:=by omega
    rcases gro with⟨e7,eo⟩|⟨b7,e7,hb7,azN,avJ⟩
    ·rw[eo] at hal;simp at hal
    ·have g7':=g7
     rw[e7] at g7
     have avK:b7≠bo:=by rintro rfl;rw[go] at hb7;simp at hb7
     have hr:=cG.rows (uj i s j)
     have p1:=cG.HC (l:=uj i s j) (j:=a) (off:=3) (vs:=[I i]) (y:={(uj i s j)[a] with lost:=i}) hal (by simp) rfl
     simp at p1
     have A8:a*10+3+1≤(uj i s j).length*10:=by omega
     simp[oO,ha,ho2]
     simp[xq,g7,g9,hal,hb7,hr,A8,p1]
     refine fin _ _ ?_ ?_ ?_ ?_ ?_
     ·rintro k (rfl|rfl|rfl|rfl|rfl|rfl|rfl|rfl)<;>simp[g7]
     ·simp
     ·refine .inr ⟨b7,by rw[e7];simp[uj,Ux],?_,azN,avJ⟩
      show _=some (ah.cells (ai eO (kQ i (s.op j) (uj i s j))) CK.part)
      rw[asm ha hal];simp
     ·rw[bZ _ _ _ _ (Ne.symm avK)];exact go
     ·intro b hb
      rw[az (by omega)];exact ap0 b hb
  ·have:j=4:=by omega
   subst this
   refine cH _ _ _ IU ⟨by simp[g8],by simp[g35],by simp[g36],by simp[g37],⟨c7,by simp[g7],?_⟩,?_,bo0,bo1⟩ ap0 (fe _)
   ·rw[hn]
    have:uj i s 4=kQ i s.o3 (kQ i s.o2 (kQ i s.o1 (kQ i s.o0 s.ops))):=by simp[uj,Sc.op]
    rw[this] at gro;exact gro
   ·rw[hn,go]
    simp[clr,Sc.set,C5]
end Ln
/-
 LN: the pass over a history. No condition.
-/
namespace Ln
open Go.Sx Go
def sc0:Sc:=⟨[],-1,-1,-1,-1⟩
theorem kp0:Kp [] sc0:=by
 refine⟨rfl,?_,?_,?_,?_⟩
 ·intro c a b;unfold sc0 Sc.op jq;repeat' split<;>simp
 ·intro c _;unfold sc0 Sc.op;simp
 ·intro c a b h;unfold sc0 Sc.op at h;simp at h
 ·intro j o h;simp[sc0] at h
theorem Kp.lt{p:List Ev}{s:Sc}(h:Kp p s):∀ c,0≤c→c≤3→s.op c<s.ops.length:=by
 intro c a b
 by_cases h0:0≤s.op c
 ·obtain⟨o,h1,_⟩:=h.here c a b h0
  have:=(List.getElem?_eq_some_iff.1 h1).1
  omega
 ·omega
def ScI(l:List Ev)(bo:Key)(h:T ah)(nx:Key)(m:Nat)(an:T AV)(h':T ah)(nx':Key):Prop:=∃ (i:Nat) (s:Sc),m=l.length-i∧i≤l.length∧At l s i bo nx an h' nx'∧Kp (l.take i).reverse s∧scan 0 sc0 l=scan i s (l.drop i)∧Ext h nx h' nx'
def ayE(l:List Ev)(h:T ah)(nx:Key)(o:Out)(h':T ah)(nx':Key):Prop:=(∃ c,o=.ret (.tuple [c,I (hZ (bC [] l))])∧Uy c (if bC [] l=0 then cv 0 l else []) h' nx' nx)∧Ext h nx h' nx'
variable{C:dm}{X:Kn}(S:Std C X)
include S
omit S in
theorem NN{l:List Ev}{s:Sc}{i:Nat}{x:Ev}{t:List Ev}{n:Nat}(hs:scan 0 sc0 l=scan i s (x ::t))(hb:qt s x=n+1):bC [] l=n+1:=by
 have h1:=ahD l
 have h2:scan i s (x ::t)=(n+1,[]):=by
  show(match qt s x with|0=>scan (i+1) (iO i s x) t|n=>(n,[]))=_
  rw[hb];rfl
 have:(⟨[],-1,-1,-1,-1⟩:Sc)=sc0:=rfl
 rw[this,hs,h2] at h1
 exact(congrArg Prod.fst h1).symm
omit S in
theorem aue{l:List Ev}{s:Sc}{i:Nat}(hs:scan 0 sc0 l=scan i s []):bC [] l=0∧cv 0 l=s.ops:=by
 have h1:=ahD l
 have:(⟨[],-1,-1,-1,-1⟩:Sc)=sc0:=rfl
 have h2:scan i s []=(0,s.ops):=rfl
 rw[this,hs,h2] at h1
 have h3:=(congrArg Prod.fst h1).symm
 have h4:=(congrArg Prod.snd h1).symm
 simp only at h3 h4
 rw[if_pos h3] at h4
 exact⟨h3,h4⟩
theorem al4{l:List Ev}(hl:Tu l){cu:T AV}{h h1:T ah}{nx bM bo:Key}{s:Sc}{i:Nat}{Q:cX}(hi:i<l.length)(A:At l s i bo nx cu h1 bM)(kp:Kp (l.take i).reverse s)(hs:scan 0 sc0 l=scan i s (l.drop i))(e1:Ext h nx h1 bM)
  (wQ:∀ an h' nx',aa (K 2) an=some .nils→aa (K 3) an=some (I (hZ (bC [] l)))→bC [] l≠0→Ext h nx h' nx'→Q .ret an h' nx')
  (aiA:∀ an h' nx' m,m<l.length-i→ScI l bo h nx m an h' nx'→Q .norm an h' nx') :
  dz C iX Q cu h1 bM:=by
 have apy:=hl.len
 have rf:C.raw gQ=false:=S.nr (by decide)
 have s1:=kTSu bM
 have A':=A
 obtain⟨g8,g35,g36,g37,⟨c7,g7,gro⟩,go,bo0,bo1⟩:=A'
 have hii:(i:Int)<l.length:=by omega
 have hlen:=ew.rows l
 have h8:8≤l.length*8-i*8:=by omega
 have ec:=ew.at hi
 have GO:=hl.args _ (JW hi)
 have hx2:=hl.cl _ (JW hi)
 have hz:∀ H,aY 9999 (.agg (eE l[i])) H=(.agg (eE l[i]),H):=fun H=>by
  have:=du (n:=9998) (l:=eE l[i]) (h:=H) (ew.Fl _)
  simp only[Ih];rw[this]
 have he:List.take 8 (eE l[i])=eE l[i]:=rfl
 have hl8:(eE l[i]).length=8:=rfl
 have Qi:(eE l[i]).all AV.aK=true:=zr.2 (ew.cell _)
 rw[zqt hi] at hs
 have CU:(l.take (i+1)).reverse=l[i] ::(l.take i).reverse:=by rw[zqu hi];simp
 have nR:(l.take i).reverse.length=i:=by simp;omega
 generalize l[i]=x at *
 simp[iX]
 simp[ku,g36,g37,hii]
 simp[yj,g35,g37,hi,hlen,h8,ec,he,hl8,Qi]
 simp[yl,rf,he,hl8,hz]
 have H0:=e1.trans (E0 h1 bM (.cells (eE x) .fix))
 refine(ajr S x GO _ _).mono ?_
 rintro o h2 aI ⟨rfl,e2⟩
 have TG:=H0.trans e2
 have gb2:aa bM h2=some (.cells (eE x) .fix):=by rw[e2.g bM (by omega)];simp
 have go2:aa bo h2=some (.cells (C5 s) .fix):=by rw[e2.g bo (by omega),az bo1];exact go
 have asq:Uy c7 s.ops h2 aI nx:=(gro.ext (E0 h1 bM (.cells (eE x) .fix))).ext e2
 have n2:=e2.n
 simp
 cases mM:qB x with
 |false=>
  simp[pH]
  simp[ym]
  have hv:=NN hs (n:=0) (by unfold qt;rw[mM];rfl)
  refine wQ _ _ _ ?_ ?_ (by omega) TG
  ·simp
  ·simp[hv,hZ]
 |true=>
  simp[pH]
  obtain⟨c,hc⟩:=Int.eq_ofNat_of_zero_le hx2.1
  have hc4:c<4:=by omega
  have hc3:c≤3:=by omega
  have hg:=Le s hc4
  have ol:=GM s
  simp[yn,g8,gb2,eE,hc,hc4,hc3,go2,hg,ol]
  simp[yo,gb2,eE]
  have qq:x.kind=0∨x.kind=1∨x.kind=2:=by
   unfold qB at mM;rw[decide_eq_true_eq] at mM;omega
  have bI:bo≠bM:=by rintro rfl;omega
  have sol:s.ops.length≤1000:=by
   have:=qg (l.take i) 0
   have h3:=kp.ops
   rw[List.reverse_reverse] at h3
   rw[h3];simp at this;omega
  have hcx:x.client=(c:Int):=hc
  have fin:∀ (Fc:T AV) (h3:T ah) (bu:Key),qt s x=0→At l (iO i s x) i bo nx Fc h3 bu→(∀ b:Key,b.toNat<nx.toNat→aa b h3=aa b h2)→aI.toNat≤bu.toNat→
    (ak 3 (aq (dz C (.ops eZ) Q) Q)) .norm Fc h3 bu:=by
   intro Fc h3 bu hb A3 low n3
   obtain⟨a8,a35,a36,a37,⟨d7,a7,aBm⟩,ao,ab0,ab1⟩:=A3
   simp
   simp[eZ,a37]
   rw[au (by omega) (by omega)]
   refine aiA _ _ _ (l.length-(i+1)) (by omega) ⟨i+1,iO i s x,rfl,by omega,⟨by simp[a8],by simp[a35],by simp[a36],by simp,⟨d7,by simp[a7],aBm⟩,ao,ab0,ab1⟩,?_,?_,?_⟩
   ·have:=ao0 kp mM hb
    rw[nR] at this
    rw[CU];exact this
   ·rw[hs]
    show(match qt s x with|0=>scan (i+1) (iO i s x) _|n=>(n,[]))=_
    rw[hb];rfl
   ·exact⟨by have:=TG.n;omega,fun b hb=>by rw[low b hb];exact TG.g b hb⟩
  have hg2:∀ hh,(C5 s)[c]'hh=I (s.op c):=fun hh=>by
   have:=Fo hh
   rw[hg] at this;exact(Option.some.inj this).symm
  simp only[hg2]
  have A2:∀ Fc:T AV,(∀ k:Key,k=K 7∨k=K 8∨k=K 35∨k=K 36∨k=K 37→aa k Fc=aa k cu)→At l s i bo nx Fc h2 aI:=fun Fc q=>
   ⟨(q (K 8) (by simp)).trans g8,(q (K 35) (by simp)).trans g35,(q (K 36) (by simp)).trans g36,(q (K 37) (by simp)).trans g37,⟨c7,(q (K 7) (by simp)).trans g7,asq⟩,go2,bo0,by omega⟩
  rcases qq with k0|k0|k0
  ·have key:=fun Fc A g9 yW Jx g52=>asO (C:=C) (Q:=ak 3 (aq (dz C (.ops eZ) Q) Q)) (tm:=Fc) A mM k0 sol bI (by omega) g9 yW gb2 Jx g52 (fun an hb e2 e3=>by
     simp
     have hv:=NN hs (n:=1) hb
     exact wQ _ _ _ e2 (by rw[hv];exact e3) (by omega) TG) (fun an h' nx' hb A' low n=>fin an h' nx' hb A' low n)
   simp only[Ia,gU,aL,aQ] at key
   refine key _ (A2 _ ?_) ?_ ?_ ?_ ?_
   ·rintro k (rfl|rfl|rfl|rfl|rfl)<;>simp
   all_goals simp[hcx]
  ·have key:=fun Fc A g9 yW Jx g52=>aAC (C:=C) (Q:=ak 3 (aq (dz C (.ops eZ) Q) Q)) (tm:=Fc) A mM k0 (kp.lt _ hx2.1 hx2.2) bI (by omega) g9 yW gb2 Jx g52 (fun an hb e2 e3=>by
     simp
     have hv:=NN hs (n:=2) hb
     exact wQ _ _ _ e2 (by rw[hv];exact e3) (by omega) TG) (fun an h' nx' hb A' low n=>fin an h' nx' hb A' low n)
   simp only[Ia,gU,aL,aQ] at key
   refine key _ (A2 _ ?_) ?_ ?_ ?_ ?_
   ·rintro k (rfl|rfl|rfl|rfl|rfl)<;>simp
   all_goals simp[hcx]
  ·have key:=fun Fc A g9 g52=>asn (C:=C) (Q:=ak 3 (aq (dz C (.ops eZ) Q) Q)) (tm:=Fc) A mM k0 kp.lt sol g9 g52 (fun an h' nx' hb A' low n=>fin an h' nx' hb A' low n)
   simp only[Ia,gU,aL,aQ] at key
   refine key _ (A2 _ ?_) ?_ ?_
   ·rintro k (rfl|rfl|rfl|rfl|rfl)<;>simp
   all_goals simp
theorem auY{ev:AV}{l:List Ev}(hv:iD 8 eE ev l)(hl:Tu l)(h:T ah)(nx:Key):aO C jA [ev] h nx (ayE l h nx):=by
 have apy:=hl.len
 have s1:=kTSu nx
 refine S.Cn.call ?_
 simp[y7]
 simp[An]
 simp[Ao]
 simp[Ap]
 have AW:∀ {c:AV} {h':T ah} {nx':Key} {s:Sc} {i:Nat},scan 0 sc0 l=scan i s []→Uy c s.ops h' nx' nx→Ext h nx h' nx'→ayE l h nx (.ret (.tuple [c,I 0])) h' nx':=by
  intro c h' nx' s i hs g e
  obtain⟨h1,h2⟩:=aue hs
  refine⟨⟨c,by rw[h1];rfl,?_⟩,e⟩
  rw[if_pos h1,h2];exact g
 rcases hv with⟨rfl,rfl⟩|rfl
 ·simp
  refine W.Bl (W.of ?_)
  simp[sc]
  simp[sd]
  simp[se]
  simp[pI]
  simp[pJ]
  simp[pK]
  refine W.Bl (W.of ?_)
  simp[iX]
  simp[ku]
  simp[pL]
  exact AW (s:=sc0) (i:=0) rfl (.inl ⟨rfl,rfl⟩) (E0 h nx _)
 ·simp
  refine W.di (n:=l.length) (fun m an h' nx'=>∃ j b:Nat,m=l.length-j∧j≤l.length∧b≤j∧aa (K 0) an=some (.sl (ai eE l) l.length 8 .any)∧aa (K 15) an=some (.sl (ai eE l) l.length 8 .any)∧aa (K 16) an=some (I l.length)∧aa (K 17) an=some (I j)∧aa (K 4) an=some (I b)∧Ext h nx h' nx') ?_ ?_
  ·exact⟨0,0,by simp,by omega,by omega,by simp,by simp,by simp,by simp,by simp,Ext.refl _ _⟩
  ·rintro m cu h1 bM ⟨j,b,rfl,hj,hb,g0,g15,g16,g17,g4,e1⟩
   have s11:=kTSu bM
   refine W.of ?_
   simp[sc]
   simp[sd,g16,g17]
   refine⟨fun bN=>?_,fun TF=>?_⟩
   ·have aR:j<l.length:=by omega
    have hlen:=ew.rows l
    have h8:8≤l.length*8-j*8:=by omega
    have ec:=ew.at aR
    have Qi:(eE l[j]).all AV.aK=true:=zr.2 (ew.cell _)
    have he:List.take 8 (eE l[j])=eE l[j]:=rfl
    have hl8:(eE l[j]).length=8:=rfl
    have hk0:(eE l[j])[0]?=some (I l[j].kind):=rfl
    have e2:=e1.trans (E0 h1 bM (.cells (eE l[j]) .fix))
    simp[Aq,g15,g17,aR,hlen,h8,ec,he,hl8,Qi]
    by_cases k0:l[j].kind=0
    ·simp[sf,hl8,k0,eE]
     simp[Ar,g4]
     simp[sg,g17]
     rw[au (by omega) (by omega),au (by omega) (by omega)]
     exact⟨l.length-(j+1),by omega,j+1,rfl,by omega,b+1,by omega,g0,g15,g16,by omega,by omega,by simpa[eE,k0] using e2⟩
    ·simp[sf,hl8,bq k0,eE]
     simp[sg,g17]
     rw[au (by omega) (by omega)]
     exact⟨l.length-(j+1),by omega,j+1,rfl,by omega,b,by omega,g0,g15,g16,by omega,g4,by simpa[eE] using e2⟩
   ·have aA2:¬ (64:Int)<l.length:=by omega
    have aA3:¬ (16:Int)<b:=by omega
    simp[se,g0,g4,aA2,aA3]
    simp[pI]
    simp[pJ]
    simp[pK,g0]
    have n1:=e1.n
    refine W.di (n:=l.length) (ScI l bM h nx) ?_ ?_
    ·refine⟨0,sc0,by simp,by omega,⟨by simp,by simp,by simp,by simp,⟨.nils,by simp,.inl ⟨rfl,rfl⟩⟩,by simp[C5,sc0],by omega,by omega⟩,kp0,rfl,e1.trans (E0 h1 bM _)⟩
    ·rintro m tm2 h2 aI ⟨i,s,rfl,hi,A,kp,hs,e2⟩
     by_cases J3:i<l.length
     ·refine W.of (al4 S hl J3 A kp hs e2 ?_ ?_)
      ·intro an h' nx' q2 q3 hv e'
       simp[q2,q3]
       exact⟨⟨.nils,rfl,.inl ⟨rfl,by rw[if_neg hv]⟩⟩,e'⟩
      ·intro an h' nx' m hm hI
       simp
       exact⟨m,hm,hI⟩
     ·have EE:i=l.length:=by omega
      subst EE
      obtain⟨a8,a35,a36,a37,⟨d7,a7,aBm⟩,ao,ab0,ab1⟩:=A
      refine W.of ?_
      simp[iX]
      simp[ku,a36,a37]
      simp[pL,a7]
      rw[List.drop_length] at hs
      exact AW hs aBm e2
end Ln
/-
 LN: copies of arguments. No condition.
-/
namespace Ln
open Go.Sx Go
variable{C:dm}{X:Kn}(S:Std C X)
include S
def ClI(l:List U)(b:Key)(h:T ah)(nx:Key)(m:Nat)(an:T AV)(h':T ah)(nx':Key):Prop:=∃ (j:Nat) (ls:List U),m=l.length-j∧j≤l.length∧ls.length=l.length∧ls.take j=l.take j∧
 aa (K 0) an=some (.sl (ai eU l) l.length 4 .any)∧aa (K 1) an=some (.fn gn [] [])∧aa (K 5) an=some (.slice b 0 l.length 4)∧aa (K 14) an=some (I l.length)∧aa (K 15) an=some (I j)∧aa b h'=some (.cells (ai eU ls) .fix)∧(∀ k:Key,k.toNat<b.toNat→aa k h'=aa k h)∧nx'=nx
theorem ap7(l:List U)(hl:l.length≤1000):Tv C ft [aB l,.fn gn [] []] (·=.ret (aB l)):=by
 intro h nx
 have s1:=kTSu nx
 have rc:C.raw gn=false:=S.nr (by decide)
 refine S.uw.call ?_
 simp[oU]
 simp[sJ]
 have cy:aB l=.nils∧l=[]∨aB l=.sl (ai eU l) l.length 4 .any∧l≠[]:=by
  cases l with
  |nil=>exact .inl ⟨rfl,rfl⟩
  |cons a t=>exact .inr ⟨rfl,by simp⟩
 rcases cy with⟨e,rfl⟩|⟨e,bI⟩
 ·simp[kS,e]
  simp[sK]
  exact Ext.refl _ _
 ·have h0:l.length≠0:=by simpa using bI
  have IU:((l.length:Int)==0)=false:=bq (by omega)
  have hm:l.length≤1048576:=by omega
  simp[kS,e,IU,h0]
  have hz:(List.replicate l.length [I 0,I 0,.str 0 0,.nils]).flatten=ai eU (List.replicate l.length ⟨0,0⟩):=by
   unfold ai
   rw[List.flatMap_def,List.map_replicate];rfl
  simp[sM,hm,hz]
  simp[sN]
  refine W.di (n:=l.length) (ClI l nx h nx.succ) ?_ ?_
  ·exact⟨0,List.replicate l.length ⟨0,0⟩,by simp,by omega,by simp,by simp,by simp,by simp,by simp,by simp,by simp,by simp,fun k hk=>az hk,rfl⟩
  ·rintro m cu h1 bM ⟨j,ls,rfl,hj,hls,CU,g0,g1,g5,Fb,g15,gb,ap0,rfl⟩
   refine W.of ?_
   simp[sO]
   simp[sP,Fb,g15]
   refine⟨fun bN=>?_,fun TF=>?_⟩
   ·have aR:j<l.length:=by omega
    have hr:=zt.rows l
    have RW:=zt.rows ls
    have h4:4≤l.length*4-j*4:=by omega
    have ec:=zt.at aR
    have he:List.take 4 (eU l[j])=eU l[j]:=rfl
    have hl4:(eU l[j]).length=4:=rfl
    have hz:∀ H,aY 9999 (.agg (eU l[j])) H=(.agg (eU l[j]),H):=fun H=>by simp[eU]
    have hjs:j<ls.length:=by omega
    have hp:=zt.put hjs l[j]
    have h44:j*4+4≤l.length*4:=by omega
    simp[sQ,g15]
    simp[sR,g0,g1,g5,aR,hr,h4,ec,he,hl4,rc,hz]
    refine aO.known (v:=.agg (eU l[j])) (S.Re ⟨l[j].k,l[j].n,[]⟩ (by simp) _ _) ?_
    simp[g0,g1,g5,aR,gb,RW,hls,h44,hl4,hp]
    simp[sS,g15]
    rw[au (by omega) (by omega)]
    refine⟨l.length-(j+1),by omega,j+1,ls.set j l[j],rfl,by omega,by simpa using hls,?_,by simp[g0],by simp[g1],by simp[g5],by simp[Fb],by simp,by simp,fun k hk=>?_,rfl⟩
    ·have q:(ls.set j l[j]).take j=ls.take j:=by rw[List.take_set];exact List.set_eq_of_length_le (by simp;omega)
     rw[zqu aR,zqu (by simpa using hjs),q,CU,List.getElem_set_self]
    ·rw[az hk];exact ap0 k hk
   ·have aR:j=l.length:=by omega
    subst aR
    rw[List.take_length,P8 (by omega)] at CU
    subst CU
    simp[sT,g5]
    have hf:=GB (n:=9998) gb (zt.rows ls) (zt.HD ls)
    simp only[hf]
    refine⟨trivial,?_⟩
    exact⟨by omega,fun k hk=>by rw[az hk];exact ap0 k hk⟩
theorem aph(l:List U)(hl:l.length≤1000):Tv C jC [aB l] (·=.ret (aB l)):=by
 intro h nx
 have rc:C.raw ft=false:=S.nr (by decide)
 have hf:∀ n H,aY n (aB l) H=(aB l,H):=dB l
 refine S.B6.call ?_
 simp[yR]
 simp[zI]
 simp[zJ,rc,hf]
 refine(ap7 S l hl _ _).mono ?_
 rintro o h1 bM ⟨rfl,e1⟩
 simp[hf]
 exact e1
end Ln
/-
 LN: the calls of a history: the program. No condition.
-/
namespace Ln
open Go.Sx Go
variable{C:dm}{X:Kn}(S:Std C X)
omit S in
theorem IT:∀ (l:List Ev) (o:Op) (i:Nat),(follow o i l).args=o.args
 | [],o,i=>rfl
 |x ::l,o,i=>by
  show(follow (nN i x o) (i+1) l).args=_
  rw[IT l]
  unfold nN;(repeat' split)<;>rfl
theorem PT{n:Nat}:∀ {l:List Ev} {i:Nat},(∀ x∈l,x.args.length≤n)→∀ o∈cv i l,o.args.length≤n
 | [],i,_,o,ho=>by simp[cv] at ho
 |x ::l,i,h,o,ho=>by
  simp only[cv,List.mem_append] at ho
  rcases ho with ho|ho
  ·split at ho
   ·simp at ho;subst ho
    rw[IT];exact h x (by simp)
   ·simp at ho
  ·exact PT (fun x hx=>h x (by simp[hx])) o ho
def OpI(os:List Op)(code:Int)(b n0:Key)(h:T ah)(nx:Key)(m:Nat)(an:T AV)(h':T ah)(nx':Key):Prop:=∃ j:Nat,m=os.length-j∧j≤os.length∧aa (K 4) an=some (.slice b 0 os.length 10)∧aa (K 5) an=some (I code)∧aa (K 13) an=some (I os.length)∧aa (K 14) an=some (I j)∧
 aa b h'=some (.cells (ai eO os) .part)∧b.toNat<nx'.toNat∧Ext h nx h' nx'
include S
theorem auW{ev:AV}{l:List Ev}(hv:iD 8 eE ev l)(hl:Tu l):Tv C kY [ev] (auX l):=by
 intro h nx
 have s1:=kTSu nx
 have rs:C.raw jA=false:=S.nr (by decide)
 have rc:C.raw jC=false:=S.nr (by decide)
 have rv:C.raw gn=false:=S.nr (by decide)
 have hz:aY 9999 ev h=(ev,h):=hv.Fl _ _
 refine S.Dm.call ?_
 simp[Bi]
 simp[Bj]
 simp[Bk,rs,hz]
 refine(auY S hv hl _ _).mono ?_
 rintro o h1 bM ⟨⟨c,rfl,gro⟩,e1⟩
 have cy:∀ o∈(if bC [] l=0 then cv 0 l else []),o.args.length≤1000:=by
  intro o ho
  split at ho
  ·exact PT hl.args o ho
  ·simp at ho
 simp
 unfold auX
 have tG:(if bC [] l=0 then cv 0 l else []).length≤16:=by
  split
  ·have:=qg l 0;have:=hl.len;omega
  ·simp
 generalize (if bC [] l=0 then cv 0 l else [])=os at *
 generalize hZ (bC [] l)=code at *
 rcases gro with⟨rfl,rfl⟩|⟨b,rfl,hb,IU,C3⟩
 ·simp[tH]
  refine W.Bl (W.of ?_)
  simp[tI]
  simp[tJ]
  simp[tK]
  exact⟨.inl ⟨rfl,rfl⟩,e1⟩
 ·simp[tH]
  refine W.di (n:=os.length) (OpI os code b nx h1 bM) ?_ ?_
  ·exact⟨0,by simp,by omega,by simp,by simp,by simp,by simp,hb,C3,Ext.refl _ _⟩
  ·rintro m cu h2 aI ⟨j,rfl,hj,g4,g5,g13,Fb,gb,aGJ,e2⟩
   refine W.of ?_
   simp[tI]
   simp[tJ,g13,Fb]
   refine⟨fun bN=>?_,fun TF=>?_⟩
   ·have aR:j<os.length:=by omega
    have hr:=cG.rows os
    have ec:=cG.at aR
    have hax:=cy _ (JW aR)
    have ha:((ai eO os))[j*10+5]?=some (aB os[j].args):=by
     have:=congrArg (fun l=>l[5]?) ec
     rw[List.getElem?_take,List.getElem?_drop] at this
     simpa[eO] using this
    have KZ:∀ hh,(ai eO os)[j*10+5]'hh=aB os[j].args:=fun hh=>by
     have q:=Fo hh
     rw[ha] at q;exact(Option.some.inj q).symm
    have JX:List.take 4 (List.drop (j*10+6) (ai eO os))=eU os[j].res:=by
     have:=congrArg (fun l=>List.take 4 (List.drop 6 l)) ec
     simp only[List.drop_take,List.drop_drop,List.take_take] at this
     simpa[eO,eU] using this
    have hz1:∀ n H,aY n (aB os[j].args) H=(aB os[j].args,H):=dB _
    have hz2:∀ H,aY 9999 (.agg (eU os[j].res)) H=(.agg (eU os[j].res),H):=fun H=>by simp[eU]
    have p1:=cG.HC (l:=os) (j:=j) (off:=5) (vs:=[aB os[j].args]) (y:=os[j]) aR (by simp) rfl
    have p2:=cG.HC (l:=os) (j:=j) (off:=6) (vs:=eU os[j].res) (y:=os[j]) aR (by simp[eU]) rfl
    have ai4:os.set j os[j]=os:=List.set_getElem_self aR
    rw[ai4] at p1 p2
    simp[eU] at p1 p2
    have pT:j*10+5<os.length*10:=by omega
    have PU:j*10+5+1≤os.length*10:=by omega
    have PV:j*10+6+4≤os.length*10:=by omega
    have h4':4≤os.length*10-(j*10+6):=by omega
    have ac:=bc os[j].args
    simp[Bm,Fb]
    simp[Bn,g4,aR,gb,hr,KZ,pT,rc,hz1]
    refine(aph S _ hax _ _).mono ?_
    rintro o h3 bu ⟨rfl,e3⟩
    have gb3:aa b h3=some (.cells (ai eO os) .part):=by rw[e3.g b aGJ];exact gb
    simp[g4,aR,gb3,hr,PU,ac.1,ac.2,p1]
    simp[Bo,g4,aR,gb3,hr,JX,h4',rv,hz2]
    refine aO.known (v:=.agg (eU os[j].res)) (S.Re ⟨os[j].res.k,os[j].res.n,[]⟩ (by simp) _ _) ?_
    simp[g4,aR,gb3,hr,PV,eU,p2]
    simp[Bp,Fb]
    rw[au (by omega) (by omega)]
    have n3:=e3.n
    have n2:=e2.n
    refine⟨os.length-(j+1),by omega,j+1,rfl,by omega,by simp[g4],by simp[g5],by simp[g13],by simp,by simp,by omega,?_⟩
    refine⟨by omega,fun k hk=>?_⟩
    by_cases hkb:k=b
    ·subst hkb;simp[hb]
    ·rw[bZ _ _ _ _ hkb,e3.g k (by omega)];exact e2.g k hk
   ·simp[tK,g4,g5]
    have hf:=Fp (n:=9998) gb (cG.rows os) (cG.HD os)
    simp only[hf]
    refine⟨.inr rfl,?_⟩
    have TG:=e1.trans e2
    exact⟨TG.n,fun k hk=>by rw[az (by omega)];exact TG.g k hk⟩
end Ln
/-
 LN: calls one before another; orders as rows. No condition.
-/
namespace Ln
open Go.Sx Go
def eI(n:Int):List AV:=[I n]
theorem sF:Flat 1 eI where
 len _:=rfl
 Fl x y hy:=by simp[eI] at hy;subst hy;exact eD _ _
 cell x y hy:=by simp[eI] at hy;subst hy;rfl
 lits x:=by simp[eI,AV.fQ,AV.lits,I]
theorem bU(l:List Int):(ai eI l).length=l.length:=by rw[sF.rows];omega
theorem aiI:∀ l:List Int,ai eI l=l.map I
 | []=>rfl
 |a ::t=>by rw[ek,aiI t];rfl
theorem xd{l:List Int}{i:Nat}(hi:i<l.length):(ai eI l)[i]?=some (I l[i]):=by
 rw[aiI];simp[hi]
@[simp] theorem aCK{l:List Int}{i:Nat}(hh:i<(ai eI l).length):(ai eI l)[i]=I (l[i]'(by rw[bU] at hh;exact hh)):=by
 have h1:i<l.length:=by rw[bU] at hh;exact hh
 have:=Fo hh
 rw[xd h1] at this
 exact(Option.some.inj this).symm
theorem IK(l:List Int)(i:Nat):(ai eI l).take i=ai eI (l.take i):=by
 have:=sF.take l i;simpa using this
theorem jb{l:List Int}{i:Nat}(hi:i<l.length):List.take 1 (List.drop i (ai eI l))=[I l[i]]:=by
 have:=sF.at hi;rw[Nat.mul_one] at this;exact this
def Ord(c:AV)(l:List Int)(n:Nat)(h:T ah)(nx:Key):Prop:=n≤l.length∧((c=.nils∧n=0)∨(∃ f,c=.sl (ai eI (l.take n)) n 1 f)∨∃ (b:Key) (k:CK),c=.slice b 0 n 1∧aa b h=some (.cells (ai eI l) k)∧b.toNat<nx.toNat)
theorem Ord.ext{c:AV}{l:List Int}{n:Nat}{h h':T ah}{nx nx':Key}(o:Ord c l n h nx)(e:Ext h nx h' nx'):Ord c l n h' nx':=by
 obtain⟨h0,o⟩:=o
 refine⟨h0,?_⟩
 rcases o with o|o|⟨b,k,h1,h2,h3⟩
 ·exact .inl o
 ·exact .inr (.inl o)
 ·exact .inr (.inr ⟨b,k,h1,by rw[e.g b h3];exact h2,by have:=e.n;omega⟩)
variable{C:dm}{X:Kn}(S:Std C X)
include S
theorem oy(a b:Op):Tv C cZ [.agg (eO a),.agg (eO b)] (·=.ret (.bool (before a b))):=by
 intro h nx
 have s1:=kTSu nx
 have s2:=kTSu nx.succ
 have ac1:=bc a.args
 have ac2:=bc b.args
 refine S.Cr.call ?_
 simp[zc]
 simp[AT,eO,ac1.1,ac2.1]
 have e1:=(E0 h nx (.cells (eO a) .fix)).trans (E0 _ nx.succ (.cells (eO b) .fix))
 simp[eO] at e1
 have og:before a b=(decide (0≤a.e)&&decide (a.e<b.b)||decide (0≤a.lost)&&decide (a.lost<b.b)):=by
  unfold before;rw[Bool.eq_iff_iff];simp
 by_cases h1:a.e<0
 ·by_cases h2:a.lost<0
  ·simp[dO,h1,h2]
   exact⟨by rw[og];simp;omega,e1⟩
  ·by_cases h3:a.lost<b.b
   ·simp[dO,h1,h2,h3]
    exact⟨by rw[og];simp;omega,e1⟩
   ·simp[dO,h1,h2,h3]
    exact⟨by rw[og];simp;omega,e1⟩
 ·by_cases h4:a.e<b.b
  ·simp[dO,h1,h4]
   exact⟨by rw[og];simp;omega,e1⟩
  ·by_cases h2:a.lost<0
   ·simp[dO,h1,h4,h2]
    exact⟨by rw[og];simp;omega,e1⟩
   ·by_cases h3:a.lost<b.b
    ·simp[dO,h1,h4,h2,h3]
     exact⟨by rw[og];simp;omega,e1⟩
    ·simp[dO,h1,h4,h2,h3]
     exact⟨by rw[og];simp;omega,e1⟩
theorem alR(a b:Op):Tv C gV [.agg (eO a),.agg (eO b)] (·=.ret (.bool (before a b))):=by
 intro h nx
 have s1:=kTSu nx
 have s2:=kTSu nx.succ
 have ac1:=bc a.args
 have ac2:=bc b.args
 refine S.xS.call ?_
 simp[uC]
 simp[v9,eO,ac1.1,ac2.1]
 have e1:=(E0 h nx (.cells (eO a) .fix)).trans (E0 _ nx.succ (.cells (eO b) .fix))
 simp[eO] at e1
 have og:before a b=(decide (0≤a.e)&&decide (a.e<b.b)||decide (0≤a.lost)&&decide (a.lost<b.b)):=by
  unfold before;rw[Bool.eq_iff_iff];simp
 by_cases h1:a.e<0
 ·by_cases h2:a.lost<0
  ·simp[cW,h1,h2]
   exact⟨by rw[og];simp;omega,e1⟩
  ·by_cases h3:a.lost<b.b
   ·simp[cW,h1,h2,h3]
    exact⟨by rw[og];simp;omega,e1⟩
   ·simp[cW,h1,h2,h3]
    exact⟨by rw[og];simp;omega,e1⟩
 ·by_cases h4:a.e<b.b
  ·simp[cW,h1,h4]
   exact⟨by rw[og];simp;omega,e1⟩
  ·by_cases h2:a.lost<0
   ·simp[cW,h1,h4,h2]
    exact⟨by rw[og];simp;omega,e1⟩
   ·by_cases h3:a.lost<b.b
    ·simp[cW,h1,h4,h2,h3]
     exact⟨by rw[og];simp;omega,e1⟩
    ·simp[cW,h1,h4,h2,h3]
     exact⟨by rw[og];simp;omega,e1⟩
end Ln
/-
 LN: orders that real time allows: the program, the pairs. No condition.
-/
namespace Ln
open Go.Sx Go
theorem H7{os:List Op}{x:Int}{i:Nat}(hx:x=i)(hi:i<os.length):at_ os x=os[i]:=by
 subst hx
 unfold at_
 rw[List.getD_eq_getElem?_getD,Int.toNat_natCast,Fo hi];rfl
theorem alQ{l:List Int}{n j:Nat}(hn:n≤l.length)(hj:j<n)(hl:j<l.length):List.take 1 (List.drop j (ai eI (l.take n)))=[I l[j]]:=by
 have h1:j<(l.take n).length:=by simp;omega
 have:=jb h1
 rw[this];simp
theorem awT{os:List Op}{ord:List Int}{j:Nat}(hj:j<ord.length)(hp:(ord.take j).Pairwise fun x y=>before (at_ os y) (at_ os x)=false)(hn:∀ k (hk:k<ord.length),k<j→before (at_ os ord[j]) (at_ os ord[k])=false):(ord.take (j+1)).Pairwise fun x y=>before (at_ os y) (at_ os x)=false:=by
 rw[zqu hj,List.pairwise_append]
 refine⟨hp,by simp,?_⟩
 intro a ha b hb
 simp at hb
 subst hb
 obtain⟨k,hk,rfl⟩:=List.getElem_of_mem ha
 simp at hk
 simp
 exact hn k (by omega) (by omega)
variable{C:dm}{X:Kn}(S:Std C X)
include S
def PwI(os:List Op)(ord:List Int)(c0 c1:AV)(h:T ah)(nx:Key)(m:Nat)(an:T AV)(h':T ah)(nx':Key):Prop:=∃ j:Nat,m=ord.length-j∧j≤ord.length∧aa (K 0) an=some c0∧aa (K 1) an=some c1∧aa (K 10) an=some (.bool true)∧aa (K 60) an=some c1∧aa (K 61) an=some (I ord.length)∧aa (K 62) an=some (I j)∧
 Ord c1 ord ord.length h' nx'∧Ext h nx h' nx'∧(ord.take j).Pairwise fun x y=>before (at_ os y) (at_ os x)=false
def PiI(os:List Op)(ord:List Int)(c0 c1:AV)(h:T ah)(nx:Key)(j:Nat)(hj:j<ord.length)(c69:AV)(m:Nat)(an:T AV)(h':T ah)(nx':Key):Prop:=∃ k:Nat,m=j-k∧k≤j∧aa (K 0) an=some c0∧aa (K 1) an=some c1∧aa (K 10) an=some (.bool true)∧aa (K 60) an=some c1∧aa (K 61) an=some (I ord.length)∧aa (K 62) an=some (I j)∧
 aa (K 12) an=some (I ord[j])∧aa (K 69) an=some c69∧aa (K 70) an=some (I j)∧aa (K 71) an=some (I k)∧Ord c1 ord ord.length h' nx'∧Ord c69 ord j h' nx'∧Ext h nx h' nx'∧∀ q (hq:q<ord.length),q<k→before (at_ os ord[j]) (at_ os ord[q])=false
theorem awU{os:List Op}{ord:List Int}(ho:os.length≤16)(hlen:ord.length≤1000){c0 c1 c69:AV}(kV:iD 10 eO c0 os)(Fe:∀ x∈ord,0≤x∧x<os.length){Q:cX}{tm:T AV}{h h1:T ah}{nx bM:Key}{j:Nat}(hj:j<ord.length){m:Nat}(A:PiI os ord c0 c1 h nx j hj c69 m tm h1 bM)
  (gH:∀ an h' nx' k (hk:k<ord.length),k<j→aa (K 10) an=some (.bool false)→before (at_ os ord[j]) (at_ os ord[k])=true→Ext h nx h' nx'→Q (.exit 4) an h' nx')
  (cH:∀ an h' nx',PiI os ord c0 c1 h nx j hj c69 0 an h' nx'→Q .norm an h' nx') :
  W C (.loop jr) (ak 6 Q) tm h1 bM:=by
 have rb:C.raw gV=false:=S.nr (by decide)
 refine W.di (PiI os ord c0 c1 h nx j hj c69) A ?_
 rintro m cu h2 aI ⟨k,rfl,hk,g0,g1,yW,g60,g61,g62,Jx,g69,g70,g71,o1,o69,e2,hq⟩
 refine W.of ?_
 simp[jr]
 simp[uF,g70,g71]
 refine⟨fun bN=>?_,fun TF=>?_⟩
 ·have hkj:k<j:=by omega
  have Ut:k<ord.length:=by omega
  have rj:=Fe _ (JW hj)
  have rk:=Fe _ (JW Ut)
  obtain⟨x,hx⟩:=Int.eq_ofNat_of_zero_le rj.1
  obtain⟨y,hy⟩:=Int.eq_ofNat_of_zero_le rk.1
  have AZ:x<os.length:=by omega
  have hyl:y<os.length:=by omega
  have ax:=H7 hx AZ
  have ay:=H7 hy hyl
  have ecx:=cG.at AZ
  have ecy:=cG.at hyl
  have hr:=cG.rows os
  have tx:10≤os.length*10-x*10:=by omega
  have ty:10≤os.length*10-y*10:=by omega
  have hz:∀ (z:Op) H,aY 9999 (.agg (eO z)) H=(.agg (eO z),H):=fun z H=>by
   have:=du (n:=9998) (l:=eO z) (h:=H) (cG.Fl _)
   simp only[Ih];rw[this]
  have aKw:∀ z:Op,(eO z).length=10:=fun z=>rfl
  have aKx:∀ z:Op,List.take 10 (eO z)=eO z:=fun z=>rfl
  have fi:c0=.sl (ai eO os) os.length 10 .any:=by
   rcases kV with⟨_,rfl⟩|e
   ·simp at AZ
   ·exact e
  have fin:∀ tm2:T AV,(∀ k:Key,k=K 0∨k=K 1∨k=K 10∨k=K 60∨k=K 61∨k=K 62∨k=K 12∨k=K 69∨k=K 70∨k=K 71→aa k tm2=aa k cu)→aa (K 14) tm2=some (I ord[k])→
    dz C (.seq (.staged l3 ⟨[K 75,K 76,K 77,K 78,K 79,K 80,K 81,K 82,K 83],[]⟩) (.cond (.t (K 83)) (.seq (.ops l4) (.exit 4)) .skip)) (ak 7 (aq (dz C (.ops l5) (aq (fun tm h' nx'=>∃ m,m<j-k∧PiI os ord c0 c1 h nx j hj c69 m tm h' nx') (ak 6 Q))) (aq (fun tm h' nx'=>∃ m,m<j-k∧PiI os ord c0 c1 h nx j hj c69 m tm h' nx') (ak 6 Q)))) tm2 h2 aI:=by
   intro tm2 q Qt
   have q0:=(q (K 0) (by simp)).trans g0
   have q1:=(q (K 1) (by simp)).trans g1
   have A9:=(q (K 10) (by simp)).trans yW
   have q60:=(q (K 60) (by simp)).trans g60
   have q61:=(q (K 61) (by simp)).trans g61
   have q62:=(q (K 62) (by simp)).trans g62
   have q12:=(q (K 12) (by simp)).trans Jx
   have q69:=(q (K 69) (by simp)).trans g69
   have q70:=(q (K 70) (by simp)).trans g70
   have q71:=(q (K 71) (by simp)).trans g71
   rw[fi] at q0
   rw[hx] at q12
   rw[hy] at Qt
   simp
   simp[l3,q0,q12,Qt,AZ,hyl,hr,tx,ty,ecx,ecy,rb,hz,aKw,aKx]
   refine(alR S os[x] os[y] _ _).mono ?_
   rintro o h3 bu ⟨rfl,e3⟩
   have H5:=e2.trans e3
   cases og:before os[x] os[y] with
   |true=>
    simp
    simp[l4]
    refine gH _ _ _ k Ut hkj ?_ (by rw[ax,ay];exact og) H5
    simp
   |false=>
    simp
    simp[l5,q71]
    rw[au (by omega) (by omega)]
    refine⟨j-(k+1),by omega,k+1,rfl,by omega,by simp[q0,fi],by simp[q1],by simp[A9],by simp[q60],by simp[q61],by simp[q62],by simp[q12,hx],by simp[q69],by simp[q70],by simp,o1.ext e3,o69.ext e3,H5,?_⟩
    intro q hql hqk
    by_cases hqe:q=k
    ·subst hqe;rw[ax,ay];exact og
    ·exact hq q hql (by omega)
  simp only[aL,aM,aQ,dF] at fin
  obtain⟨hnj,oc⟩:=o69
  rcases oc with⟨_,e⟩|⟨f,e⟩|⟨b,kd,e,hb,_⟩
  ·omega
  ·have mq:(ai eI (ord.take j)).length=j:=by rw[bU];simp;omega
   have rd:=alQ hnj hkj Ut
   have h1:1≤j-k:=by omega
   subst e
   simp[l6,g69,g71,hkj,mq,rd,h1]
   refine fin _ ?_ ?_
   ·rintro q (rfl|rfl|rfl|rfl|rfl|rfl|rfl|rfl|rfl|rfl)<;>simp[g69]
   ·simp
  ·have rd:=xd Ut
   have mq:(ai eI ord).length=ord.length:=bU _
   subst e
   have aQ6:=bU ord
   simp[l6,g69,g71,hkj,hb,rd,mq]
   refine fin _ ?_ ?_
   ·rintro q (rfl|rfl|rfl|rfl|rfl|rfl|rfl|rfl|rfl|rfl)<;>simp[g69]
   ·simp
 ·have hkj:k=j:=by omega
  subst hkj
  exact cH _ _ _ ⟨k,by omega,by omega,by simp[g0],by simp[g1],by simp[yW],by simp[g60],by simp[g61],by simp[g62],by simp[Jx],by simp[g69],by simp[g70],by simp[g71],o1,o69,e2,hq⟩
end Ln
