/- A part of the proof. No condition. -/
import Derived.Test.YtecbfpngkfdkoaaGreatP10
import Derived.Test.YtecbfpngkfdkoaaGreatP20
import Derived.Test.YtecbfpngkfdkoaaGreatP32
import Derived.Test.YtecbfpngkfdkoaaGreatP19
import Derived.Test.YtecbfpngkfdkoaaGreatP6
import Derived.Shelf.SlSortCmp.NoneTotal
import Derived.Test.YtecbfpngkfdkoaaGreatProg
import Derived.Shelf.SlLaysF0
import Derived.Test.YtecbfpngkfdkoaaGreatP11
set_option linter.unusedSimpArgs false
set_option linter.unusedVariables false
set_option linter.unusedSectionVars false
namespace Ln
open Go.Sx Go Go.Proofs
def aep:Lr:=⟨12,Unit,fun _=>[],fun _=>vM,fun _ _ _=>rfl⟩
theorem ajx:nF Tryz.prog .nil aep:=⟨⟨_,l9 (n:=12) (by decide)⟩,fun _=>V8⟩
def YB:Lr:=⟨23,Unit,fun _=>[],fun _=>.bool true,fun _ _ _=>rfl⟩
theorem aeq:nF Tryz.prog .nil YB:=⟨⟨_,l9 (n:=23) (by decide)⟩,fun _=>amT⟩
def jt:List Lr:=[XC,Np,Rx,XD,Nq,Ry,TK,TL,H4,KI,II,N9,YC,YD,YE,TN,aep,YB]
theorem arR:∀F∈jt,nF Tryz.prog .nil F:=by
 intro F h;unfold jt at h;simp only[M4,List.not_mem_nil,or_false]at h;rcases h with rfl|rfl|rfl|rfl|rfl|rfl|rfl|rfl|rfl|rfl|rfl|rfl|rfl|rfl|rfl|rfl|rfl|rfl
 ·exact Eb
 ·exact oW
 ·exact Bj
 ·exact adC
 ·exact XE
 ·exact ZZ
 ·exact HD
 ·exact abx
 ·exact TO
 ·exact VB
 ·exact YF
 ·exact YG
 ·exact Ai
 ·exact aer
 ·exact aes
 ·exact wX
 ·exact ajx
 ·exact aeq
theorem fQ:jt.Pairwise fun a b=>a.f≠b.f:=by have h:(jt.map (·.f)).Pairwise (·≠·):=of_decide_eq_true (by kernel_rfl);exact List.pairwise_map.1 h
def aby(f:Nat):Bool:=Nat.beq f 86||Nat.beq f 60
noncomputable def CL:bU:=anI arA WU aby jt
theorem aBh{f:Nat}(h:(jt.map (·.f)).contains f=false):∀l h nx,CL.sum f l h nx=none:=by refine Pl fun F hF e=>?_;have:(jt.map (·.f)).contains f=true:=List.contains_iff_mem.2 (KT.2 ⟨F,hF,e⟩);rw[h]at this;cases this
theorem tU{f:Nat}{p:gE}(hp:Jf Tryz.prog f=some p)(hg:HF CL f=some (fx f):=by kernel_rfl)(ho:(jt.map (·.f)).contains f=false:=by kernel_rfl)(hr:aby f=false:=by kernel_rfl):Fn CL f p:=⟨by rw[hg,at2 hp],aBh ho,hr⟩
theorem aBi{f:Nat}{p:gE}(hp:Jf Tryz.prog f=some p)(hg:HF CL f=some (fx f):=by kernel_rfl)(ho:(jt.map (·.f)).contains f=false:=by kernel_rfl)(hr:aby f=true:=by kernel_rfl):FnR CL f p:=⟨by rw[hg,at2 hp],aBh ho,hr⟩
theorem ajy:XC∈jt:=by simp[jt]
theorem abz:Np∈jt:=by simp[jt]
theorem aet:Rx∈jt:=by simp[jt]
theorem ajz:XD∈jt:=by simp[jt]
theorem abA:Nq∈jt:=by simp[jt]
theorem aeu:Ry∈jt:=by simp[jt]
theorem aev:TK∈jt:=by simp[jt]
theorem aew:TL∈jt:=by simp[jt]
theorem CA:H4∈jt:=by simp[jt]
theorem EF:KI∈jt:=by simp[jt]
theorem Pm:II∈jt:=by simp[jt]
theorem abB:N9∈jt:=by simp[jt]
theorem ajA:YC∈jt:=by simp[jt]
theorem ajB:YD∈jt:=by simp[jt]
theorem ajC:YE∈jt:=by simp[jt]
theorem aex:TN∈jt:=by simp[jt]
theorem anJ:aep∈jt:=by simp[jt]
theorem ajD:YB∈jt:=by simp[jt]
theorem Du:Std CL K0 where
 orc:=rfl
 raw _:=rfl
 ok:=as0
 Aj:=tU I8
 nR:=aBi y9
 HE:=tU Qa
 BT:=tU KD
 MG:=tU Vv
 Fo:=tU NZ
 Dp:=tU Mv
 Dq:=tU Mw
 Jg:=tU Tz
 C5:=tU Mx
 HV:=aBi Qb
 HW:=tU Qc
 HI:=tU Qd
 Mn:=tU Vw
 HX:=tU Qe
 JE:=tU TA
 Dd:=tU My
 Dr:=tU Mz
 Fp:=tU N0
 Av:=tU I9
 HY:=tU Qf
 BU:=tU KF
 Dt:=tU BQ
 sF:=tU Cw
 sH:=tU Cx
 uH:=tU Ey
 uJ:=tU Ez
 gJ:=tU AY
 tT:=tU Dn
 xa:=tU Gc
 HG:=tU Qg
 CR:=tU MA
 Fq:=tU N1
 HZ:=tU Qh
 Ft:=tU N2
 HH:=tU Qi
 HJ:=tU Qj
 eJ:=tU jV
 jg:=tU qP
 fP:=tU lE
 s_InitP i hi h nx:=bV aev fQ ⟨i,hi⟩ h nx
 s_CanP c s bs hs ha h nx:=bV ajy fQ ⟨c,s,bs,hs,ha⟩ h nx
 s_HoldsP c s bs r hs ha h nx:=bV abz fQ ⟨⟨c,s,bs,hs,ha⟩,r⟩ h nx
 s_NextP c s bs r hs ha h nx:=bV aet fQ ⟨⟨c,s,bs,hs,ha⟩,r⟩ h nx
 s_InitR i hi h nx:=bV aew fQ ⟨i,hi⟩ h nx
 s_CanR c s bs hs ha h nx:=bV ajz fQ ⟨c,s,bs,hs,ha⟩ h nx
 s_HoldsR c s bs r hs ha h nx:=bV abA fQ ⟨⟨c,s,bs,hs,ha⟩,r⟩ h nx
 s_NextR c s bs r hs ha h nx:=bV aeu fQ ⟨⟨c,s,bs,hs,ha⟩,r⟩ h nx
 s_parser_Decl i hi h nx:=by
  match i,hi with
  |0,_=>exact bV CA fQ (⟨0,by decide⟩:QJ) h nx
  |1,_=>exact bV CA fQ (⟨1,by decide⟩:QJ) h nx
  |2,_=>exact bV CA fQ (⟨2,by decide⟩:QJ) h nx
 s_ref09_Decl i hi h nx:=by
  match i,hi with
  |0,_=>exact bV EF fQ (⟨0,by decide⟩:QJ) h nx
  |1,_=>exact bV EF fQ (⟨1,by decide⟩:QJ) h nx
  |2,_=>exact bV EF fQ (⟨2,by decide⟩:QJ) h nx
 s_values_Valid u h nx:=by have e:=bV Pm fQ (⟨⟨u.k,u.n,[]⟩,Nat.zero_le _⟩:QK) h nx;simp only[II,aBj]at e;exact e
 s_values_Compare s t hs ht h nx:=bV ajA fQ ⟨s,t,hs,ht⟩ h nx
 s_ref10_Valid u h nx:=bV abB fQ u h nx
 s_ref10_Compare s t hs ht h nx:=bV ajB fQ ⟨s,t,hs,ht⟩ h nx
 s_Equal s t hs ht h nx:=bV ajC fQ ⟨s,t,hs,ht⟩ h nx
 s_Clone s hs h nx:=bV aex fQ ⟨s,hs⟩ h nx
 s_Module h nx:=bV anJ fQ () h nx
 s_lives h nx:=bV ajD fQ () h nx
theorem aBk{ρ:Nat→Int}(w0:W0)(hL:kl Tryz.prog .nil w0):Ctx Tryz.prog ρ w0 CL:=awQ WQ anj mix arR WU aby w0 hL
end Ln
namespace Go.Sx
open Go Go.RowKit Go.Sort
section
variable{α:Type}[Inhabited α]{k:Nat}{eA:α→List AV}{eV:α→List Value}
omit [Inhabited α] in
theorem WM(F:Flat k eA){l:List α}{i r:Nat}(hi:i<l.length)(hr:r<k):(ai eA l)[i*k+r]?=(eA l[i])[r]?:=by rw[←F.at hi,List.getElem?_take_of_lt hr,List.getElem?_drop]
theorem awr{w:World}{c off m:Nat}{d:Array α}{os:Array Obj}{arr:Array Value}{elem:TypeId}{fz:Nat×Nat}(h:w.heap[c]?=some (.cells arr elem fz)) :
  (Go.Proofs.sortWorldK eV k w c off m d os).heap[c]?=some (.cells (putCells id off (flatK eV k d) arr) elem fz):=by
 have hc:c<w.heap.size:=(Array.getElem?_eq_some_iff.1 h).1;simp only[Go.Proofs.sortWorldK,grow,putRowK,putRow,mapBlock,Go.Sort.ahead,Array.getElem?_append,Array.size_modify,hc,if_true,Array.getElem?_modify,h,Option.map_some,onCells]
theorem Mo{w:World}{c off m:Nat}{d:Array α}{os:Array Obj}{c':Nat}(bT:c'≠c)(h:c'<w.heap.size) :
  (Go.Proofs.sortWorldK eV k w c off m d os).heap[c']?=w.heap[c']?:=by
 simp only[Go.Proofs.sortWorldK,grow,putRowK,putRow,mapBlock,Go.Sort.ahead,Array.getElem?_append,Array.size_modify,h,if_true,Array.getElem?_modify,Ne.symm bT,if_false]
theorem ahi{w:World}{c off m:Nat}{d:Array α}{os:Array Obj}:w.heap.size≤(Go.Proofs.sortWorldK eV k w c off m d os).heap.size:=by simp[Go.Proofs.sortWorldK,grow,putRowK,putRow,mapBlock,Go.Sort.ahead]
theorem aaX{w:World}{B c off m:Nat}{d:Array α}{os:Array Obj}(hB:B≤c)(hw:B≤w.heap.size):Below B w (Go.Proofs.sortWorldK eV k w c off m d os):=
 ⟨rfl,rfl,rfl,ahi,fun i hi=>Mo (by omega) (by omega)⟩
theorem Tr{W w':World}(hb:Below W.heap.size W w')(hd:W.drawn≤w'.drawn):∃q os',w'=grow (W.drewN q) os':=by
 refine⟨w'.drawn-W.drawn,w'.heap.extract W.heap.size w'.heap.size,?_⟩;obtain⟨h1,h2,h3,h4,h5⟩:=hb;have he:w'.heap=W.heap++w'.heap.extract W.heap.size w'.heap.size:=by
  apply Array.ext_getElem?;intro i;rw[Array.getElem?_append];split
  ·rename_i hi;exact h5 i hi
  ·rename_i hi;rw[Array.getElem?_extract];by_cases hi2:i<w'.heap.size
   ·rw[if_pos (by omega)];congr 1;omega
   ·rw[if_neg (by omega),ZF (by omega)]
 cases w' with
 |mk heap tape drawn os output=>simp only[grow,World.drewN]at *;subst h1 h2 h3;congr 1;omega
end
section
variable{P:Program}{ρ:Nat→Int}{heap0:T ag}{C:bU}{α:Type}[Inhabited α]{k:Nat}{eA:α→List AV}{eV:α→List Value}
theorem arj{R:Go.Shelf.Ren}(hX:∀w0:W0,kl P heap0 w0→Ctx P ρ w0 C){cf:α→α→Int}{g:Nat}{nx0:Key}(hn:P.globals.size≤nx0.toNat)
  (hc:∀x y,aM C g [.agg (eA x),.agg (eA y)] heap0 nx0 fun o _ _=>o=.ret (.int .i64 (.lit (cf x y))))
  {w0:W0} (hL:kl P heap0 w0) {w:World} {μ:Mu} {G:Key→Option ag} {nx:Nat} (hM:bC P ρ w0 μ G nx w) {c off n:Nat} (vf:∀x,aA ρ μ (eA x) (eV x)) (hkf:∀x,AV.IP (eA x)=true) (td:w0.heap.size≤c) (Ov:∀i,μ.fz c i=none) (IN:c<w.heap.size) :
  Go.Proofs.CmpLays P g #[] eV k cf c off n w:=by
 intro m os dk _ x y;have hb:Below w0.heap.size w0.toWorld (Go.Proofs.sortWorldK eV k w c off m dk os):=hM.below.trans (aaX td hM.below.size);have hL1:kl P heap0 ⟨Go.Proofs.sortWorldK eV k w c off m dk os,μ.fz⟩:=hL.am4 hb hM.zle;have hz:∀c' i v,μ.fz c' i=some v→∃arr elem f,(Go.Proofs.sortWorldK eV k w c off m dk os).heap[c']?=some (.cells arr elem f)∧arr[i]?=some v:=by
  intro c' i v h1;obtain⟨arr,elem,f,h2,h3⟩:=hM.Xl _ _ _ h1;refine⟨arr,elem,f,?_,h3⟩;have bT:c'≠c:=by rintro rfl;rw[Ov]at h1;cases h1
  rw[Mo bT (Array.getElem?_eq_some_iff.1 h2).1];exact h2
 have hM1:=Ip (ρ:=ρ) (w0:=⟨Go.Proofs.sortWorldK eV k w c off m dk os,μ.fz⟩) hL1 hz (nx:=nx0.toNat) hn;have hr:∀x,aA ρ (gMu P heap0 μ.fz) (eA x) (eV x):=fun x=>aA.kf (μ:=μ) (μ':=gMu P heap0 μ.fz) (fun _ _ _ h=>h) (vf x) (hkf x);have ha:aA ρ (gMu P heap0 μ.fz) [.agg (eA x),.agg (eA y)] (#[Value.agg (eV x).toArray,.agg (eV y).toArray] ++ #[]).toList:=
  .cons _ _ _ _ (.agg _ _ (by simpa using hr x)) (.cons _ _ _ _ (.agg _ _ (by simpa using hr y)) .nil)
 refine(GJ (hX _ hL1) hM1 (fun _ _ h=>h) ha (fun o _ _ h=>⟨_,h⟩) (hc x y)).mono ?_;rintro e w' ⟨v,h',nx',u,μ2,G2,hr,rfl,hv,_,hM2,_⟩;cases hr;refine⟨?_,Tr hM2.below hM2.dr⟩;cases hv with
 |int _ _ n h=>rw[←h];rfl
def aef(arr:Array Value)(o k j:Nat):List Value:=(arr.toList.drop (o+j*k)).take k
theorem aaY{arr:Array Value}{o k j r:Nat}(hr:r<k):(aef arr o k j)[r]?=arr[o+j*k+r]?:=by unfold aef;rw[List.getElem?_take_of_lt hr,List.getElem?_drop];simp
theorem holds_of{w:World}{c off n:Nat}[Inhabited (_root_.Fin n)]{arr:Array Value}{elem:TypeId}(ho:w.heap[c]?=some (.cells arr elem (0,0)))(hs:∀i,i<n*k→∃v,arr[off+i]?=some v) :
  HoldsK (fun j:_root_.Fin n=>aef arr off k j) k w c off (List.finRange n).toArray:=by
 intro j hj;rw[size_flatK]at hj;have hlen:j<n*k:=by simpa using hj
 have hk:0<k:=by
  rcases Nat.eq_zero_or_pos k with e|e
  ·subst e;simp at hlen
  ·exact e
 have hq:j / k<n:=Nat.div_lt_of_lt_mul (by rw[Nat.mul_comm];exact hlen);have hr:j%k<k:=Nat.mod_lt _ hk;obtain⟨v,hv⟩:=hs j hlen;refine⟨?_,?_⟩
 ·simp only[World.cell?,ho,hv,Option.isSome_none,UT,if_false,id];rw[get_flatK _ _ _ _ hj];have e1:(List.finRange n).toArray[j / k]! = ⟨j / k,hq⟩:=by simp[hq]
  have e2:off+j / k*k+j%k=off+j:=by rw[Nat.add_assoc,Nat.div_add_mod' j k]
  rw[e1,List.getElem!_eq_getElem?_getD,aaY hr,e2,hv];rfl
 ·simp[World.frozen?,ho]
theorem aje{β:Type}{enc:β→List AV}(hX:∀w0:W0,kl P heap0 w0→Ctx P ρ w0 C){R:Go.Shelf.Ren}(L:Go.Proofs.SlLaysF0.n6 P R)(aE:∀w,(isAgg (R.t 24)).run P w=.ok true w)(zE:∀w,(Go.sizeOf (R.t 24)).run P w=.ok k w)(F:Flat k enc)(hkf:∀x,AV.IP (enc x)=true){cf:β→β→Int}(hO:SWO (Go.Proofs.ltOf cf))
  (hT:∀x y,Go.Proofs.ltOf cf x y=false→Go.Proofs.ltOf cf y x=false→x=y) {g:Nat} (eg:∀args w,(callFunc g args).run P w=.ok (.enter g args) w) {nx0:Key} (hn:P.globals.size≤nx0.toNat)
  {us:List β} (Gg:us.Nodup) (hc:∀x∈us,∀y∈us,aM C g [.agg (enc x),.agg (enc y)] heap0 nx0 fun o _ _=>o=.ret (.int .i64 (.lit (cf x y)))) (hz:us.length<4611686018427387904)
  {w0:W0} (hL:kl P heap0 w0) {H:T ag} {nx b:Key} (hb:ae b H=some (.cells (ai enc us) .fix)) :
  Lg P ρ w0 (R.f 6) [.slice b 0 us.length k,.fn g [] []] H nx (.tuple []) (au b (some (.cells (ai enc (us.mergeSort fun x y=>!(Go.Proofs.ltOf cf) y x)) .fix)) H) nx:=by
 intro args w μ G hM hH ha;obtain⟨args⟩:=args;have ha:aA ρ μ [.slice b 0 us.length k,.fn g [] []] args:=ha;cases ha with
 |cons _ _ v1 r1 h1 EL=>
 cases EL with
 |cons _ _ v2 r2 h2 ND=>
 cases ND;cases h2 with
 |fn _ _ _ vs ws hvs hws=>
 obtain⟨vs⟩:=vs;obtain⟨ws⟩:=ws;have hvs:aA ρ μ [] vs:=hvs;have hws:aA ρ μ [] ws:=hws;cases hvs;cases hws;cases h1 with
 |slice _ _ _ _ cap l a hl xq hle am5=>
 have hG:=hH _ _ hb;obtain⟨l',o,Ta,ho,hB⟩:=hM.mD _ _ hG;rw[hl]at Ta;cases Ta;cases hB with
 |cells _ _ _ arr elem fz zr yU azO aH2 am6=>
 have aH3:=aH2 (by simp);subst aH3;have am6:=am6 (by simp);have td:w0.heap.size≤l.c:=by
  rcases hM.own _ _ _ hG hl with h|h
  ·exact h.elim
  ·exact h
 have hfr:∀i,μ.fz l.c i=none:=fun i=>hM.fzf b _ l 0 hG hl rfl i (Nat.zero_le _);have aws:=hM.Cr _ _ hl;have atW:=F.rows us;by_cases h0:us=[]
 ·subst h0;refine(Go.Proofs.AnyF.slices_SortFunc_none L (some a) cap (.func (.func g) #[] #[]) w).mono ?_;rintro e w' ⟨rfl,rfl⟩;refine⟨_,μ,G,rfl,.tuple _ _ .nil,μ.le_refl,hM,?_,⟨fun _ _ _=>rfl,fun _ _=>rfl,fun b' h' _=>?_,dQ _⟩⟩
  ·intro b' B' h';by_cases e:b'=b
   ·subst e;rw[gTSm]at h';cases h';simpa using hG
   ·rw[aG _ _ _ _ e]at h';exact hH _ _ h'
  ·have e:b'≠b:=by rintro rfl;rw[hb]at h';cases h'
   rw[aG _ _ _ _ e];exact h'
 ·have Ef:0<us.length:=List.length_pos_iff.2 h0;have am5:a=⟨l.c,l.base,none⟩:=by
   rcases am5 with h|h
   ·omega
   ·exact h
  subst am5
  let eA:_root_.Fin us.length→List AV:=fun j=>enc us[j]
  let eV:_root_.Fin us.length→List Value:=fun j=>aef arr l.base k j
  let cg:_root_.Fin us.length→_root_.Fin us.length→Int:=fun i j=>cf us[i] us[j]
  haveI:Inhabited (_root_.Fin us.length):=⟨⟨0,Ef⟩⟩
  have FA:Flat k eA:=⟨fun x=>F.len _,fun x=>F.wH _,fun x=>F.cell _,fun x=>F.lits _⟩;have am7:∀i,i<us.length*k→∃v,arr[l.base+i]?=some v:=fun i hi=>by obtain⟨v,hv,_⟩:=zr i _ (A6 (by rw[atW];exact hi));exact⟨v,hv⟩
  have hjk:∀(j:_root_.Fin us.length) r,r<k→j.1*k+r<us.length*k:=fun j r hr=>by have:=Nat.mul_le_mul_right k (show j.1+1≤us.length from j.2);rw[Nat.add_mul,Nat.one_mul]at this;omega
  have atX:∀j,(eV j).length=k:=fun j=>by
   show(aef arr l.base k j).length=k;unfold aef;rw[Zo,List.length_drop,Nat.min_eq_left];rcases Nat.eq_zero_or_pos k with e|e
   ·omega
   ·obtain⟨v,hv⟩:=am7 _ (hjk j (k-1) (by omega));have:=(Array.getElem?_eq_some_iff.1 hv).1;simp;omega
  have vf:∀x,aA ρ μ (eA x) (eV x):=fun x=>by
   refine aA.Rg (by rw[atX];exact F.len _) fun r a ha=>?_;have hr:r<k:=by have:=(List.getElem?_eq_some_iff.1 ha).1;rw[show(eA x).length=k from F.len _]at this;exact this
   have hg:=WM F (l:=us) (i:=x.1) x.2 hr;obtain⟨v,hv,hvr⟩:=zr _ a (hg.trans ha);refine⟨v,?_,hvr⟩;show(aef arr l.base k x)[r]?=some v;rw[aaY hr,Nat.add_assoc];exact hv
  have awt:∀x,∀v∈eV x,v.oneCell'=true:=fun x=>zM (vf x) (AQ.2 (F.cell _));have hOg:SWO (Go.Proofs.ltOf cg):=⟨fun x=>hO.irrefl _,fun x y z=>hO.trans _ _ _,fun x y z=>hO.ntrans _ _ _⟩;have hTg:∀x y,Go.Proofs.ltOf cg x y=false→Go.Proofs.ltOf cg y x=false→x=y:=fun x y h1 h2=>by
   have e:=hT _ _ h1 h2;rw[List.nodup_iff_pairwise_ne,List.pairwise_iff_getElem]at Gg;rcases Nat.lt_trichotomy x.1 y.1 with h|h|h
   ·exact absurd e (Gg _ _ x.2 y.2 h)
   ·exact Fin.ext h
   ·exact absurd e.symm (Gg _ _ y.2 x.2 h)
  have aH4:(List.finRange us.length).length=us.length:=List.length_finRange;have hH1:HoldsK eV k w l.c l.base (List.finRange us.length).toArray:=holds_of ho am7;have aH5:(List.finRange us.length).toArray.size=us.length:=by simp
  have key:=Go.Proofs.AnyQ.slices_SortFunc_total L k aE zE eV atX awt cg hOg g #[] l.c l.base cap (List.finRange us.length).toArray w eg
   (arj (R:=R) (eA:=eA) hX hn (fun x y=>hc _ (DX _) _ (DX _)) hL hM vf (fun x=>hkf _) td hfr aws) hH1 aws (by simpa using hz) hTg
  rw[aH5]at key;refine(show Calls P (R.f 6) #[.slice (some ⟨l.c,l.base,none⟩) us.length cap,.func (.func g) #[] #[]] w _ from key).mono ?_;rintro e w' ⟨rfl,n,os,rfl⟩;have hlen:((List.finRange us.length).mergeSort fun x y=>!(Go.Proofs.ltOf cg) y x).length=us.length:=by rw[List.length_mergeSort,aH4]
  have HK:ai enc (us.mergeSort fun x y=>!(Go.Proofs.ltOf cf) y x)=ai eA ((List.finRange us.length).mergeSort fun x y=>!(Go.Proofs.ltOf cg) y x):=by
   have e:=List.map_mergeSort (r:=fun x y:_root_.Fin us.length=>!(Go.Proofs.ltOf cg) y x) (s:=fun x y:β=>!(Go.Proofs.ltOf cf) y x) (f:=fun j=>us[j]) (l:=List.finRange us.length) (fun a _ b _=>rfl);have e2:(List.finRange us.length).map (fun j=>us[j])=us:=by apply List.ext_getElem (by simp);intro i h1 h2;simp
   rw[e2]at e;rw[←e];simp only[ai,List.flatMap_map];rfl
  rw[HK];simp only[List.toList_toArray]at *;generalize hsd:((List.finRange us.length).mergeSort fun x y=>!(Go.Proofs.ltOf cg) y x)=sd at hlen ⊢;have hH2:HoldsK eV k (Go.Proofs.sortWorldK eV k w l.c l.base n sd.toArray os) l.c l.base sd.toArray:=Go.Proofs.holdsK_sortWorldK_c eV k w l.c l.base (List.finRange us.length).toArray sd.toArray n os hH1 aws (by simpa using hlen);have aqU:=awr (eV:=eV) (k:=k) (off:=l.base) (m:=n) (d:=sd.toArray) (os:=os) ho;have aAP:∀b' B' l',b'≠b→G b'=some B'→μ b'=some l'→(Go.Proofs.sortWorldK eV k w l.c l.base n sd.toArray os).heap[l'.c]?=w.heap[l'.c]?:=fun b' B' l' bT hg hm=>Mo (hM.sep _ _ _ _ _ _ hg hG hm hl bT) (hM.Cr _ _ hm);have am8:=FA.rows sd;have hsr:(ai eA sd).length=(ai enc us).length:=by rw[am8,atW,hlen]
  refine⟨_,μ,jv G b (some (.cells (ai eA sd) .fix)),rfl,.tuple _ _ .nil,μ.le_refl,?_,?_,⟨fun b' h' _=>?_,fun _ _=>rfl,fun b' h' _=>?_,dQ _⟩⟩
  ·refine⟨?_,?_,?_,?_,hM.P4,hM.new,hM.below.trans (aaX td hM.below.size),?_,?_,hM.zle,hM.fzo,?_,?_⟩
   ·intro b' B' hg;by_cases e:b'=b
    ·subst e;rw[fh]at hg;cases hg;refine⟨l,_,hl,aqU,.cells _ _ _ _ _ _ ?_ ?_ ?_ (fun _=>rfl) ?_⟩
     ·intro i x hx;have hi:i<sd.length*k:=by rw[←am8];exact(List.getElem?_eq_some_iff.1 hx).1
      have hj:=(hH2 i (by rw[size_flatK];simpa using hi)).1;simp only[World.cell?,aqU,Option.isSome_none,UT,if_false,id]at hj;refine⟨_,hj,?_⟩;have hk:0<k:=by
       rcases Nat.eq_zero_or_pos k with e|e
       ·subst e;simp at hi
       ·exact e
      have hq:i / k<sd.length:=Nat.div_lt_of_lt_mul (by rw[Nat.mul_comm];exact hi);have hr:i%k<k:=Nat.mod_lt _ hk;rw[get_flatK _ _ _ _ (by simpa using hi)];have e1:sd.toArray[i / k]! = sd[i / k]:=by simp[hq]
      have Gb:=WM FA hq hr;rw[Nat.div_add_mod' i k,hx]at Gb;obtain⟨v,hv,vf⟩:=(vf sd[i / k]).get _ _ Gb.symm;rw[e1,List.getElem!_eq_getElem?_getD,hv];exact vf
     ·simpa[putCells]using yU
     ·rw[hsr];exact azO
     ·intro _;rw[hsr];exact am6
    ·rw[bQ _ _ e]at hg;obtain⟨l2,o2,h3,h4,h5⟩:=hM.mD _ _ hg;exact⟨l2,o2,h3,by rw[aAP _ _ _ e hg h3];exact h4,h5⟩
   ·intro b1 b2 B1 B2 l1 l2 g1 g2 m1 m2 bT;have:∀b' B',jv G b (some (.cells (ai eA sd) .fix)) b'=some B'→∃B'',G b'=some B'':=by
     intro b' B' h';by_cases e:b'=b
     ·subst e;exact⟨_,hG⟩
     ·rw[bQ _ _ e]at h';exact⟨_,h'⟩
    obtain⟨x1,y1⟩:=this _ _ g1;obtain⟨x2,y2⟩:=this _ _ g2;exact hM.sep _ _ _ _ _ _ y1 y2 m1 m2 bT
   ·intro b' l2 hm;exact Lm (hM.Cr _ _ hm) ahi
   ·intro b' B' l2 hg hm;by_cases e:b'=b
    ·subst e;rw[hl]at hm;cases hm;exact .inr td
    ·rw[bQ _ _ e]at hg;exact hM.own _ _ _ hg hm
   ·intro c' i v hv;have bT:c'≠l.c:=by rintro rfl;rw[hfr]at hv;cases hv
    obtain⟨aH6,el,f,h3,h4⟩:=hM.Xl _ _ _ hv;exact⟨aH6,el,f,by rw[Mo bT (Array.getElem?_eq_some_iff.1 h3).1];exact h3,h4⟩
   ·intro b' B' l2 n2 hg hm AO i hi;by_cases e:b'=b
    ·subst e;rw[hl]at hm;cases hm;exact hfr i
    ·rw[bQ _ _ e]at hg;exact hM.fzf _ _ _ _ hg hm AO i hi
   ·intro b' L2 l2 hg hm;by_cases e:b'=b
    ·subst e;rw[fh]at hg;cases hg
    ·rw[bQ _ _ e]at hg;rw[aAP _ _ _ e hg hm];exact hM.rof _ _ _ hg hm
   ·show w0.drawn≤w.drawn+n;have:=hM.dr;omega
  ·intro b' B' h';by_cases e:b'=b
   ·subst e;rw[gTSm]at h';rw[fh];exact h'
   ·rw[aG _ _ _ _ e]at h';rw[bQ _ _ e];exact hH _ _ h'
  ·have e:b'≠b:=by rintro rfl;rw[hb]at h';cases h'
   rw[bQ _ _ e]
  ·have e:b'≠b:=by rintro rfl;rw[hb]at h';cases h'
   rw[aG _ _ _ _ e];exact h'
end
end Go.Sx
namespace Go.Proofs
open Go.Shelf
def Tryz.laysS_ren:Go.Shelf.Ren:=⟨fun|6=>63|15=>136|14=>135|28=>218|29=>219|20=>210|21=>211|22=>212|23=>213|24=>214|25=>215|26=>216|27=>217|46=>280|47=>281|48=>282|49=>283|50=>284|57=>343|n=>n,fun|22=>33|24=>145|25=>153|3=>3|39=>283|0=>0|53=>372|55=>223|4=>4|46=>366|45=>365|50=>197|5=>5|9=>9|66=>438|70=>441|76=>478|77=>479|n=>n,fun|n=>n⟩
theorem Tryz.laysS:Go.Proofs.SlLaysF0.n6 Tryz.prog Tryz.laysS_ren:={
 mixed:=by kernel_rfl
 f6:=⟨Tryz.f63.name,by decide,Tryz.func63.trans (congrArg some (by kernel_rfl))⟩
 f14:=⟨Tryz.f135.name,by decide,Tryz.func135.trans (congrArg some (by kernel_rfl))⟩
 f15:=Tryz.func136.trans (congrArg some (by kernel_rfl))
 f20:=⟨Tryz.f210.name,by decide,Tryz.func210.trans (congrArg some (by kernel_rfl))⟩
 f21:=⟨Tryz.f211.name,by decide,Tryz.func211.trans (congrArg some (by kernel_rfl))⟩
 f22:=⟨Tryz.f212.name,by decide,Tryz.func212.trans (congrArg some (by kernel_rfl))⟩
 f23:=⟨Tryz.f213.name,by decide,Tryz.func213.trans (congrArg some (by kernel_rfl))⟩
 f24:=⟨Tryz.f214.name,by decide,Tryz.func214.trans (congrArg some (by kernel_rfl))⟩
 f25:=⟨Tryz.f215.name,by decide,Tryz.func215.trans (congrArg some (by kernel_rfl))⟩
 f26:=⟨Tryz.f216.name,by decide,Tryz.func216.trans (congrArg some (by kernel_rfl))⟩
 f27:=⟨Tryz.f217.name,by decide,Tryz.func217.trans (congrArg some (by kernel_rfl))⟩
 f28:=Tryz.func218.trans (congrArg some (by kernel_rfl))
 f29:=Tryz.func219.trans (congrArg some (by kernel_rfl))
 f46:=⟨Tryz.f280.name,by decide,Tryz.func280.trans (congrArg some (by kernel_rfl))⟩
 f47:=Tryz.func281.trans (congrArg some (by kernel_rfl))
 f48:=Tryz.func282.trans (congrArg some (by kernel_rfl))
 f49:=⟨Tryz.f283.name,by decide,Tryz.func283.trans (congrArg some (by kernel_rfl))⟩
 f50:=⟨Tryz.f284.name,by decide,Tryz.func284.trans (congrArg some (by kernel_rfl))⟩
 f57:=⟨Tryz.f343.name,by decide,Tryz.func343.trans (congrArg some (by kernel_rfl))⟩
 t0:=Tryz.underlying0
 a0:=Tryz.isAgg0
 z0:=Tryz.sizeOf0
 v0:=Tryz.zeroValue0
 t3:=Tryz.underlying3
 a3:=Tryz.isAgg3
 z3:=Tryz.sizeOf3
 v3:=Tryz.zeroValue3
 t4:=Tryz.underlying4
 a4:=Tryz.isAgg4
 z4:=Tryz.sizeOf4
 v4:=Tryz.zeroValue4
 t5:=Tryz.underlying5
 a5:=Tryz.isAgg5
 z5:=Tryz.sizeOf5
 v5:=Tryz.zeroValue5
 t9:=Tryz.underlying9
 a9:=Tryz.isAgg9
 z9:=Tryz.sizeOf9
 v9:=Tryz.zeroValue9
 t22:=Tryz.underlying33
 a22:=Tryz.isAgg33
 z22:=Tryz.sizeOf33
 v22:=Tryz.zeroValue33
 t25:=Tryz.underlying153
 a25:=Tryz.isAgg153
 z25:=Tryz.sizeOf153
 v25:=Tryz.zeroValue153
 t39:=Tryz.underlying283
 a39:=Tryz.isAgg283
 z39:=Tryz.sizeOf283
 v39:=Tryz.zeroValue283
 t45:=Tryz.underlying365
 a45:=Tryz.isAgg365
 z45:=Tryz.sizeOf365
 v45:=Tryz.zeroValue365
 t46:=Tryz.underlying366
 a46:=Tryz.isAgg366
 z46:=Tryz.sizeOf366
 v46:=Tryz.zeroValue366
 t50:=Tryz.underlying197
 a50:=Tryz.isAgg197
 z50:=Tryz.sizeOf197
 v50:=Tryz.zeroValue197
 t53:=Tryz.underlying372
 a53:=Tryz.isAgg372
 z53:=Tryz.sizeOf372
 v53:=Tryz.zeroValue372
 t55:=Tryz.underlying223
 a55:=Tryz.isAgg223
 z55:=Tryz.sizeOf223
 v55:=Tryz.zeroValue223
 t66:=Tryz.underlying438
 a66:=Tryz.isAgg438
 z66:=Tryz.sizeOf438
 v66:=Tryz.zeroValue438
 t70:=Tryz.underlying441
 a70:=Tryz.isAgg441
 z70:=Tryz.sizeOf441
 v70:=Tryz.zeroValue441
 t76:=Tryz.underlying478
 a76:=Tryz.isAgg478
 z76:=Tryz.sizeOf478
 v76:=Tryz.zeroValue478
 t77:=Tryz.underlying479
 a77:=Tryz.isAgg479
 z77:=Tryz.sizeOf479
 v77:=Tryz.zeroValue479}
end Go.Proofs
namespace Ln
def ZU(a b:Cf St):Prop:=a.1<b.1∨a.1=b.1∧lL a.2 b.2<0
theorem ahS(a:Cf St):¬ZU a a:=by
 rintro(h|⟨_,h⟩)
 ·omega
 ·rw[yY.2 rfl]at h;omega
theorem aey{a b c:Cf St}(h:ZU a b)(k:ZU b c):ZU a c:=by
 rcases h with h|⟨h1,h2⟩<;>rcases k with k|⟨k1,k2⟩
 ·exact .inl (by omega)
 ·exact .inl (by omega)
 ·exact .inl (by omega)
 ·exact .inr ⟨by omega,D9 h2 k2⟩
theorem IB{α:Type}[DecidableEq α]:∀{l m:List α},l.Nodup→(∀x∈l,x∈m)→l.length≤m.length
 | [],m,_,_=>Nat.zero_le _
 |a ::l,m,h,hs=>by rw[List.nodup_cons]at h;have ha:a∈m:=hs a (by simp);have h1:=IB (l:=l) (m:=m.erase a) h.2 fun x hx=>(List.mem_erase_of_ne (by rintro rfl;exact h.1 hx)).2 (hs x (by simp[hx]));have h2:=List.length_erase_of_mem ha;have h3:0<m.length:=List.length_pos_of_mem ha;simp only[List.length_cons];omega
section
variable{σ:Type}[DecidableEq σ]
structure Uh(S:Sys σ)(L bad:List (Cf σ)):Prop where
 nodup:bad.Nodup
 sub:∀x∈bad,x∈L
 no:∀x∈bad,¬Good S x
theorem Uh.nil(S:Sys σ)(L:List (Cf σ)):Uh S L []:=⟨by simp,by simp,by simp⟩
theorem Uh.len{S:Sys σ}{L bad:List (Cf σ)}(h:Uh S L bad):bad.length≤L.length:=IB h.nodup h.sub
theorem Uh.add{S:Sys σ}{L bad:List (Cf σ)}{c:Cf σ}(h:Uh S L bad)(hc:c∈L)(hn:c∉bad)(hg:¬Good S c):Uh S L (bad ++ [c]):=by
 refine⟨?_,?_,?_⟩
 ·rw[List.nodup_append];refine⟨h.nodup,by simp,?_⟩;intro a ha b hb;simp at hb;rintro rfl;subst hb;exact hn ha
 ·intro x hx;rcases List.mem_append.1 hx with hx|hx
  ·exact h.sub x hx
  ·simp at hx;subst hx;exact hc
 ·intro x hx;rcases List.mem_append.1 hx with hx|hx
  ·exact h.no x hx
  ·simp at hx;subst hx;exact hg
end
end Ln
namespace Ln
open Go.Sx Go
theorem aAa(z:Cf St):List.drop 5 (eC z)=[]:=rfl
theorem aiR(X:Kn)(i:Nat)(os:List Op)(c:Cf St)(j:Nat):(aK X i os).step c j=if pg os j c.1=true then(X.take (cm i (os.getD j default)) (os.getD j default) c.2).map (fun s=>(j,(c.1+2^j,s)))else none:=rfl
theorem avx(s:St):AV.beq (.agg (eS s)) (.agg (eS s))=true:=beq_refl _ (by simp[eS,AV.lits,AV.gS,CW,I])
variable{C:bU}{X:Kn}(S:Std C X)
include S
end Ln
namespace Ln
open Go.Sx Go
variable{C:bU}{X:Kn}(S:Std C X)
include S
end Ln
namespace Ln
open Go.Sx Go
theorem _root_.Go.Sx.gR.rd{α:Type}{z:Nat}{enc:α→List AV}{c:AV}{l:List α}(g:gR z enc c l)(h:T ag)(nx:Key):Rd z c (ai enc l) l.length h nx:=by
 rcases g with⟨e,rfl⟩|e
 ·exact .inl ⟨e,rfl,rfl⟩
 ·exact .inr (.inl ⟨_,e⟩)
theorem awE(z:Cf St)(H:T ag):cn (aW 9999) (eC z) H=(eC z,H):=dw (wM.wH _)
variable{C:bU}{X:Kn}(S:Std C X)
include S
end Ln
namespace Ln
open Go.Sx Go
theorem Jn{i:Nat}{s:St}(h:iX i s):s.kids.length≤3:=Nat.le_trans h (adz i)
variable{C:bU}{X:Kn}(S:Std C X)
include S
theorem Nk{i:Nat}(hi:i<3){os:List Op}(yb:ux i os=0){c:Cf St}(hs:iX i c.2):∀x∈(aK X i os).steps c,iX i x.2.2:=by intro x hx;obtain⟨k,c'⟩:=x;obtain⟨h1,_,_,h4⟩:=CX hx;have hk:k<os.length:=h1;have h4:X.take (cm i (os.getD k default)) (os.getD k default) c.2=some c'.2:=h4;rw[kF hk]at h4;have hco:=Xx hi yb (A6 hk);have:=S.ok.take (cm i os[k]) os[k] c.2 c'.2 (by rw[hco.yW];exact hs) hco.ar h4;rw[hco.yW]at this;exact this
end Ln
namespace Go.Sx
open Go
section
variable{z:Nat}{c:AV}{α:Type}{enc:α→List AV}{us:List α}{h:T ag}{nx:Key}
theorem Rd.ixS(F:Flat z enc)(g:Rd z c (ai enc us) us.length h nx){i:Nat}(hi:i<us.length){C:bU}{Q:cJ}{ds:List Key}{aq:List (Nat×Key×ag)}{L:List aS}{tm:T AV}{n2 k1 k2 d1 d2:Key}{a b:Nat}{gu:Option (Key×Bool)}(h1:ae k1 tm=some c)(h2:ae k2 tm=some (I i))
  (hg:dp gu tm=some true) (hg2:dp gu (au d1 (some (I1 z i c)) tm)=some true) :
  wpS C Q ⟨ds,[]⟩ (.L a ⟨some d1,.indexL z (.t k1) (.t k2),gu⟩ ::.L b ⟨some d2,.load true z (.t d1),gu⟩ ::L) aq tm h n2=wpS C Q ⟨ds,[]⟩ L aq (au d2 (some (.agg (enc us[i]))) (au d1 (some (I1 z i c)) tm)) h n2:=by
 have hr:=F.rows us;have he:=F.at hi;have hl:=F.len us[i];have tx:z≤us.length*z-i*z:=by rw[←Nat.sub_mul];exact Nat.le_mul_of_pos_left z (by omega)
 have tk:List.take z (enc us[i])=enc us[i]:=PV (by omega);rcases g with⟨_,_,e⟩|⟨f,rfl⟩|⟨b,k,rfl,hb,_,_⟩
 ·omega
 ·simp only[I1]at hg2;simp[h1,h2,hi,hr,tx,he,hl,tk,I1,hg];rw[he]at hg2;rw[hg2];simp[hl,tk]
 ·simp only[I1]at hg2;simp[h1,h2,hi,hr,tx,he,hl,tk,I1,hb,hg];rw[Nat.zero_add]at hg2;rw[hg2];simp[hb,hr,tx,he]
end
theorem Gr.add0{z:Nat}{c:AV}{l:List AV}{len:Nat}{h:T ag}{nx:Key}{ob:Option Key}(g:Gr z c l len h nx ob)(hl:len≤1048576):∃h',appendTo z c [] 0 h nx=.val c h' nx∧∀b:Key,ae b h'=ae b h:=by
 rcases g with⟨rfl,rfl,rfl,rfl⟩|⟨b,k,rfl,rfl,h2,h3,h4,hk⟩|⟨t,rfl,rfl,h2,h3⟩
 ·exact⟨h,by simp,fun _=>rfl⟩
 ·rcases hk with rfl|rfl
  ·exact⟨h,by simp[h2,hl],fun _=>rfl⟩
  ·refine⟨au b (Qw l) h,by simp[h2,hl,h4],fun x=>?_⟩;by_cases e:x=b
   ·subst e;simp[h2]
   ·rw[aG _ _ _ _ e]
 ·exact⟨h,by simp,fun _=>rfl⟩
end Go.Sx
namespace Ln
open Go.Sx Go
variable{C:bU}{X:Kn}(S:Std C X)
include S
end Ln
namespace Ln
open Go.Sx Go
theorem _root_.Go.Sx.Kj.cut{h h' h2:T ag}{nx nx' n2:Key}{o8 o6:Option Key}(a:Kj h nx none h' nx' o8)(b:Kj h' nx' none h2 n2 o6):Kj h nx none h2 n2 o6:=by
 have n1:=a.n;refine⟨Nat.le_trans a.n b.n,fun x hx _=>?_,?_⟩
 ·rw[b.g x (by omega) (by simp)];exact a.g x hx (by simp)
 ·rcases b.o with e|⟨y,e,hy⟩
  ·exact .inl e
  ·exact .inr ⟨y,e,by omega⟩
theorem _root_.Go.Sx.Gr.OC{z:Nat}{c:AV}{α:Type}{enc:α→List AV}(F:Flat z enc){us:List α}{h:T ag}{nx:Key}{ob:Option Key}(g:Gr z c (ai enc us) us.length h nx ob)(n:Nat):gR z enc (aW (n+1) c h).1 us∧∀b:Key,ob≠some b→ae b (aW (n+1) c h).2=ae b h:=by
 rcases g with⟨rfl,e1,e2,_⟩|⟨b,k,rfl,rfl,hb,_,hl,hk⟩|⟨t,rfl,rfl,_⟩
 ·exact⟨.inl ⟨rfl,zqr e2⟩,fun _ _=>rfl⟩
 ·rcases hk with rfl|rfl
  ·rw[CM hb hl (F.IL us)];exact⟨.inr rfl,fun x hx=>aG _ _ _ _ (fun e=>hx (by rw[e]))⟩
  ·rw[wF hb hl (F.IL us)];exact⟨.inr rfl,fun x hx=>aG _ _ _ _ (fun e=>hx (by rw[e]))⟩
 ·exact⟨.inr rfl,fun _ _=>rfl⟩
variable{C:bU}{X:Kn}(S:Std C X)
include S
end Ln
namespace Ln
open Go.Sx Go
variable{C:bU}{X:Kn}(S:Std C X)
include S
end Ln
namespace Ln
open Go.Sx Go
theorem _root_.Go.Sx.Rd.app{z:Nat}{c:AV}{α:Type}{enc:α→List AV}{us:List α}{h:T ag}{nx:Key}(F:Flat z enc)(g:Rd z c (ai enc us) us.length h nx){C:bU}{Q:cJ}{L:List aB}{tm:T AV}{n2 k1 k3 d:Key}{s c':AV}{h':T ag}{n':Key}(ha:appendTo z s (ai enc us) us.length h n2=.val c' h' n')
  (h1:ae k1 tm=some c) (h3:ae k3 tm=some s) (k0:Jp z (.t k3)=false):ns C Q (⟨some d,.append z (.t k3) (.t k1),none⟩ ::L) tm h n2=ns C Q L (au d (some c') tm) h' n':=by
 have hr:=F.rows us;have QV:List.take (us.length*z) (ai enc us)=ai enc us:=PV (by omega);have hz:cn (aW 9999) (ai enc us) h=(ai enc us,h):=dw (F.IL _);rcases g with⟨rfl,e1,e2⟩|⟨f,rfl⟩|⟨b,kk,rfl,hb,_,_⟩
 ·have e0:us=[]:=zqr e2;subst e0;simp[-appendTo]at ha;simp[-appendTo,k0,h1,h3,ha]
 ·simp[-appendTo,k0,h1,h3,ha]
 ·simp[-appendTo,k0,h1,h3,hb,hr,QV,hz,ha]
theorem _root_.Go.Sx.Gr.own{z:Nat}{c:AV}{l:List AV}{len:Nat}{h:T ag}{nx:Key}{ob:Option Key}(g:Gr z c l len h nx ob){b:Key}{o n z':Nat}(e:c=.slice b o n z'):ob=some b:=by
 rcases g with⟨rfl,_⟩|⟨b',k,rfl,rfl,_⟩|⟨t,rfl,rfl,_⟩
 ·cases e
 ·cases e;rfl
 ·cases e
def uy(p:List Nat):List Int:=p.map fun k:Nat=>(k:Int)
variable{C:bU}{X:Kn}(S:Std C X)
include S
end Ln
namespace Ln
open Go.Sx Go
theorem _root_.Go.Sx.avd{n:Nat}{b:Key}{len sz:Nat}{l:List AV}{H:T ag}(hg:ae b H=some (.cells l .ro))(hl:l.length=len*sz)(hs:∀x∈l,UC x):aW (n+1) (.slice b 0 len sz) H=(.sl l len sz .any,H):=by simp only[aW,L9,hg,List.drop_zero];rw[if_pos (by omega),PV (by omega),dw hs]
theorem _root_.Go.Sx.Rd.OC{z:Nat}{c:AV}{α:Type}{enc:α→List AV}(F:Flat z enc){us:List α}{h:T ag}{nx n0:Key}(g:Rd z c (ai enc us) us.length h nx)(hn:∀b o n z',c=.slice b o n z'→n0.toNat≤b.toNat)(n:Nat) :
  gR z enc (aW (n+1) c h).1 us∧∀b:Key,b.toNat<n0.toNat→ae b (aW (n+1) c h).2=ae b h:=by
 rcases g with⟨rfl,e1,e2⟩|⟨f,rfl⟩|⟨b,k,rfl,hb,_,hl⟩
 ·exact⟨.inl ⟨rfl,zqr e2⟩,fun _ _=>rfl⟩
 ·exact⟨.inr rfl,fun _ _=>rfl⟩
 ·have h0:=hn b _ _ _ rfl;cases k with
  |part=>rw[CM hb hl (F.IL us)];exact⟨.inr rfl,fun x hx=>aw (by omega)⟩
  |fix=>rw[wF hb hl (F.IL us)];exact⟨.inr rfl,fun x hx=>aw (by omega)⟩
  |ro=>rw[avd hb hl (F.IL us)];exact⟨.inr rfl,fun x hx=>rfl⟩
abbrev aqA(X:Kn)(i:Nat)(l:List Ev):Sys St:=aK X i (aI 0 l)
variable{C:bU}{X:Kn}(S:Std C X)
include S
end Ln
namespace Ln
open Go.Sx Go
abbrev Ci:=Int×St
def eD(c:Ci):List AV:=[I c.1,I c.2.k,I c.2.n,.str 0 0,bB c.2.kids]
theorem Jm:Flat 5 eD where
 len _:=rfl
 wH x y hy:=by
  simp[eD]at hy;rcases hy with rfl|rfl|rfl|rfl|rfl
  ·exact dG _ _
  ·exact dG _ _
  ·exact dG _ _
  ·exact wC _ _
  ·exact kz _
 cell x y hy:=by simp[eD]at hy;rcases hy with rfl|rfl|rfl|rfl|rfl<;>first|rfl|exact(eu _).1
 lits x:=by simp[eD,AV.gS,AV.lits,CW,I]
theorem agN(z:Ci)(H:T ag):cn (aW 9998) (eD z) H=(eD z,H):=dw (Jm.wH _)
theorem Rq(z:Ci):List.take 5 (eD z)=eD z:=rfl
theorem Rr(z:Ci):(eD z).length=5:=rfl
theorem ak5(z:Ci):(eD z).all AV.aV=true:=AQ.2 (Jm.cell z)
def AN(c:Ci):Cf St:=(c.1.toNat,c.2)
def Gj(c:Cf St):Ci:=((c.1:Int),c.2)
theorem Ea(c:Cf St):AN (Gj c)=c:=by simp[AN,Gj]
theorem Rs(c:Cf St):eD (Gj c)=eC c:=rfl
theorem auQ{c:Ci}(h:0≤c.1):eC (AN c)=eD c:=by simp[eC,eD,AN];omega
theorem ZT:∀l:List (Cf St),ai eD (l.map Gj)=ai eC l
 | []=>rfl
 |c ::l=>by rw[zqx,dm,dm,Rs,ZT l]
def Ke(a b:Ci):Prop:=a.1<b.1∨a.1=b.1∧lL a.2 b.2<0
theorem ady{a b c:Ci}(h:Ke a b)(k:Ke b c):Ke a c:=by
 rcases h with h|⟨h1,h2⟩<;>rcases k with k|⟨k1,k2⟩
 ·exact .inl (by omega)
 ·exact .inl (by omega)
 ·exact .inl (by omega)
 ·exact .inr ⟨by omega,D9 h2 k2⟩
theorem QP{a b:Ci}(ha:0≤a.1)(hb:0≤b.1):ZU (AN a) (AN b)↔Ke a b:=by
 unfold ZU Ke AN;constructor
 ·rintro(h|⟨h,k⟩)
  ·exact .inl (by simp at h;omega)
  ·exact .inr ⟨by simp at h;omega,k⟩
 ·rintro(h|⟨h,k⟩)
  ·exact .inl (by simp;omega)
  ·exact .inr ⟨by simp;omega,k⟩
def gL(n:Nat)(l:List Ci):Prop:=∀(q:Nat) (hq:q<l.length),0≤l[q].1∧l[q].1<((2^n:Nat):Int)∧∀_:0<q,Ke l[q-1] l[q]
def Co(n:Nat)(l:List Ci)(j:Nat):Prop:=∀(q:Nat) (hq:q<l.length),q<j→0≤l[q].1∧l[q].1<((2^n:Nat):Int)∧∀_:0<q,Ke l[q-1] l[q]
theorem Co.zero(n:Nat)(l:List Ci):Co n l 0:=fun q hq h=>absurd h (by omega)
theorem Co.all{n:Nat}{l:List Ci}(h:Co n l l.length):gL n l:=fun q hq=>h q hq hq
theorem Co.step{n:Nat}{l:List Ci}{j:Nat}(h:Co n l j)(hj:j<l.length)(h1:0≤l[j].1)(h2:l[j].1<((2^n:Nat):Int))(h3:∀_:0<j,Ke l[j-1] l[j]):Co n l (j+1):=by
 intro q hq hqj;by_cases e:q=j
 ·subst e;exact⟨h1,h2,h3⟩
 ·exact h q hq (by omega)
theorem gL.pos{n:Nat}{l:List Ci}(h:gL n l):∀c∈l,0≤c.1:=by intro c hc;obtain⟨i,hi,rfl⟩:=List.getElem_of_mem hc;exact(h i hi).1
theorem gL.lt{n:Nat}{l:List Ci}(h:gL n l):∀c∈l.map AN,c.1<2^n:=by intro c hc;obtain⟨x,hx,rfl⟩:=KT.1 hc;obtain⟨i,hi,rfl⟩:=List.getElem_of_mem hx;have:=h i hi;show l[i].1.toNat<_;omega
theorem gL.up{n:Nat}{l:List Ci}(h:gL n l):∀(d i:Nat) (hj:i+d+1<l.length),Ke (l[i]'(by omega)) l[i+d+1]
 |0,i,hj=>by have:=(h (i+1) hj).2.2 (by omega);simpa using this
 |d+1,i,hj=>by
  have h1:=gL.up h d i (by omega);have h2:=(h (i+(d+1)+1) hj).2.2 (by omega);have e:i+(d+1)+1-1=i+d+1:=by omega
  simp only[e]at h2;exact ady h1 h2
theorem gL.sorted{n:Nat}{l:List Ci}(h:gL n l):(l.map AN).Pairwise ZU:=by
 rw[List.pairwise_iff_getElem];intro i j hi hj hij;simp only[List.length_map]at hi hj;simp only[List.getElem_map];rw[QP (h i hi).1 (h j hj).1];have:=h.up (j-i-1) i (by omega);have e:i+(j-i-1)+1=j:=by omega
 simp only[e]at this;exact this
def Nh(S:Sys St)(c0:Cf St)(l:List (Cf St)):Prop:=c0∈l∧∀c∈l,S.acc c.1=false∧∀x∈S.steps c,x.2∈l
open Classical in
noncomputable def GO(S:Sys St)(c0:Cf St)(l:List Ci):Int:=if gL S.n l then(if Nh S c0 (l.map AN)then 0 else 18)else 1
theorem ak6{S:Sys St}{c0:Cf St}{l:List Ci}(h:¬gL S.n l):GO S c0 l=1:=by unfold GO;rw[if_neg h]
theorem Xw{S:Sys St}{c0:Cf St}{l:List Ci}(h:gL S.n l)(k:¬Nh S c0 (l.map AN)):GO S c0 l=18:=by unfold GO;rw[if_pos h,if_neg k]
theorem agO{S:Sys St}{c0:Cf St}{l:List Ci}(h:gL S.n l)(k:Nh S c0 (l.map AN)):GO S c0 l=0:=by unfold GO;rw[if_pos h,if_pos k]
def ak7(S:Sys St)(l:List Ci)(j:Nat):Prop:=∀q (hq:q<l.length),q<j→S.acc (AN l[q]).1=false∧∀x∈S.steps (AN l[q]),x.2∈l.map AN
noncomputable def Kn.zB(X:Kn)(i:Nat)(l:List Ev)(p:List Ci):Int:=if jD i l=0 then GO (aK X i (aI 0 l)) (0,aQ i) p else jD i l
end Ln
namespace Ln
open Go.Sx Go
def cI(a b:Int):Int:=if a<b then -1 else if b<a then 1 else 0
def Tq(a b:Ci):Int:=if a.1<b.1 then -1 else if b.1<a.1 then 1 else lL a.2 b.2
theorem IF{a b:Ci}:Tq a b<0↔Ke a b:=by
 unfold Tq Ke;by_cases h:a.1<b.1
 ·simp[h]
 ·by_cases h2:b.1<a.1
  ·simp[h,h2];omega
  ·have:a.1=b.1:=by omega
   simp[h,h2,this]
theorem Q1{a b:Ci}:Tq a b=0↔a=b:=by
 unfold Tq;by_cases h:a.1<b.1
 ·simp[h];rintro rfl;omega
 ·by_cases h2:b.1<a.1
  ·simp[h,h2];rintro rfl;omega
  ·have e:a.1=b.1:=by omega
   simp[h,h2];constructor
   ·intro q;exact Prod.ext e (yY.1 q)
   ·rintro rfl;exact yY.2 rfl
theorem ahk(a:Ci):¬Ke a a:=by intro h;have:=IF.2 h;rw[Q1.2 rfl]at this;omega
variable{C:bU}{X:Kn}(S:Std C X)
include S
theorem aoP(a:Int){h:T ag}{nx:Key}:aM C jz [I a] h nx (fun o h' nx'=>o=.ret (.bool false)∧h'=h∧nx'=nx):=by refine S.Fo.call ?_;simp[cmp_isNaN_int];simp[DQ];simp[DR]
theorem aj0(a b:Int){h:T ag}{nx:Key}:aM C jU [I a,I b] h nx (fun o h' nx'=>o=.ret (I (cI a b))∧h'=h∧nx'=nx):=by
 have rn:=S.r jz;refine S.BT.call ?_;simp[xI];simp[AB];simp[AD,rn];refine(aoP S a).mono ?_;rintro o h1 bW ⟨rfl,rfl,rfl⟩;simp;simp[AE,rn];refine(aoP S b).mono ?_;rintro o h1 bW ⟨rfl,rfl,rfl⟩;simp;simp[AF];simp[AG];by_cases h1:a<b
 ·simp[sm,h1];simp[yG,cI,h1]
 ·simp[sm,h1];by_cases h2:b<a
  ·simp[qy,h2];simp[yH,cI,h1,h2]
  ·simp[qy,h2];simp[yI,cI,h1,h2]
omit S in
theorem asp{a b:Int}{j:Nat}(hj:j<2):List.take 1 (List.drop j [I a,I b])=[I (if j=0 then a else b)]:=by
 match j,hj with
 |0,_=>rfl
 |1,_=>rfl
def OrI(a b:Int)(h:T ag)(nx:Key)(m:Nat)(tm':T AV)(h':T ag)(nx':Key):Prop:=∃j:Nat,m=2-j∧j≤2∧ae (K 3) tm'=some (I 0)∧ae (K 6) tm'=some (.sl [I a,I b] 2 1 .any)∧ae (K 7) tm'=some (I 2)∧ae (K 8) tm'=some (I j)∧h'=h∧nx'=nx∧(0<j→a=0)∧(1<j→b=0)
theorem aBZ(a b:Int){h:T ag}{nx:Key}:aM C tQ [.sl [I a,I b] 2 1 .any] h nx (fun o h' nx'=>o=.ret (I (if a=0 then b else a))∧h'=h∧nx'=nx):=by
 refine S.MG.call ?_;simp[KE];simp[JT];simp[JU];simp[JV];refine W.eB (n:=2) (OrI a b h nx) ⟨0,by simp,by omega,by simp,by simp,by simp,by simp,rfl,rfl,by omega,by omega⟩ ?_;rintro m dF h1 bW ⟨j,rfl,hj,g3,g6,g7,g8,rfl,rfl,ha,hb⟩;refine W.of ?_;simp[JW];by_cases hj2:j<2
 ·have Bh:(j:Int)<2:=by omega
  have tx:1≤2-j:=by omega
  have tg:=asp (a:=a) (b:=b) hj2;simp[CB,g7,g8,Bh];simp[JX,g6,g8,hj2,tx,tg];by_cases hz:(if j=0 then a else b)=0
  ·simp[CC,g3,hz];simp[JY,g8];rw[aH (by omega) (by omega)];refine⟨2-(j+1),by omega,j+1,rfl,by omega,by simp[g3],by simp[g6],by simp[g7],by simp,rfl,rfl,?_,?_⟩
   ·intro _;by_cases h0:j=0
    ·rw[if_pos h0]at hz;exact hz
    ·exact ha (by omega)
   ·intro _;rw[if_neg (by omega)]at hz;exact hz
  ·simp[CC,g3,bq hz];simp[JZ];by_cases h0:j=0
   ·rw[if_pos h0]at hz;simp[h0,hz]
   ·have:=ha (by omega);simp[h0,this]
 ·have yi:j=2:=by omega
  subst yi;have h1:=ha (by omega);have h2:=hb (by omega);simp[CB,g7,g8];simp[J1,g3,h1,h2]
theorem Al{a b:Ci}(ha:a.2.kids.length≤3)(hb:b.2.kids.length≤3):Pur C cd [.agg (eD a),.agg (eD b)] (·=.ret (I (Tq a b))):=by
 intro h nx;have s1:=kTSu nx;have s2:=kTSu nx.succ;have s3:=kTSu nx.succ.succ;have rC:=S.r jU;have rV:=S.r kN;have rO:=S.r tQ;have ac1:=eu a.2.kids;have ac2:=eu b.2.kids;have af1:∀n H,aW n (bB a.2.kids) H=(bB a.2.kids,H):=kz _;have af2:∀n H,aW n (bB b.2.kids) H=(bB b.2.kids,H):=kz _;obtain⟨a1,a2⟩:=a;obtain⟨b1,b2⟩:=b;refine S.Dt.call ?_;simp[Au];simp[BY,eD,ac1.1,ac2.1];have e1:=(E0 h nx (.cells (eD (a1,a2)) .fix)).trans (E0 _ nx.succ (.cells (eD (b1,b2)) .fix));have q1:ae nx (au nx.succ (Qw (eD (b1,b2))) (au nx (Qw (eD (a1,a2))) h))=Qw (eD (a1,a2)):=by rw[aw (by omega)];simp
 have q2:ae nx.succ (au nx.succ (Qw (eD (b1,b2))) (au nx (Qw (eD (a1,a2))) h))=Qw (eD (b1,b2)):=by simp
 simp only[eD]at e1 q1 q2;generalize au nx.succ (Qw [I b1,I b2.k,I b2.n,.str 0 0,bB b2.kids]) (au nx (Qw [I a1,I a2.k,I a2.n,.str 0 0,bB a2.kids]) h)=h1 at *;simp[BZ,q1,q2,rC,af1,af2];refine(aj0 S a1 b1).mono ?_;rintro o h2 aN ⟨rfl,rfl,rfl⟩;have bs1:=avx a2;have bs2:=avx b2;simp[eS]at bs1 bs2;simp[q1,q2,bs1,bs2,rV,af1,af2];refine aM.known (S.s_values_Compare a2 b2 ha hb _ _) ?_;have hz:aW 9999 (.slice nx.succ.succ 0 2 1) (au nx.succ.succ (Qw [I (cI a1 b1),I (lL a2 b2)]) h2)=(.sl [I (cI a1 b1),I (lL a2 b2)] 2 1 .any,au nx.succ.succ (some (.cells [I (cI a1 b1),I (lL a2 b2)] .ro)) (au nx.succ.succ (Qw [I (cI a1 b1),I (lL a2 b2)]) h2)):=by refine wF (n:=9998) (by simp) rfl ?_;intro y hy;simp at hy;rcases hy with rfl|rfl<;>exact dG _ _
 simp[rO,hz];refine(aBZ S (cI a1 b1) (lL a2 b2)).mono ?_;rintro o h2 aN ⟨rfl,rfl,rfl⟩;simp;refine⟨?_,?_⟩
 ·unfold cI Tq;by_cases h1:a1<b1
  ·simp[h1]
  ·by_cases h2:b1<a1
   ·simp[h1,h2]
   ·simp[h1,h2]
 ·exact⟨by have:=e1.n;omega,fun b hb=>by rw[aw (by omega)];exact e1.g b hb⟩
end Ln
namespace Ln
open Go.Sx Go
def IM(n:Int):Prop:=-9223372036854775808≤n∧n<9223372036854775808
def aro(n:Int)(m:Nat):Nat:=(if n<0 then -(n+1)else n).toNat%m
theorem aee{m:Nat}(h:0<m)(n:Int):aro n m<m:=Nat.mod_lt _ h
def O4(n:Int):Nat:=aro n 3
variable{C:bU}{X:Kn}(S:Std C X)
include S
theorem WL{n:Int}(hn:IM n){m:Nat}(hm:0<m)(Mm:m≤1000000){h:T ag}{nx:Key}:aM C je [I n,I m] h nx (fun o h' nx'=>o=.ret (I (aro n m))∧h'=h∧nx'=nx):=by
 obtain⟨h1,h2⟩:=hn;have Ki:((m:Int)==0)=false:=bq (by omega);refine S.HG.call ?_;simp[El];simp[Fe];have fin:∀(tm2:T AV) (k:Nat),(k:Int)<9223372036854775808→aro n m=k%m→ae (K 0) tm2=some (I k)→ae (K 1) tm2=some (I m)→fJ C (.seq (.ops xG) .ret) (cY [.tmp (K 4)] fun o h' nx'=>o=.ret (I (aro n m))∧h'=h∧nx'=nx) tm2 h nx:=by intro tm2 k hk e q0 q1;have cH:k%m<m:=Nat.mod_lt _ hm;have ht:Int.tmod (k:Int) (m:Int)=((k%m:Nat):Int):=rfl;have hw:bF .i64 ((k%m:Nat):Int)=((k%m:Nat):Int):=aH (by omega) (by omega);rw[e];simp;simp[-Int.natCast_emod,xG,q0,q1,Ki,ht,hw];exact Int.natCast_emod k m
 simp only[bR,cp]at fin;by_cases cH:n<0
 ·obtain⟨k,hk⟩:=Int.eq_ofNat_of_zero_le (a:=-(n+1)) (by omega);have e:aro n m=k%m:=by unfold aro;rw[if_pos cH,hk];rfl
  have w1:bF .i64 (n+1)=n+1:=aH (by omega) (by omega);have w2:bF .i64 (-(n+1))=k:=by rw[aH (by omega) (by omega),hk]
  simp[xH,cH];simp[Ff,w1,w2];refine fin _ k (by omega) e ?_ ?_<;>simp
 ·obtain⟨k,hk⟩:=Int.eq_ofNat_of_zero_le (a:=n) (by omega);have e:aro n m=k%m:=by unfold aro;rw[if_neg cH,hk];rfl
  simp[xH,cH];refine fin _ k (by omega) e ?_ ?_
  ·simp[hk]
  ·simp
theorem ajd{h:T ag}{nx:Key}:aM C nX [] h nx (fun o h' nx'=>o=.ret (.sl [gH 0,gH 1,gH 2] 3 1 .any)∧Ext h nx h' nx'):=by have s1:=kTSu nx;refine S.HH.call ?_;simp[Em];simp[Fg];have fz:=fun(H:T ag) (hg:ae nx H=some (ag.cells [gH 0,gH 1,gH 2] CK.fix))=>wF (n:=9998) (len:=3) (sz:=1) hg rfl (by intro x hx;simp at hx;rcases hx with rfl|rfl|rfl<;>exact wC _ _);simp[mc]at fz;simp[Fh,fz,mc];exact E0 _ _ _
theorem L6{n:Int}(hn:IM n){h:T ag}{nx:Key}:aM C dR [I n] h nx (fun o h' nx'=>o=.ret (gH (O4 n))∧Ext h nx h' nx'):=by
 have rM:=S.r nX;have rA:=S.r je;refine S.Mn.call ?_;simp[KA];simp[JM];simp[JN,rM];refine(ajd S).mono ?_;rintro o h1 bW ⟨rfl,e1⟩;simp[rA];refine(WL S hn (m:=3) (by omega) (by omega)).mono ?_;rintro o h2 aN ⟨rfl,rfl,rfl⟩;have cH:=aee (m:=3) (by omega) n;have hi:O4 n=aro n 3:=rfl;rw[hi];generalize aro n 3=k at *;have hk:k=0∨k=1∨k=2:=by omega
 rcases hk with rfl|rfl|rfl<;>simp<;>exact e1
theorem Ix{h:T ag}{nx:Key}:aM C du [] h nx (fun o h' nx'=>o=.ret mF∧Ext h nx h' nx'):=by refine S.HI.call ?_;simp[En];simp[Fi];simp[Fj,mF];exact E0 _ _ _
theorem zg(n:Int){h:T ag}{nx:Key}:aM C ja [I n] h nx (fun o h' nx'=>o=.ret (.agg (eU ⟨0,n⟩))∧Ext h nx h' nx'):=by refine S.HJ.call ?_;simp[Eo];simp[Fk];simp[Fl,eU];exact E0 _ _ _
end Ln
namespace Ln
open Go.Sx Go
variable{C:bU}{X:Kn}(S:Std C X)
def EvI(l:List Ev)(c0:AV)(h:T ag)(nx:Key)(m:Nat)(tm':T AV)(h':T ag)(nx':Key):Prop:=∃(j:Nat) (c3:AV),m=l.length-j∧j≤l.length∧ae (K 0) tm'=some c0∧ae (K 3) tm'=some c3∧ae (K 4) tm'=some (I j)∧App c3 (ai eE (l.take j)) (l.take j).length 8 h' nx' nx∧Ext h nx h' nx'
include S
theorem aiG{l:List Ev}(hl:l.length≤1000){c0:AV}(hc:gR 8 eE c0 l){h:T ag}{nx:Key}:aM C nL [c0] h nx (fun o h' nx'=>∃cR,o=.ret cR∧gR 8 eE cR l∧Ext h nx h' nx'):=by
 refine S.HW.call ?_;simp[Et];simp[FH];simp[FI];simp[FJ];refine W.eB (n:=l.length) (EvI l c0 h nx) ⟨0,.nils,by simp,by omega,by simp,by simp,by simp,App.nil _,Ext.refl _ _⟩ ?_;rintro m dF h1 bW ⟨j,c3,rfl,hj,g0,g3,g4,hA,e1⟩;refine W.of ?_;simp[FL];have hR:Rd 8 c0 (ai eE l) l.length h1 bW:=hc.rd _ _;by_cases bY:j<l.length
 ·have Bh:(j:Int)<l.length:=by omega
  have Eh:c0=.sl (ai eE l) l.length 8 .any:=by
   rcases hc with⟨_,rfl⟩|e
   ·simp at bY
   ·exact e
  subst Eh;have ec:=pQ.at bY;have hr:=pQ.rows l;have tx:8≤l.length*8-j*8:=by omega
  have n1:=e1.n;have s1:=kTSu bW;have UH:=eu l[j].args;have e2:=E0 h1 bW (.cells (eE l[j]) .fix);have cH:(l.take j).length=j:=by rw[Zo,Nat.min_eq_left (by omega)]
  obtain⟨c6,h6,Bu,ha,hA6,n6,k6,_⟩:=(hA.ext e2).IS pQ (by omega) (by omega) l[j];have ee:eE l[j]=[I l[j].kind,I l[j].client,.str l[j].name.1 l[j].name.2,bB l[j].args,I l[j].res.k,I l[j].res.n,.str 0 0,.nils]:=rfl;have af:∀n H,aW n (bB l[j].args) H=(bB l[j].args,H):=kz _;rw[←zqu bY]at hA6;rw[ee]at ec ha e2 k6;simp[xV,g0,g4,Bh];simp[-appendTo,FM,g0,g3,g4,bY,hr,tx,ec,UH.1,UH.2,af,ha];simp[FN,g4];rw[aH (by omega) (by omega)];exact⟨l.length-(j+1),by omega,j+1,c6,rfl,by omega,by simp[g0],by simp,by simp,hA6,by omega,fun b hb=>by rw[k6 b hb,e2.g b (by omega)];exact e1.g b hb⟩
 ·have yi:j=l.length:=by omega
  subst yi;rw[List.take_length]at hA;have fr:=hA.OC pQ 9998;simp[↓hR.ln,xV,g0,g4];simp[FO,g3];exact⟨fr.1,e1.n,fun b hb=>by rw[fr.2 b hb];exact e1.g b hb⟩
end Ln
namespace Ln
open Go.Sx Go
def QR(c:AV)(len:Nat)(h:T ag)(nx:Key)(oQ:Option Key):Prop:=(c=.nils∧len=0∧oQ=none)∨
 (∃(b:Key) (off:Nat) (q:List Int),oQ=some b∧c=.slice b off len 1∧ae b h=some (.cells (ai eI q) .part)∧q.length=off+len∧b.toNat<nx.toNat)∨
 (∃(t:Key) (q:List Int),oQ=some t∧c=.sl (ai eI q) len 1 (.tok t)∧q.length=len∧ae t h=some .tok∧t.toNat<nx.toNat)
section
variable{c:AV}{len:Nat}{h h':T ag}{nx nx':Key}{oQ:Option Key}
theorem QR.lt(g:QR c len h nx oQ):∀b,oQ=some b→b.toNat<nx.toNat:=by
 intro b hb;rcases g with⟨_,_,e⟩|⟨b',off,q,e,_,_,_,h4⟩|⟨t,q,e,_,_,_,h4⟩
 ·rw[hb]at e;cases e
 ·rw[hb]at e;cases e;exact h4
 ·rw[hb]at e;cases e;exact h4
theorem QR.bZ(g:QR c len h nx oQ)(hn:nx.toNat≤nx'.toNat)(hk:∀b,oQ=some b→ae b h'=ae b h):QR c len h' nx' oQ:=by
 rcases g with g|⟨b,off,q,e,h1,h2,h3,h4⟩|⟨t,q,e,h1,h2,h3,h4⟩
 ·exact .inl g
 ·exact .inr (.inl ⟨b,off,q,e,h1,by rw[hk b e];exact h2,h3,by omega⟩)
 ·exact .inr (.inr ⟨t,q,e,h1,h2,by rw[hk t e];exact h3,by omega⟩)
theorem QR.ext(g:QR c len h nx oQ)(e:Ext h nx h' nx'):QR c len h' nx' oQ:=g.bZ e.n fun b hb=>e.g b (g.lt b hb)
theorem QR.add(g:QR c len h nx oQ)(hl:len+1≤1048576)(x:Int):∃c' h' nx' o',appendTo 1 c [I x] 1 h nx=.val c' h' nx'∧QR c' (len+1) h' nx' o'∧Kj h nx oQ h' nx' o'∧c'.aV=true∧c'.cells=[c']:=by
 have s1:=kTSu nx;have hw:Jo 1=false:=rfl;rcases g with⟨rfl,rfl,rfl⟩|⟨b,off,q,rfl,rfl,h2,h3,h4⟩|⟨t,q,rfl,rfl,h2,h3,h4⟩
 ·exact⟨.slice nx 0 1 1,au nx (some (.cells (ai eI [x]) .part)) h,nx.succ,some nx,by simp[ai,eI],.inr (.inl ⟨nx,0,[x],rfl,rfl,by simp,rfl,by omega⟩),⟨by omega,fun b hb _=>aw hb,.inr ⟨nx,rfl,dQ _⟩⟩,rfl,rfl⟩
 ·have hr:(ai eI q).length=off+len:=by rw[eF,h3]
  have hd:List.drop off (ai eI q)=ai eI (q.drop off):=by have:=CT.drop q off;simpa using this
  refine⟨.sl (ai eI (q.drop off ++ [x])) (len+1) 1 (.tok nx),au nx (some .tok) (au b none h),nx.succ,some nx,?_,.inr (.inr ⟨nx,_,rfl,rfl,by simp;omega,by simp,by omega⟩),⟨by omega,fun y hy hk=>?_,.inr ⟨nx,rfl,dQ _⟩⟩,rfl,rfl⟩
  ·simp[hl,h2,hr,hd,hw,kG,kD,eI]
  ·rw[aw hy,aG];rintro rfl;exact hk rfl
 ·refine⟨.sl (ai eI (q ++ [x])) (len+1) 1 (.tok nx),au nx (some .tok) (au t none h),nx.succ,some nx,?_,.inr (.inr ⟨nx,_,rfl,rfl,by simp;omega,by simp,by omega⟩),⟨by omega,fun y hy hk=>?_,.inr ⟨nx,rfl,dQ _⟩⟩,rfl,rfl⟩
  ·simp[hl,h3,kG,kD,eI]
  ·rw[aw hy,aG];rintro rfl;exact hk rfl
theorem QR.ln(g:QR c len h nx oQ){C:bU}{Q:cJ}{L:List aB}{tm:T AV}{h2:T ag}{n2 k1 d1:Key}(h1:ae k1 tm=some c):ns C Q (⟨some d1,.lenL (.t k1),none⟩ ::L) tm h2 n2=ns C Q L (au d1 (some (I len)) tm) h2 n2:=by rcases g with⟨rfl,rfl,_⟩|⟨b,off,q,_,rfl,_⟩|⟨t,q,_,rfl,_⟩<;>simp[h1]
theorem QR.head(g:QR c len h nx oQ)(hl:0<len):∃(z:Int) (v:AV),∀{C:bU} {Q:cJ} {L:List aB} {tm:T AV} {n2 k1 d1 d2:Key},ae k1 tm=some c→ns C Q (⟨some d1,.indexL 1 (.t k1) (.v (.int .i64 (.lit 0))),none⟩ ::⟨some d2,.load false 1 (.t d1),none⟩ ::L) tm h n2=ns C Q L (au d2 (some (I z)) (au d1 (some v) tm)) h n2:=by
 rcases g with⟨rfl,rfl,_⟩|⟨b,off,q,_,rfl,h2,h3,_⟩|⟨t,q,_,rfl,h2,_⟩
 ·omega
 ·have hr:off<q.length:=by omega
  have hg:=Mb hr;refine⟨q[off],.ptr b off,fun h1=>?_⟩;simp[h1,hl,h2,hr,eF]
 ·have hr:0<q.length:=by omega
  have hd:=zd hr;have hrl:(ai eI q).length=q.length:=eF _;refine⟨q[0],.cref [I q[0]],fun h1=>?_⟩;simp at hd;have tl:1≤q.length:=hr;simp[h1,hl,hrl,hd,tl]
theorem QR.tail(g:QR c len h nx oQ)(hl:0<len):∃c',QR c' (len-1) h nx oQ∧c'.aV=true∧c'.cells=[c']∧∀{C:bU} {Q:cJ} {L:List aB} {tm:T AV} {h2:T ag} {n2 k1 d1:Key},ae k1 tm=some c→ns C Q (⟨some d1,.sliceL 1 (.t k1) (some (.v (.int .i64 (.lit 1)))) none,none⟩ ::L) tm h2 n2=ns C Q L (au d1 (some c') tm) h2 n2:=by
 rcases g with⟨rfl,rfl,_⟩|⟨b,off,q,rfl,rfl,h2,h3,h4⟩|⟨t,q,rfl,rfl,h2,h3,h4⟩
 ·omega
 ·refine⟨.slice b (off+1) (len-1) 1,.inr (.inl ⟨b,off+1,q,rfl,rfl,h2,by omega,h4⟩),rfl,rfl,fun h1=>?_⟩;have Wr:1≤len:=hl;simp[h1,Wr]
 ·have hd:List.drop 1 (ai eI q)=ai eI q.tail:=by have:=CT.drop q 1;simpa using this
  have Wr:1≤len:=hl;have hql:q.tail.length=len-1:=by rw[List.length_tail,h2]
  refine⟨.sl (ai eI q.tail) (len-1) 1 (.tok t),.inr (.inr ⟨t,q.tail,rfl,rfl,hql,h3,h4⟩),rfl,rfl,fun h1=>?_⟩;have EL:(ai eI q.tail).length=len-1:=by rw[eF,hql]
  have ht:List.take (len-1) (ai eI q.tail)=ai eI q.tail:=PV (by omega);have hr0:len≤(ai eI q.tail).length+1:=by omega
  simp[h1,Wr,hd,hr0,ht]
end
structure GS where
 n:Int
 d:Nat→Int
 o:Nat→Bool
 lt:Nat→Bool
 a:Nat→Int
 s:Nat→Nat×Nat
def ku{α:Type}(f:Nat→α)(c:Nat)(v:α):Nat→α:=fun i=>if i=c then v else f i
@[simp] theorem ay8{α:Type}(f:Nat→α)(c:Nat)(v:α):ku f c v c=v:=by simp[ku]
@[simp] theorem aDH{α:Type}(f:Nat→α){c i:Nat}(v:α)(h:i≠c):ku f c v i=f i:=by simp[ku,h]
def gB(m:Nat×Nat)(cL cQ:AV)(g:GS):List AV:=[cL,.str m.1 m.2,I g.n,cQ,I (g.d 0),I (g.d 1),I (g.d 2),I (g.d 3),.bool (g.o 0),.bool (g.o 1),.bool (g.o 2),.bool (g.o 3),.bool (g.lt 0),.bool (g.lt 1),.bool (g.lt 2),.bool (g.lt 3),I (g.a 0),I (g.a 1),I (g.a 2),I (g.a 3),.str (g.s 0).1 (g.s 0).2,.str (g.s 1).1 (g.s 1).2,.str (g.s 2).1 (g.s 2).2,.str (g.s 3).1 (g.s 3).2]
structure zf(bg n0:Key)(m:Nat×Nat)(l:List Ev)(g:GS)(k:Nat)(cL cQ:AV)(oL oQ:Option Key)(h:T ag)(nx:Key):Prop where
 mD:ae bg h=Qw (gB m cL cQ g)
 L:Gr 8 cL (ai eE l) l.length h nx oL
 Q:∃len,len≤k∧QR cQ len h nx oQ
 b0:n0.toNat≤bg.toNat
 bn:bg.toNat<nx.toNat
 lo:∀b,oL=some b→n0.toNat≤b.toNat∧b≠bg∧oQ≠some b
 qo:∀b,oQ=some b→n0.toNat≤b.toNat∧b≠bg
structure Old(n0:Key)(h:T ag)(nx:Key)(h':T ag)(nx':Key):Prop where
 n:nx.toNat≤nx'.toNat
 g:∀b:Key,b.toNat<n0.toNat→ae b h'=ae b h
theorem Old.trans{n0 nx nx' n2:Key}{h h' h2:T ag}(a:Old n0 h nx h' nx')(b:Old n0 h' nx' h2 n2):Old n0 h nx h2 n2:=⟨Nat.le_trans a.n b.n,fun x hx=>(b.g x hx).trans (a.g x hx)⟩
theorem _root_.Go.Sx.Gr.cell{z:Nat}{c:AV}{l:List AV}{len:Nat}{h:T ag}{nx:Key}{ob:Option Key}(g:Gr z c l len h nx ob):c.aV=true∧c.cells=[c]:=by rcases g with⟨rfl,_⟩|⟨b,k,_,rfl,_⟩|⟨t,_,rfl,_⟩<;>exact⟨rfl,rfl⟩
theorem QR.cell{c:AV}{len:Nat}{h:T ag}{nx:Key}{oQ:Option Key}(g:QR c len h nx oQ):c.aV=true∧c.cells=[c]:=by rcases g with⟨rfl,_⟩|⟨b,off,q,_,rfl,_⟩|⟨t,q,_,rfl,_⟩<;>exact⟨rfl,rfl⟩
theorem zf.put{bg n0:Key}{m:Nat×Nat}{l:List Ev}{g g':GS}{k:Nat}{cL cQ:AV}{oL oQ:Option Key}{h:T ag}{nx:Key}(G:zf bg n0 m l g k cL cQ oL oQ h nx):zf bg n0 m l g' k cL cQ oL oQ (au bg (Qw (gB m cL cQ g')) h) nx∧Old n0 h nx (au bg (Qw (gB m cL cQ g')) h) nx:=by obtain⟨len,hlen,hQ⟩:=G.Q;refine⟨⟨by simp,G.L.bZ (dQ _) fun b hb=>aG _ _ _ _ (G.lo b hb).2.1,⟨len,hlen,hQ.bZ (dQ _) fun b hb=>aG _ _ _ _ (G.qo b hb).2⟩,G.b0,G.bn,G.lo,G.qo⟩,dQ _,fun b hb=>aG _ _ _ _ fun e=>?_⟩;have:=G.b0;rw[e]at hb;omega
theorem zf.aB3{bg n0:Key}{m:Nat×Nat}{l:List Ev}{g g':GS}{k k' len:Nat}{cL cQ ya:AV}{oL oQ o':Option Key}{h h':T ag}{nx nx':Key}(G:zf bg n0 m l g k cL cQ oL oQ h nx)(hn:n0.toNat≤nx.toNat)(F:Kj h nx oQ h' nx' o')(hQ:QR ya len h' nx' o')(hlen:len≤k'):zf bg n0 m l g' k' cL ya oL o' (au bg (Qw (gB m cL ya g')) h') nx'∧Old n0 h nx (au bg (Qw (gB m cL ya g')) h') nx':=by
 have n1:=F.n;have b0:=G.b0;have bn:=G.bn;have ho:∀b,o'=some b→n0.toNat≤b.toNat∧b≠bg:=by
  intro b hb;rcases F.o with e|⟨y,e,hy⟩
  ·exact G.qo b (e ▸ hb)
  ·rw[hb]at e;cases e;exact⟨by omega,fun e=>by rw[e]at hy;omega⟩
 have hoL:∀b,oL=some b→o'≠some b:=fun b hb=>F.ne (G.L.lt b hb) (G.lo b hb).2.2;refine⟨⟨by simp,G.L.bZ n1 fun b hb=>?_,⟨len,hlen,hQ.bZ (dQ _) fun b hb=>aG _ _ _ _ (ho b hb).2⟩,b0,by omega,fun b hb=>⟨(G.lo b hb).1,(G.lo b hb).2.1,hoL b hb⟩,ho⟩,n1,fun b hb=>?_⟩
 ·rw[aG _ _ _ _ (G.lo b hb).2.1];exact F.g b (G.L.lt b hb) (G.lo b hb).2.2
 ·rw[aG _ _ _ _ (fun e=>by rw[e]at hb;omega)];exact F.g b (by omega) (fun e=>by have:=(G.qo b e).1;omega)
variable{C:bU}{X:Kn}(S:Std C X)
def ApR(bg n0:Key)(m:Nat×Nat)(l:List Ev)(g:GS)(k:Nat)(cL:AV)(oL:Option Key)(h:T ag)(nx:Key)(o:Out)(h':T ag)(nx':Key):Prop:=o=.ret (.tuple [])∧∃g' ya yV,zf bg n0 m l g' (k+1) cL ya oL yV h' nx'∧g'.o=g.o∧Old n0 h nx h' nx'
include S
theorem Uf{bg n0:Key}{m:Nat×Nat}{l:List Ev}{g:GS}{k:Nat}{cL cQ:AV}{oL oQ:Option Key}{h:T ag}{nx:Key}(G:zf bg n0 m l g k cL cQ oL oQ h nx)(hk:k≤100)(hn:n0.toNat≤nx.toNat){tm:T AV}{x:Int}{nm:Nat×Nat}(q0:ae (K 0) tm=some (.ptr bg 0))(q4:ae (K 4) tm=some (I 0))(q5:ae (K 5) tm=some (I x))(q17:ae (K 17) tm=some (.str nm.1 nm.2)){Q:cJ}
  (fin:∀(tm2:T AV) (h2:T ag) (aN:Key) (g':GS) (ya:AV) (yV:Option Key) (r:Int),ae (K 0) tm2=some (.ptr bg 0)→ae (K 1) tm2=ae (K 1) tm→ae (K 4) tm2=some (I r)→zf bg n0 m l g' (k+1) cL ya oL yV h2 aN→g'.o=g.o→Old n0 h nx h2 aN→Q .norm tm2 h2 aN) :
  ns C (aO (fJ C (.cond (.t (K 18)) (.ops wq) (.seq (.ops pH) (.cond (.t (K 30)) (.seq (.ops pI) (.cond (.t (K 37)) (.seq (.ops wu) (.ops wv)) .skip)) (.seq (.ops pJ) (.cond (.t (K 52)) (.seq (.ops ug) (.ops uh)) (.seq (.ops ng) (.cond (.t (K 65)) (.seq (.ops ui) (.ops uj)) (.seq (.ops nh) (.cond (.t (K 80)) (.ops uk) (.seq (.ops nj) (.cond (.t (K 86)) (.ops um) .skip))))))))))) (az 0 Q)) (az 0 Q)) lv tm h nx:=by
 have s1:=kTSu nx;obtain⟨len,hlen,hQ⟩:=G.Q;have hb:=G.mD;have bn:=G.bn;have cc:=hQ.cell;by_cases h1:nm.1=3∧nm.2=7632240
 ·have e1:=E0 h nx (.cells [I x] .fix);obtain⟨c',h2,aN,o',ha,hQ2,F,cc2⟩:=(hQ.ext e1).add (by omega) x;have F2:=(Kj.zK e1 oQ).trans F;have IW:ae bg h2=Qw (gB m cL cQ g):=by rw[F2.g bg bn (fun e=>(G.qo bg e).2 rfl)];exact hb
  obtain⟨G3,O3⟩:=G.aB3 (g':=g) (k':=k+1) hn F2 hQ2 (by omega);simp[gB]at G3 O3;simp[lv,q17,h1];simp[-appendTo,wq,q0,q5,hb,IW,gB,cc.1,cc.2,cc2.1,cc2.2,ha];refine fin _ _ _ g c' o' 0 ?_ ?_ ?_ G3 rfl O3<;>simp[q0,q4]
 ·by_cases h2:nm.1=3∧nm.2=7628135
  ·simp[lv,q17,h1];simp[pH,q17,h2];by_cases hl:0<len
   ·have hli:(0:Int)<len:=by omega
    obtain⟨z,v,hz⟩:=hQ.head hl;obtain⟨c',hQ2,cc1,cc2,ht⟩:=hQ.tail hl;obtain⟨G3,O3⟩:=G.aB3 (g':=g) (k':=k+1) hn (Kj.refl h nx oQ) hQ2 (by omega);simp[gB]at G3 O3;simp[↓hQ.ln,pI,q0,hb,gB,hl];simp[↓hz,wu,q0,hb,gB];simp[↓ht,wv,q0,hb,gB,cc1,cc2];refine fin _ _ _ g c' oQ z ?_ ?_ ?_ G3 rfl O3<;>simp[q0]
   ·have Zx:len=0:=by omega
    simp[↓hQ.ln,pI,q0,hb,gB,Zx];refine fin _ _ _ g cQ oQ 0 ?_ ?_ ?_ ⟨hb,G.L,⟨len,by omega,hQ⟩,G.b0,bn,G.lo,G.qo⟩ rfl ⟨dQ _,fun _ _=>rfl⟩<;>simp[q0,q4]
  ·have bZ:zf bg n0 m l g (k+1) cL cQ oL oQ h nx:=⟨hb,G.L,⟨len,by omega,hQ⟩,G.b0,bn,G.lo,G.qo⟩;have wr:∀n':Int,zf bg n0 m l {g with n:=n'} (k+1) cL cQ oL oQ (au bg (Qw (gB m cL cQ {g with n:=n'})) h) nx∧Old n0 h nx (au bg (Qw (gB m cL cQ {g with n:=n'})) h) nx:=fun n'=>bZ.put;simp[gB]at wr;simp[lv,q17,h1];simp[pH,q17,h2];by_cases h3:nm.1=3∧nm.2=6516329
   ·simp[pJ,q17,h3];simp[ug,q0,hb,gB];simp[uh,q0];obtain⟨G3,O3⟩:=wr (bF .i64 (g.n+1));refine fin _ _ _ _ cQ oQ (bF .i64 (g.n+1)) ?_ ?_ ?_ G3 rfl O3<;>simp[q0]
   ·simp[pJ,q17,h3];by_cases h4:nm.1=3∧nm.2=6579297
    ·simp[ng,q17,h4];simp[ui,q0,q5,hb,gB];simp[uj,q0];obtain⟨G3,O3⟩:=wr (bF .i64 (g.n+x));refine fin _ _ _ _ cQ oQ (bF .i64 (g.n+x)) ?_ ?_ ?_ G3 rfl O3<;>simp[q0]
    ·simp[ng,q17,h4];by_cases h5:nm.1=5∧nm.2=435744764535
     ·simp[nh,q17,h5];simp[uk,q0,q5,hb,gB];obtain⟨G3,O3⟩:=wr x;refine fin _ _ _ _ cQ oQ 0 ?_ ?_ ?_ G3 rfl O3<;>simp[q0,q4]
     ·simp[nh,q17,h5];by_cases h6:nm.1=4∧nm.2=1684104562
      ·simp[nj,q17,h6];simp[um,q0,hb,gB];refine fin _ _ _ g cQ oQ g.n ?_ ?_ ?_ bZ rfl ⟨dQ _,fun _ _=>rfl⟩<;>simp[q0]
      ·simp[nj,q17,h6];refine fin _ _ _ g cQ oQ 0 ?_ ?_ ?_ bZ rfl ⟨dQ _,fun _ _=>rfl⟩<;>simp[q0,q4]
theorem C2{bg n0:Key}{m:Nat×Nat}{l:List Ev}{g:GS}{k:Nat}{cL cQ:AV}{oL oQ:Option Key}{h:T ag}{nx:Key}(G:zf bg n0 m l g k cL cQ oL oQ h nx)(hk:k≤100)(hn:n0.toNat≤nx.toNat){c:Nat}(hc:c=0∨c=1∨c=2) :
  aM C ic [.ptr bg 0,I c] h nx (ApR bg n0 m l g k cL oL h nx):=by
 have s1:=kTSu nx;obtain⟨len,hlen,hQ⟩:=G.Q;have hb:=G.mD;have bn:=G.bn;have cc:=hQ.cell;refine S.Fq.call ?_;rcases hc with rfl|rfl|rfl
 ·simp[qO];simp[pK];simp[pL,hb,gB];simp[pM,hb,gB];have fin:∀(tm2:T AV) (h2:T ag) (aN:Key) (g':GS) (ya:AV) (yV:Option Key) (r:Int),ae (K 0) tm2=some (.ptr bg 0)→ae (K 1) tm2=some (I 0)→ae (K 4) tm2=some (I r)→zf bg n0 m l g' (k+1) cL ya oL yV h2 aN→g'.o=g.o→Old n0 h nx h2 aN→
    ns C (cY [] (ApR bg n0 m l g k cL oL h nx)) fT tm2 h2 aN:=by
   intro tm2 h2 aN g' ya yV r q0 q1 q4 G2 e2 O2;have IW:=G2.mD;obtain⟨G3,O3⟩:=G2.put (g':={g' with d:=ku g'.d 0 r});simp[gB]at G3 O3;simp[fT,q0,q1,q4,IW,gB];exact⟨rfl,_,_,_,G3,e2,O2.trans O3⟩
  refine Uf S G hk hn (x:=g.a 0) (nm:=g.s 0) ?_ ?_ ?_ ?_ (fun tm2 h2 aN g' ya yV r p0 p1 p4 G2 e2 O2=>fin tm2 h2 aN g' ya yV r p0 (by rw[p1];simp) p4 G2 e2 O2)<;>simp
 ·simp[qO];simp[pK];simp[pL,hb,gB];simp[pM,hb,gB];have fin:∀(tm2:T AV) (h2:T ag) (aN:Key) (g':GS) (ya:AV) (yV:Option Key) (r:Int),ae (K 0) tm2=some (.ptr bg 0)→ae (K 1) tm2=some (I 1)→ae (K 4) tm2=some (I r)→zf bg n0 m l g' (k+1) cL ya oL yV h2 aN→g'.o=g.o→Old n0 h nx h2 aN→
    ns C (cY [] (ApR bg n0 m l g k cL oL h nx)) fT tm2 h2 aN:=by
   intro tm2 h2 aN g' ya yV r q0 q1 q4 G2 e2 O2;have IW:=G2.mD;obtain⟨G3,O3⟩:=G2.put (g':={g' with d:=ku g'.d 1 r});simp[gB]at G3 O3;simp[fT,q0,q1,q4,IW,gB];exact⟨rfl,_,_,_,G3,e2,O2.trans O3⟩
  refine Uf S G hk hn (x:=g.a 1) (nm:=g.s 1) ?_ ?_ ?_ ?_ (fun tm2 h2 aN g' ya yV r p0 p1 p4 G2 e2 O2=>fin tm2 h2 aN g' ya yV r p0 (by rw[p1];simp) p4 G2 e2 O2)<;>simp
 ·simp[qO];simp[pK];simp[pL,hb,gB];simp[pM,hb,gB];have fin:∀(tm2:T AV) (h2:T ag) (aN:Key) (g':GS) (ya:AV) (yV:Option Key) (r:Int),ae (K 0) tm2=some (.ptr bg 0)→ae (K 1) tm2=some (I 2)→ae (K 4) tm2=some (I r)→zf bg n0 m l g' (k+1) cL ya oL yV h2 aN→g'.o=g.o→Old n0 h nx h2 aN→
    ns C (cY [] (ApR bg n0 m l g k cL oL h nx)) fT tm2 h2 aN:=by
   intro tm2 h2 aN g' ya yV r q0 q1 q4 G2 e2 O2;have IW:=G2.mD;obtain⟨G3,O3⟩:=G2.put (g':={g' with d:=ku g'.d 2 r});simp[gB]at G3 O3;simp[fT,q0,q1,q4,IW,gB];exact⟨rfl,_,_,_,G3,e2,O2.trans O3⟩
  refine Uf S G hk hn (x:=g.a 2) (nm:=g.s 2) ?_ ?_ ?_ ?_ (fun tm2 h2 aN g' ya yV r p0 p1 p4 G2 e2 O2=>fin tm2 h2 aN g' ya yV r p0 (by rw[p1];simp) p4 G2 e2 O2)<;>simp
end Ln
namespace Ln
open Go.Sx Go
theorem _root_.Go.Sx.Gr.lits{z:Nat}{α:Type}{enc:α→List AV}(F:Flat z enc){c:AV}{us:List α}{len:Nat}{h:T ag}{nx:Key}{ob:Option Key}(g:Gr z c (ai enc us) len h nx ob):AV.beq c c=true:=by
 rcases g with⟨rfl,_⟩|⟨b,k,_,rfl,_⟩|⟨t,_,rfl,_⟩
 ·exact beq_refl _ rfl
 ·exact beq_refl _ rfl
 ·exact beq_refl _ (by simp only[AV.lits];exact F.agM _)
theorem zf.adG{bg n0:Key}{m:Nat×Nat}{l l':List Ev}{g g':GS}{k:Nat}{cL cL' cQ:AV}{oL oL' oQ:Option Key}{h h':T ag}{nx nx':Key}(G:zf bg n0 m l g k cL cQ oL oQ h nx)(hn:n0.toNat≤nx.toNat)(F:Kj h nx oL h' nx' oL')(hL:Gr 8 cL' (ai eE l') l'.length h' nx' oL'):zf bg n0 m l' g' k cL' cQ oL' oQ (au bg (Qw (gB m cL' cQ g')) h') nx'∧Old n0 h nx (au bg (Qw (gB m cL' cQ g')) h') nx':=by
 have n1:=F.n;have b0:=G.b0;have bn:=G.bn;obtain⟨len,hlen,hQ⟩:=G.Q;have ho:∀b,oL'=some b→n0.toNat≤b.toNat∧b≠bg∧oQ≠some b:=by
  intro b hb;rcases F.o with e|⟨y,e,hy⟩
  ·exact G.lo b (e ▸ hb)
  ·rw[hb]at e;cases e;exact⟨by omega,fun e=>by rw[e]at hy;omega,fun e=>by have:=hQ.lt _ e;omega⟩
 have hq:∀b,oQ=some b→oL≠some b:=fun b hb e=>(G.lo b e).2.2 hb;refine⟨⟨by simp,hL.bZ (dQ _) fun b hb=>aG _ _ _ _ (ho b hb).2.1,⟨len,hlen,hQ.bZ n1 fun b hb=>?_⟩,b0,by omega,ho,G.qo⟩,n1,fun b hb=>?_⟩
 ·rw[aG _ _ _ _ (G.qo b hb).2];exact F.g b (hQ.lt b hb) (hq b hb)
 ·rw[aG _ _ _ _ (fun e=>by rw[e]at hb;omega)];exact F.g b (by omega) (fun e=>by have:=(G.lo b e).1;omega)
theorem zf.up{bg n0:Key}{m:Nat×Nat}{l:List Ev}{g:GS}{k:Nat}{cL cQ:AV}{oL oQ:Option Key}{h h':T ag}{nx nx':Key}(G:zf bg n0 m l g k cL cQ oL oQ h nx)(e:Ext h nx h' nx'):zf bg n0 m l g k cL cQ oL oQ h' nx':=by obtain⟨len,hlen,hQ⟩:=G.Q;exact⟨by rw[e.g bg G.bn];exact G.mD,G.L.ext e,⟨len,hlen,hQ.ext e⟩,G.b0,Lm G.bn e.n,G.lo,G.qo⟩
theorem zf.more{bg n0:Key}{m:Nat×Nat}{l:List Ev}{g:GS}{k:Nat}{cL cQ:AV}{oL oQ:Option Key}{h:T ag}{nx:Key}(G:zf bg n0 m l g k cL cQ oL oQ h nx):zf bg n0 m l g (k+1) cL cQ oL oQ h nx:=by obtain⟨len,hlen,hQ⟩:=G.Q;exact⟨G.mD,G.L,⟨len,by omega,hQ⟩,G.b0,G.bn,G.lo,G.qo⟩
theorem Old.zK{n0 nx nx':Key}{h h':T ag}(e:Ext h nx h' nx')(hn:n0.toNat≤nx.toNat):Old n0 h nx h' nx':=⟨e.n,fun b hb=>e.g b (by omega)⟩
theorem Old.refl(n0:Key)(h:T ag)(nx:Key):Old n0 h nx h nx:=⟨dQ _,fun _ _=>rfl⟩
inductive Z3(mi:Nat)(g:GS)(x:Ev)(g':GS):Prop
 |lost (h:x=⟨2,0,(0,0),[],⟨0,0⟩⟩) (ho:g'.o=fun _=>false)
 |ends (c:Nat) (r:Int) (hc:c<3) (ho:g.o c=true) (h:x=⟨1,c,(0,0),[],⟨0,r⟩⟩) (EK:g'.o=ku g.o c false)
 |begins (c:Nat) (cmd:j6) (aZZ:List U) (hc:c<3) (ho:g.o c=false) (hm:cmd∈aU mi) (ha:aZZ.length=cmd.ar) (hk:∀u∈aZZ,u.k=0) (h:x=⟨0,c,cmd.name,aZZ,⟨0,0⟩⟩) (EK:g'.o=ku g.o c true)
def Zq(bg n0:Key)(mi:Nat)(l:List Ev)(g:GS)(k:Nat)(h:T ag)(nx:Key)(o:Out)(h':T ag)(nx':Key):Prop:=o=.ret (.tuple [])∧∃x g' cL' ya oL' yV,zf bg n0 (mc mi) (l ++ [x]) g' (k+1) cL' ya oL' yV h' nx'∧Old n0 h nx h' nx'∧Z3 mi g x g'
variable{C:bU}{X:Kn}(S:Std C X)
include S
theorem aiw{bg n0:Key}{mi:Nat}{l:List Ev}{g:GS}{k:Nat}{cL cQ:AV}{oL oQ:Option Key}{h:T ag}{nx:Key}(G:zf bg n0 (mc mi) l g k cL cQ oL oQ h nx)(hl:l.length≤100)(hn:n0.toNat≤nx.toNat){tm:T AV}(q0:ae (K 0) tm=some (.ptr bg 0)){Q:cJ}(hQ':∀tm' h' nx',cY [] (Zq bg n0 mi l g k h nx) .ret tm' h' nx'→Q .ret tm' h' nx') :
  fJ C (.seq (.ops xy) (.seq (.ops xz) .ret)) Q tm h nx:=by
 have s1:=kTSu nx;have hb:=G.mD;have bn:=G.bn;have cq:=(show ∃len,QR cQ len h nx oQ from G.Q.elim fun len p=>⟨len,p.2⟩);obtain⟨len,hQ⟩:=cq;have cc:=hQ.cell;have cl:=G.L.cell;have e1:=E0 h nx (.cells (eE ⟨2,0,(0,0),[],⟨0,0⟩⟩) .fix);have ee:eE ⟨2,0,(0,0),[],⟨0,0⟩⟩=[I 2,I 0,.str 0 0,.nils,I 0,I 0,.str 0 0,.nils]:=rfl;obtain⟨c',h2,aN,o',ha,hL2,F⟩:=(G.L.ext e1).IS pQ (by decide) (by decide) (by omega) ⟨2,0,(0,0),[],⟨0,0⟩⟩;have F2:=(Kj.zK e1 oL).trans F;have Wj:=hL2.cell;have IW:ae bg h2=Qw (gB (mc mi) cL cQ g):=by rw[F2.g bg bn (fun e=>(G.lo bg e).2.1 rfl)];exact hb
 obtain⟨G3,O3⟩:=G.adG (g':={g with o:=fun _=>false}) hn F2 hL2;rw[ee]at ha;simp[gB]at G3 O3;simp;simp[-appendTo,xy,q0,hb,IW,gB,cl.1,cl.2,Wj.1,Wj.2,ha];simp[xz,q0,gB];refine hQ' _ _ _ ?_;simp;exact⟨rfl,_,_,_,_,_,_,G3.more,O3,.lost rfl rfl⟩
theorem aix{bg n0:Key}{mi:Nat}{l:List Ev}{g:GS}{k:Nat}{cL cQ:AV}{oL oQ:Option Key}{h:T ag}{nx:Key}(G:zf bg n0 (mc mi) l g k cL cQ oL oQ h nx)(hl:l.length≤100)(hk:k≤100)(hn:n0.toNat≤nx.toNat){tm:T AV}{kk c:Nat}(AP:kk<1000000)(hc:c=0∨c=1∨c=2)(ho:g.o c=true)(q0:ae (K 0) tm=some (.ptr bg 0))(q1:ae (K 1) tm=some (I kk))(q4:ae (K 4) tm=some (I c)){Q:cJ}
  (hQ:∀tm' h' nx',cY [] (Zq bg n0 mi l g k h nx) .ret tm' h' nx'→Q .ret tm' h' nx') :
  fJ C (.seq (.seq (.ops eP) (.cond (.t (K 40)) (.ops jx) .skip)) (.seq (.ops eR) (.seq (.seq (.ops c5) (.cond (.t (K 53)) (.ops eW) .skip)) (.seq (.staged cz ⟨[K 56,K 57,K 58,K 59,K 60,K 61,K 62,K 63,K 64,K 65,K 66,K 67,K 68],[]⟩) (.seq (.ops cB) .ret))))) Q tm h nx:=by
 have rA:=S.r ic;have rN:=S.r ja;have hb:=G.mD;have bn:=G.bn;have Z4:Int.tdiv (kk:Int) 51=((kk / 51:Nat):Int):=rfl;have Z5:bF .i64 ((kk / 51:Nat):Int)=((kk / 51:Nat):Int):=aH (by omega) (by omega);have hm9:Int.tmod ((kk / 51:Nat):Int) 9=((kk / 51%9:Nat):Int):=rfl;have hw9:bF .i64 ((kk / 51%9:Nat):Int)=((kk / 51%9:Nat):Int):=aH (by omega) (by omega);generalize kk / 51%9=e9 at *;generalize kk / 51=e51 at *;rcases hc with rfl|rfl|rfl
 ·have last:∀(tm2:T AV) (h2:T ag) (aN:Key) (g2:GS) (OE:AV) (RD:Option Key) (r:Int),ae (K 0) tm2=some (.ptr bg 0)→ae (K 4) tm2=some (I 0)→ae (K 5) tm2=some (I r)→zf bg n0 (mc mi) l g2 (k+1) cL OE oL RD h2 aN→g2.o=g.o→Old n0 h nx h2 aN→
    fJ C (.seq (.staged cz ⟨[K 56,K 57,K 58,K 59,K 60,K 61,K 62,K 63,K 64,K 65,K 66,K 67,K 68],[]⟩) (.seq (.ops cB) .ret)) Q tm2 h2 aN:=by
   intro tm2 h2 aN g2 OE RD r p0 p4 p5 G2 e2 O2;have IW:=G2.mD;have bn2:=G2.bn;have n2:=O2.n;obtain⟨len,_,hQ2⟩:=G2.Q;have cc:=hQ2.cell;have cl:=G2.L.cell;have lb:=G2.L.lits pQ;simp;simp[-appendTo,cz,p0,p4,p5,IW,gB,rN];refine(zg S r).mono ?_;rintro o h3 bP ⟨rfl,e3⟩;have n3:=e3.n;have s3:=kTSu bP;have G3:=G2.up e3;have hb3:=G3.mD;have e4:=E0 h3 bP (.cells (eE ⟨1,0,(0,0),[],⟨0,r⟩⟩) .fix);have ee:eE ⟨1,0,(0,0),[],⟨0,r⟩⟩=[I 1,I 0,.str 0 0,.nils,I 0,I r,.str 0 0,.nils]:=rfl;obtain⟨c',h5,nx5,o',ha,Z6,F⟩:=(G3.L.ext e4).IS pQ (by decide) (by decide) (by omega) ⟨1,0,(0,0),[],⟨0,r⟩⟩;have F2:=(Kj.zK e4 oL).trans F;have Wj:=Z6.cell;have Zr:ae bg h5=Qw (gB (mc mi) cL OE g2):=by rw[F2.g bg (by omega) (fun e=>(G3.lo bg e).2.1 rfl)];exact hb3
   obtain⟨G6,O6⟩:=G3.adG (g':={g2 with o:=ku g2.o 0 false}) (by omega) F2 Z6;rw[ee]at ha;simp[gB]at G6 O6;simp[-appendTo,hb3,Zr,gB,eU,cl.1,cl.2,Wj.1,Wj.2,lb,ha];simp[cB,p0,p4,gB];refine hQ _ _ _ ?_;simp;exact⟨rfl,_,_,_,_,_,_,G6,(O2.trans (Old.zK e3 (by omega))).trans O6,.ends 0 r (by omega) ho rfl (by rw[←e2])⟩
  simp only[bR,cr,cp]at last;have mid:∀(tm2:T AV) (h2:T ag) (aN:Key) (g2:GS) (OE:AV) (RD:Option Key),ae (K 0) tm2=some (.ptr bg 0)→ae (K 1) tm2=some (I kk)→ae (K 4) tm2=some (I 0)→zf bg n0 (mc mi) l g2 (k+1) cL OE oL RD h2 aN→g2.o=g.o→Old n0 h nx h2 aN→
    fJ C (.seq (.ops eR) (.seq (.seq (.ops c5) (.cond (.t (K 53)) (.ops eW) .skip)) (.seq (.staged cz ⟨[K 56,K 57,K 58,K 59,K 60,K 61,K 62,K 63,K 64,K 65,K 66,K 67,K 68],[]⟩) (.seq (.ops cB) .ret)))) Q tm2 h2 aN:=by
   intro tm2 h2 aN g2 OE RD p0 p1 p4 G2 e2 O2;have IW:=G2.mD;simp;simp[eR,p0,p4,IW,gB];by_cases h8:e9=8
   ·have h8i:((e9:Int)==8)=true:=bt (by omega);simp[c5,p1,Z4,Z5,hm9,hw9,h8i];simp[eW];refine last _ _ _ g2 OE RD (bF .i64 (g2.d 0+1)) ?_ ?_ ?_ G2 e2 O2<;>simp[p0,p4]
   ·have h8i:((e9:Int)==8)=false:=bq (by omega);simp[c5,p1,Z4,Z5,hm9,hw9,h8i];refine last _ _ _ g2 OE RD (g2.d 0) ?_ ?_ ?_ G2 e2 O2<;>simp[p0,p4]
  simp only[bR,cr,cp,gM]at mid;simp;cases cH:g.lt 0 with
  |true=>simp[eP,q0,q4,hb,gB,cH];simp[jx,q0,q4,rA];refine(C2 S G hk hn (c:=0) (by simp)).mono ?_;rintro o h2 aN ⟨rfl,g',ya,yV,G2,e2,O2⟩;simp;refine mid _ _ _ g' ya yV ?_ ?_ ?_ G2 e2 O2<;>simp[q0,q1,q4]
  |false=>simp[eP,q0,q4,hb,gB,cH];refine mid _ _ _ g cQ oQ ?_ ?_ ?_ G.more rfl (Old.refl _ _ _)<;>simp[q0,q1,q4]
 ·have last:∀(tm2:T AV) (h2:T ag) (aN:Key) (g2:GS) (OE:AV) (RD:Option Key) (r:Int),ae (K 0) tm2=some (.ptr bg 0)→ae (K 4) tm2=some (I 1)→ae (K 5) tm2=some (I r)→zf bg n0 (mc mi) l g2 (k+1) cL OE oL RD h2 aN→g2.o=g.o→Old n0 h nx h2 aN→
    fJ C (.seq (.staged cz ⟨[K 56,K 57,K 58,K 59,K 60,K 61,K 62,K 63,K 64,K 65,K 66,K 67,K 68],[]⟩) (.seq (.ops cB) .ret)) Q tm2 h2 aN:=by
   intro tm2 h2 aN g2 OE RD r p0 p4 p5 G2 e2 O2;have IW:=G2.mD;have bn2:=G2.bn;have n2:=O2.n;obtain⟨len,_,hQ2⟩:=G2.Q;have cc:=hQ2.cell;have cl:=G2.L.cell;have lb:=G2.L.lits pQ;simp;simp[-appendTo,cz,p0,p4,p5,IW,gB,rN];refine(zg S r).mono ?_;rintro o h3 bP ⟨rfl,e3⟩;have n3:=e3.n;have s3:=kTSu bP;have G3:=G2.up e3;have hb3:=G3.mD;have e4:=E0 h3 bP (.cells (eE ⟨1,1,(0,0),[],⟨0,r⟩⟩) .fix);have ee:eE ⟨1,1,(0,0),[],⟨0,r⟩⟩=[I 1,I 1,.str 0 0,.nils,I 0,I r,.str 0 0,.nils]:=rfl;obtain⟨c',h5,nx5,o',ha,Z6,F⟩:=(G3.L.ext e4).IS pQ (by decide) (by decide) (by omega) ⟨1,1,(0,0),[],⟨0,r⟩⟩;have F2:=(Kj.zK e4 oL).trans F;have Wj:=Z6.cell;have Zr:ae bg h5=Qw (gB (mc mi) cL OE g2):=by rw[F2.g bg (by omega) (fun e=>(G3.lo bg e).2.1 rfl)];exact hb3
   obtain⟨G6,O6⟩:=G3.adG (g':={g2 with o:=ku g2.o 1 false}) (by omega) F2 Z6;rw[ee]at ha;simp[gB]at G6 O6;simp[-appendTo,hb3,Zr,gB,eU,cl.1,cl.2,Wj.1,Wj.2,lb,ha];simp[cB,p0,p4,gB];refine hQ _ _ _ ?_;simp;exact⟨rfl,_,_,_,_,_,_,G6,(O2.trans (Old.zK e3 (by omega))).trans O6,.ends 1 r (by omega) ho rfl (by rw[←e2])⟩
  simp only[bR,cr,cp]at last;have mid:∀(tm2:T AV) (h2:T ag) (aN:Key) (g2:GS) (OE:AV) (RD:Option Key),ae (K 0) tm2=some (.ptr bg 0)→ae (K 1) tm2=some (I kk)→ae (K 4) tm2=some (I 1)→zf bg n0 (mc mi) l g2 (k+1) cL OE oL RD h2 aN→g2.o=g.o→Old n0 h nx h2 aN→
    fJ C (.seq (.ops eR) (.seq (.seq (.ops c5) (.cond (.t (K 53)) (.ops eW) .skip)) (.seq (.staged cz ⟨[K 56,K 57,K 58,K 59,K 60,K 61,K 62,K 63,K 64,K 65,K 66,K 67,K 68],[]⟩) (.seq (.ops cB) .ret)))) Q tm2 h2 aN:=by
   intro tm2 h2 aN g2 OE RD p0 p1 p4 G2 e2 O2;have IW:=G2.mD;simp;simp[eR,p0,p4,IW,gB];by_cases h8:e9=8
   ·have h8i:((e9:Int)==8)=true:=bt (by omega);simp[c5,p1,Z4,Z5,hm9,hw9,h8i];simp[eW];refine last _ _ _ g2 OE RD (bF .i64 (g2.d 1+1)) ?_ ?_ ?_ G2 e2 O2<;>simp[p0,p4]
   ·have h8i:((e9:Int)==8)=false:=bq (by omega);simp[c5,p1,Z4,Z5,hm9,hw9,h8i];refine last _ _ _ g2 OE RD (g2.d 1) ?_ ?_ ?_ G2 e2 O2<;>simp[p0,p4]
  simp only[bR,cr,cp,gM]at mid;simp;cases cH:g.lt 1 with
  |true=>simp[eP,q0,q4,hb,gB,cH];simp[jx,q0,q4,rA];refine(C2 S G hk hn (c:=1) (by simp)).mono ?_;rintro o h2 aN ⟨rfl,g',ya,yV,G2,e2,O2⟩;simp;refine mid _ _ _ g' ya yV ?_ ?_ ?_ G2 e2 O2<;>simp[q0,q1,q4]
  |false=>simp[eP,q0,q4,hb,gB,cH];refine mid _ _ _ g cQ oQ ?_ ?_ ?_ G.more rfl (Old.refl _ _ _)<;>simp[q0,q1,q4]
 ·have last:∀(tm2:T AV) (h2:T ag) (aN:Key) (g2:GS) (OE:AV) (RD:Option Key) (r:Int),ae (K 0) tm2=some (.ptr bg 0)→ae (K 4) tm2=some (I 2)→ae (K 5) tm2=some (I r)→zf bg n0 (mc mi) l g2 (k+1) cL OE oL RD h2 aN→g2.o=g.o→Old n0 h nx h2 aN→
    fJ C (.seq (.staged cz ⟨[K 56,K 57,K 58,K 59,K 60,K 61,K 62,K 63,K 64,K 65,K 66,K 67,K 68],[]⟩) (.seq (.ops cB) .ret)) Q tm2 h2 aN:=by
   intro tm2 h2 aN g2 OE RD r p0 p4 p5 G2 e2 O2;have IW:=G2.mD;have bn2:=G2.bn;have n2:=O2.n;obtain⟨len,_,hQ2⟩:=G2.Q;have cc:=hQ2.cell;have cl:=G2.L.cell;have lb:=G2.L.lits pQ;simp;simp[-appendTo,cz,p0,p4,p5,IW,gB,rN];refine(zg S r).mono ?_;rintro o h3 bP ⟨rfl,e3⟩;have n3:=e3.n;have s3:=kTSu bP;have G3:=G2.up e3;have hb3:=G3.mD;have e4:=E0 h3 bP (.cells (eE ⟨1,2,(0,0),[],⟨0,r⟩⟩) .fix);have ee:eE ⟨1,2,(0,0),[],⟨0,r⟩⟩=[I 1,I 2,.str 0 0,.nils,I 0,I r,.str 0 0,.nils]:=rfl;obtain⟨c',h5,nx5,o',ha,Z6,F⟩:=(G3.L.ext e4).IS pQ (by decide) (by decide) (by omega) ⟨1,2,(0,0),[],⟨0,r⟩⟩;have F2:=(Kj.zK e4 oL).trans F;have Wj:=Z6.cell;have Zr:ae bg h5=Qw (gB (mc mi) cL OE g2):=by rw[F2.g bg (by omega) (fun e=>(G3.lo bg e).2.1 rfl)];exact hb3
   obtain⟨G6,O6⟩:=G3.adG (g':={g2 with o:=ku g2.o 2 false}) (by omega) F2 Z6;rw[ee]at ha;simp[gB]at G6 O6;simp[-appendTo,hb3,Zr,gB,eU,cl.1,cl.2,Wj.1,Wj.2,lb,ha];simp[cB,p0,p4,gB];refine hQ _ _ _ ?_;simp;exact⟨rfl,_,_,_,_,_,_,G6,(O2.trans (Old.zK e3 (by omega))).trans O6,.ends 2 r (by omega) ho rfl (by rw[←e2])⟩
  simp only[bR,cr,cp]at last;have mid:∀(tm2:T AV) (h2:T ag) (aN:Key) (g2:GS) (OE:AV) (RD:Option Key),ae (K 0) tm2=some (.ptr bg 0)→ae (K 1) tm2=some (I kk)→ae (K 4) tm2=some (I 2)→zf bg n0 (mc mi) l g2 (k+1) cL OE oL RD h2 aN→g2.o=g.o→Old n0 h nx h2 aN→
    fJ C (.seq (.ops eR) (.seq (.seq (.ops c5) (.cond (.t (K 53)) (.ops eW) .skip)) (.seq (.staged cz ⟨[K 56,K 57,K 58,K 59,K 60,K 61,K 62,K 63,K 64,K 65,K 66,K 67,K 68],[]⟩) (.seq (.ops cB) .ret)))) Q tm2 h2 aN:=by
   intro tm2 h2 aN g2 OE RD p0 p1 p4 G2 e2 O2;have IW:=G2.mD;simp;simp[eR,p0,p4,IW,gB];by_cases h8:e9=8
   ·have h8i:((e9:Int)==8)=true:=bt (by omega);simp[c5,p1,Z4,Z5,hm9,hw9,h8i];simp[eW];refine last _ _ _ g2 OE RD (bF .i64 (g2.d 2+1)) ?_ ?_ ?_ G2 e2 O2<;>simp[p0,p4]
   ·have h8i:((e9:Int)==8)=false:=bq (by omega);simp[c5,p1,Z4,Z5,hm9,hw9,h8i];refine last _ _ _ g2 OE RD (g2.d 2) ?_ ?_ ?_ G2 e2 O2<;>simp[p0,p4]
  simp only[bR,cr,cp,gM]at mid;simp;cases cH:g.lt 2 with
  |true=>simp[eP,q0,q4,hb,gB,cH];simp[jx,q0,q4,rA];refine(C2 S G hk hn (c:=2) (by simp)).mono ?_;rintro o h2 aN ⟨rfl,g',ya,yV,G2,e2,O2⟩;simp;refine mid _ _ _ g' ya yV ?_ ?_ ?_ G2 e2 O2<;>simp[q0,q1,q4]
  |false=>simp[eP,q0,q4,hb,gB,cH];refine mid _ _ _ g cQ oQ ?_ ?_ ?_ G.more rfl (Old.refl _ _ _)<;>simp[q0,q1,q4]
end Ln
namespace Ln
open Go.Sx Go
def aoY(cA:AV)(aZZ:List U)(h:T ag)(n0 nx b8:Key):Prop:=(cA=.nils∧aZZ=[])∨∃(ba:Key) (u:U),cA=.slice ba 0 1 4∧aZZ=[u]∧ae ba h=Qw (eU u)∧n0.toNat≤ba.toNat∧ba.toNat<nx.toNat∧ba≠b8
theorem aoY.aed{cA:AV}{aZZ:List U}{h:T ag}{n0 nx b8:Key}(a:aoY cA aZZ h n0 nx b8)(B:ag):∃H1,aW 9999 cA (au nx (some B) h)=(bB aZZ,H1)∧∀b:Key,b.toNat<n0.toNat→n0.toNat≤nx.toNat→ae b H1=ae b h:=by
 rcases a with⟨rfl,rfl⟩|⟨ba,u,rfl,rfl,h1,h2,h3,_⟩
 ·exact⟨_,rfl,fun b hb hn=>aw (by omega)⟩
 ·have hg:ae ba (au nx (some B) h)=Qw (eU u):=by rw[aw h3];exact h1
  refine⟨_,wF (n:=9998) hg rfl (CV.wH u),fun b hb hn=>?_⟩;rw[aw (by omega),aw (by omega)]
theorem aoY.cell{cA:AV}{aZZ:List U}{h:T ag}{n0 nx b8:Key}(a:aoY cA aZZ h n0 nx b8):cA.aV=true∧cA.cells=[cA]:=by rcases a with⟨rfl,rfl⟩|⟨ba,u,rfl,_⟩<;>exact⟨rfl,rfl⟩
def P9(c:Nat)(cmd:j6)(cA:AV):List AV:=[I 0,I c,.str cmd.name.1 cmd.name.2,cA,I 0,I 0,.str 0 0,.nils]
variable{C:bU}{X:Kn}(S:Std C X)
include S
theorem WN{bg n0:Key}{mi:Nat}{l:List Ev}{g g0:GS}{hB:T ag}{KY:Key}{k:Nat}{cL cQ:AV}{oL oQ:Option Key}{h:T ag}{nx nx0 b8:Key}(G:zf bg n0 (mc mi) l g k cL cQ oL oQ h nx0)(hg:g.o=g0.o)(O:Old n0 hB KY h nx)(hx:nx0.toNat≤nx.toNat)(hl:l.length≤100)(hk:k≤100)(hn:n0.toNat≤nx0.toNat){tm:T AV}{c n6:Nat}{cmd:j6}{cA:AV}{aZZ:List U}(hA:aoY cA aZZ h nx0 nx b8)(h8:ae b8 h=Qw (P9 c cmd cA))(h80:nx0.toNat≤b8.toNat)(h8n:b8.toNat<nx.toNat)
  (hm:cmd∈aU mi) (has:aZZ.length=cmd.ar) (hk0:∀u∈aZZ,u.k=0) (hc:c=0∨c=1∨c=2) (ho:g.o c=false) (q0:ae (K 0) tm=some (.ptr bg 0)) (q4:ae (K 4) tm=some (I c)) (q6:ae (K 6) tm=some (I n6)) (q8:ae (K 8) tm=some (.ptr b8 0)) :
  fJ C (.seq (.staged bI ⟨[K 134,K 135,K 136,K 137,K 138,K 139,K 140,K 141,K 142,K 143],[]⟩) (.seq (.ops bJ) (.seq (.ops bK) (.seq (.ops bu) (.cond (.t (K 162)) (.ops bL) .skip))))) (cY [] (Zq bg n0 mi l g0 k hB KY)) tm h nx:=by
 have rA:=S.r ic;have s1:=kTSu nx;have hb:=G.mD;have bn:=G.bn;obtain⟨len,_,hQ⟩:=G.Q;have cc:=hQ.cell;have cl:=G.L.cell;have cA1:=hA.cell;have ca:=eu aZZ;obtain⟨H1,Ov,hH⟩:=hA.aed (.cells (P9 c cmd cA) .fix);have e:Ext h nx0 H1 nx.succ:=⟨by omega,fun b hb=>hH b hb hx⟩;have G1:=G.up e;have hb8:ae b8 h=Qw [I 0,I c,.str cmd.name.1 cmd.name.2,cA,I 0,I 0,.str 0 0,.nils]:=h8;have ho0:g0.o c=false:=hg ▸ ho;rcases hc with rfl|rfl|rfl
 ·simp[P9]at Ov;simp;simp[-appendTo,bI,q0,q4,q8,hb,hb8,gB,Ov,cl.1,cl.2,cA1.1,cA1.2,ca.1,ca.2];have O1:Old n0 h nx H1 nx.succ:=⟨by omega,fun b hb=>e.g b (by omega)⟩;obtain⟨c',h5,nx5,o',ha,Z6,F⟩:=G1.L.IS pQ (by decide) (by decide) (by omega) ⟨0,0,cmd.name,aZZ,⟨0,0⟩⟩;have ee:eE ⟨0,0,cmd.name,aZZ,⟨0,0⟩⟩=[I 0,I 0,.str cmd.name.1 cmd.name.2,bB aZZ,I 0,I 0,.str 0 0,.nils]:=rfl;have Wj:=Z6.cell;have Zr:ae bg h5=Qw (gB (mc mi) cL cQ g):=by rw[F.g bg G1.bn (fun e=>(G1.lo bg e).2.1 rfl)];exact G1.mD
  obtain⟨G6,O6⟩:=G1.adG (g':={g with o:=ku g.o 0 true,lt:=ku g.lt 0 (!decide ((n6:Int)<3))}) (by omega) F Z6;have n5:=O6.n;rw[ee]at ha;simp[gB]at G6 O6;simp[-appendTo,Zr,gB,Wj.1,Wj.2,ha];simp[bJ,q0,q4,gB];simp[bK,q0,q4,q6,gB];have hb6:=G6.mD;by_cases h3:(n6:Int)<3
  rotate_left
  ·simp[h3]at G6 O6;simp[bu,q0,q4,h3,gB];exact⟨rfl,_,_,_,_,_,_,G6.more,(O.trans O1).trans O6,.begins 0 cmd aZZ (by omega) ho0 hm has hk0 rfl (by rw[←hg])⟩
  ·simp[h3]at G6 O6;simp[bu,q0,q4,h3,gB];simp[bL,q0,q4,rA];refine(C2 S G6 hk (by omega) (c:=0) (by simp)).mono ?_;rintro o h7 nx7 ⟨rfl,g',ya,yV,G7,e7,O7⟩;simp;exact⟨rfl,_,_,_,_,_,_,G7,((O.trans O1).trans O6).trans O7,.begins 0 cmd aZZ (by omega) ho0 hm has hk0 rfl (by rw[←hg];exact e7)⟩
 ·simp[P9]at Ov;simp;simp[-appendTo,bI,q0,q4,q8,hb,hb8,gB,Ov,cl.1,cl.2,cA1.1,cA1.2,ca.1,ca.2];have O1:Old n0 h nx H1 nx.succ:=⟨by omega,fun b hb=>e.g b (by omega)⟩;obtain⟨c',h5,nx5,o',ha,Z6,F⟩:=G1.L.IS pQ (by decide) (by decide) (by omega) ⟨0,1,cmd.name,aZZ,⟨0,0⟩⟩;have ee:eE ⟨0,1,cmd.name,aZZ,⟨0,0⟩⟩=[I 0,I 1,.str cmd.name.1 cmd.name.2,bB aZZ,I 0,I 0,.str 0 0,.nils]:=rfl;have Wj:=Z6.cell;have Zr:ae bg h5=Qw (gB (mc mi) cL cQ g):=by rw[F.g bg G1.bn (fun e=>(G1.lo bg e).2.1 rfl)];exact G1.mD
  obtain⟨G6,O6⟩:=G1.adG (g':={g with o:=ku g.o 1 true,lt:=ku g.lt 1 (!decide ((n6:Int)<3))}) (by omega) F Z6;have n5:=O6.n;rw[ee]at ha;simp[gB]at G6 O6;simp[-appendTo,Zr,gB,Wj.1,Wj.2,ha];simp[bJ,q0,q4,gB];simp[bK,q0,q4,q6,gB];have hb6:=G6.mD;by_cases h3:(n6:Int)<3
  rotate_left
  ·simp[h3]at G6 O6;simp[bu,q0,q4,h3,gB];exact⟨rfl,_,_,_,_,_,_,G6.more,(O.trans O1).trans O6,.begins 1 cmd aZZ (by omega) ho0 hm has hk0 rfl (by rw[←hg])⟩
  ·simp[h3]at G6 O6;simp[bu,q0,q4,h3,gB];simp[bL,q0,q4,rA];refine(C2 S G6 hk (by omega) (c:=1) (by simp)).mono ?_;rintro o h7 nx7 ⟨rfl,g',ya,yV,G7,e7,O7⟩;simp;exact⟨rfl,_,_,_,_,_,_,G7,((O.trans O1).trans O6).trans O7,.begins 1 cmd aZZ (by omega) ho0 hm has hk0 rfl (by rw[←hg];exact e7)⟩
 ·simp[P9]at Ov;simp;simp[-appendTo,bI,q0,q4,q8,hb,hb8,gB,Ov,cl.1,cl.2,cA1.1,cA1.2,ca.1,ca.2];have O1:Old n0 h nx H1 nx.succ:=⟨by omega,fun b hb=>e.g b (by omega)⟩;obtain⟨c',h5,nx5,o',ha,Z6,F⟩:=G1.L.IS pQ (by decide) (by decide) (by omega) ⟨0,2,cmd.name,aZZ,⟨0,0⟩⟩;have ee:eE ⟨0,2,cmd.name,aZZ,⟨0,0⟩⟩=[I 0,I 2,.str cmd.name.1 cmd.name.2,bB aZZ,I 0,I 0,.str 0 0,.nils]:=rfl;have Wj:=Z6.cell;have Zr:ae bg h5=Qw (gB (mc mi) cL cQ g):=by rw[F.g bg G1.bn (fun e=>(G1.lo bg e).2.1 rfl)];exact G1.mD
  obtain⟨G6,O6⟩:=G1.adG (g':={g with o:=ku g.o 2 true,lt:=ku g.lt 2 (!decide ((n6:Int)<3))}) (by omega) F Z6;have n5:=O6.n;rw[ee]at ha;simp[gB]at G6 O6;simp[-appendTo,Zr,gB,Wj.1,Wj.2,ha];simp[bJ,q0,q4,gB];simp[bK,q0,q4,q6,gB];have hb6:=G6.mD;by_cases h3:(n6:Int)<3
  rotate_left
  ·simp[h3]at G6 O6;simp[bu,q0,q4,h3,gB];exact⟨rfl,_,_,_,_,_,_,G6.more,(O.trans O1).trans O6,.begins 2 cmd aZZ (by omega) ho0 hm has hk0 rfl (by rw[←hg])⟩
  ·simp[h3]at G6 O6;simp[bu,q0,q4,h3,gB];simp[bL,q0,q4,rA];refine(C2 S G6 hk (by omega) (c:=2) (by simp)).mono ?_;rintro o h7 nx7 ⟨rfl,g',ya,yV,G7,e7,O7⟩;simp;exact⟨rfl,_,_,_,_,_,_,G7,((O.trans O1).trans O6).trans O7,.begins 2 cmd aZZ (by omega) ho0 hm has hk0 rfl (by rw[←hg];exact e7)⟩
end Ln
namespace Ln
open Go.Sx Go
def I3(mi t:Nat):j6:=match mi,t with
 |0,1=>.get|0,_=>.put|1,0=>.inc|1,1=>.zA|1,_=>.add|_,0=>.write|_,_=>.wL
theorem Tt{mi:Nat}(hi:mi<3){t:Nat}(ht:t<3):I3 mi t∈aU mi:=by
 match mi,hi,t,ht with
 |0,_,0,_=>decide
 |0,_,1,_=>decide
 |0,_,2,_=>decide
 |1,_,0,_=>decide
 |1,_,1,_=>decide
 |1,_,2,_=>decide
 |2,_,0,_=>decide
 |2,_,1,_=>decide
 |2,_,2,_=>decide
theorem zf.put0{bg n0:Key}{m:Nat×Nat}{l:List Ev}{g g':GS}{k:Nat}{cL cQ:AV}{oL oQ:Option Key}{h:T ag}{nx nx0 b8:Key}{c:Nat}{cmd:j6}{cA:AV}(G:zf bg n0 m l g k cL cQ oL oQ h nx0)(h8:ae b8 h=Qw (P9 c cmd cA))(h80:nx0.toNat≤b8.toNat):zf bg n0 m l g' k cL cQ oL oQ (au bg (Qw (gB m cL cQ g')) h) nx0∧ae b8 (au bg (Qw (gB m cL cQ g')) h)=Qw (P9 c cmd cA)∧Old n0 h nx (au bg (Qw (gB m cL cQ g')) h) nx:=by obtain⟨G1,O1⟩:=G.put (g':=g');have bn:=G.bn;exact⟨G1,by rw[aG _ _ _ _ (fun e=>by rw[e]at h80;omega)];exact h8,dQ _,O1.g⟩
theorem zf.at0{bg n0:Key}{m:Nat×Nat}{l:List Ev}{g:GS}{k:Nat}{cL cQ:AV}{oL oQ:Option Key}{h h':T ag}{nx nx':Key}(G:zf bg n0 m l g k cL cQ oL oQ h nx)(e:Ext h nx h' nx')(_:nx.toNat≤nx'.toNat):zf bg n0 m l g k cL cQ oL oQ h' nx:=by obtain⟨len,hlen,hQ⟩:=G.Q;exact⟨by rw[e.g bg G.bn];exact G.mD,G.L.bZ (dQ _) fun b hb=>e.g b (G.L.lt b hb),⟨len,hlen,hQ.bZ (dQ _) fun b hb=>e.g b (hQ.lt b hb)⟩,G.b0,G.bn,G.lo,G.qo⟩
variable{C:bU}{X:Kn}(S:Std C X)
theorem awv{h:T ag}{nx b8:Key}{tm:T AV}{c:Nat}{cmd:j6}{cA:AV}(h8:ae b8 h=Qw (P9 c cmd cA))(q8:ae (K 8) tm=some (.ptr b8 0)){Q:cJ}
  (key:∀tm2,(∀k:Key,k=K 0∨k=K 4∨k=K 6∨k=K 8→ae k tm2=ae k tm)→ae (K 124) tm2=some (.bool (cmd.ar==1))→Q .norm tm2 h nx):ns C Q cD tm h nx:=by
 cases cmd
 all_goals
  simp[P9,j6.name]at h8;simp[cD,q8,h8];refine key _ ?_ ?_
  ·rintro k (rfl|rfl|rfl|rfl)<;>simp
  ·simp[j6.ar]
include S
theorem NW{bg n0:Key}{mi:Nat}{l:List Ev}{g g0:GS}{hB:T ag}{KY:Key}{k:Nat}{cL cQ:AV}{oL oQ:Option Key}{h:T ag}{nx nx0 b8:Key}(G:zf bg n0 (mc mi) l g k cL cQ oL oQ h nx0)(hg:g.o=g0.o)(O:Old n0 hB KY h nx)(hx:nx0.toNat≤nx.toNat)(hl:l.length≤100)(hk:k≤100)(hn:n0.toNat≤nx0.toNat){tm:T AV}{c n6:Nat}{cmd:j6}(h8:ae b8 h=Qw (P9 c cmd .nils))(h80:nx0.toNat≤b8.toNat)(h8n:b8.toNat<nx.toNat)
  (hm:cmd∈aU mi) (hc:c=0∨c=1∨c=2) (ho:g.o c=false) (q0:ae (K 0) tm=some (.ptr bg 0)) (q4:ae (K 4) tm=some (I c)) (q6:ae (K 6) tm=some (I n6)) (q8:ae (K 8) tm=some (.ptr b8 0)) :
  fJ C (.seq (.seq (.ops cD) (.cond (.t (K 124)) (.ops ch) .skip)) (.seq (.staged bI ⟨[K 134,K 135,K 136,K 137,K 138,K 139,K 140,K 141,K 142,K 143],[]⟩) (.seq (.ops bJ) (.seq (.ops bK) (.seq (.ops bu) (.cond (.t (K 162)) (.ops bL) .skip)))))) (cY [] (Zq bg n0 mi l g0 k hB KY)) tm h nx:=by
 have rN:=S.r ja;have hb:=G.mD;have bn:=G.bn;simp;refine awv h8 q8 ?_;intro tm2 q arq;have p0:=(q (K 0) (by simp)).trans q0;have p4:=(q (K 4) (by simp)).trans q4;have p6:=(q (K 6) (by simp)).trans q6;have p8:=(q (K 8) (by simp)).trans q8;by_cases har:cmd.ar=1
 ·have fin:∀(K1:T AV) (h3:T ag) (bP ba:Key) (u:U),u.k=0→ae (K 0) K1=some (.ptr bg 0)→ae (K 4) K1=some (I c)→ae (K 6) K1=some (I n6)→ae (K 8) K1=some (.ptr b8 0)→zf bg n0 (mc mi) l g k cL cQ oL oQ h3 nx0→nx.toNat≤bP.toNat→Old n0 h nx h3 bP→ae b8 h3=Qw (P9 c cmd (.slice ba 0 1 4))→ae ba h3=Qw (eU u)→nx.toNat≤ba.toNat→ba.toNat<bP.toNat→
    fJ C (.seq (.staged bI ⟨[K 134,K 135,K 136,K 137,K 138,K 139,K 140,K 141,K 142,K 143],[]⟩) (.seq (.ops bJ) (.seq (.ops bK) (.seq (.ops bu) (.cond (.t (K 162)) (.ops bL) .skip))))) (cY [] (Zq bg n0 mi l g0 k hB KY)) K1 h3 bP:=by
   intro K1 h3 bP ba u hu r0 r4 r6 r8 G3 hx3 O3 hb8 hba aH9 aIa;exact WN S (aZZ:=[u]) G3 hg (O.trans O3) (by omega) hl hk hn (.inr ⟨ba,u,rfl,rfl,hba,by omega,aIa,fun e=>by rw[e]at aH9;omega⟩) hb8 h80 (by omega) hm (by rw[har];rfl) (by simpa using hu) hc ho r0 r4 r6 r8
  simp only[bR,cr,cp,gM]at fin;have hb8:ae b8 h=Qw [I 0,I c,.str cmd.name.1 cmd.name.2,.nils,I 0,I 0,.str 0 0,.nils]:=h8;simp[har]at arq;simp[arq];rcases hc with rfl|rfl|rfl
  ·simp[ch,p0,p4,hb,gB,rN];refine(zg S (g.a 0)).mono ?_;rintro o h3 bP ⟨rfl,e3⟩;have n3:=e3.n;have s3:=kTSu bP;have anb:ae b8 h3=Qw [I 0,I 0,.str cmd.name.1 cmd.name.2,.nils,I 0,I 0,.str 0 0,.nils]:=by rw[e3.g b8 h8n];exact hb8
   have e4:=E0 h3 bP (.cells (eU ⟨0,g.a 0⟩) .fix);have bT:b8≠bP:=fun e=>by rw[e]at h8n;omega
   have e5:Ext h nx0 (au b8 (Qw (P9 0 cmd (.slice bP 0 1 4))) (au bP (Qw (eU ⟨0,g.a 0⟩)) h3)) bP.succ:=⟨by omega,fun b hb=>by rw[aw (by omega),aw (by omega)];exact e3.g b (by omega)⟩;simp[p8,aw,h8n,anb,eU,aG _ _ _ _ bT];refine fin _ _ _ bP ⟨0,g.a 0⟩ rfl ?_ ?_ ?_ ?_ (G.at0 e5 (by omega)) (by omega) ⟨by omega,fun b hb=>e5.g b (by omega)⟩ ?_ ?_ (by omega) (by omega)
   ·simp[p0]
   ·simp[p4]
   ·simp[p6]
   ·simp[p8]
   ·simp[P9]
   ·simp[aG _ _ _ _ (Ne.symm bT),eU]
  ·simp[ch,p0,p4,hb,gB,rN];refine(zg S (g.a 1)).mono ?_;rintro o h3 bP ⟨rfl,e3⟩;have n3:=e3.n;have s3:=kTSu bP;have anb:ae b8 h3=Qw [I 0,I 1,.str cmd.name.1 cmd.name.2,.nils,I 0,I 0,.str 0 0,.nils]:=by rw[e3.g b8 h8n];exact hb8
   have e4:=E0 h3 bP (.cells (eU ⟨0,g.a 1⟩) .fix);have bT:b8≠bP:=fun e=>by rw[e]at h8n;omega
   have e5:Ext h nx0 (au b8 (Qw (P9 1 cmd (.slice bP 0 1 4))) (au bP (Qw (eU ⟨0,g.a 1⟩)) h3)) bP.succ:=⟨by omega,fun b hb=>by rw[aw (by omega),aw (by omega)];exact e3.g b (by omega)⟩;simp[p8,aw,h8n,anb,eU,aG _ _ _ _ bT];refine fin _ _ _ bP ⟨0,g.a 1⟩ rfl ?_ ?_ ?_ ?_ (G.at0 e5 (by omega)) (by omega) ⟨by omega,fun b hb=>e5.g b (by omega)⟩ ?_ ?_ (by omega) (by omega)
   ·simp[p0]
   ·simp[p4]
   ·simp[p6]
   ·simp[p8]
   ·simp[P9]
   ·simp[aG _ _ _ _ (Ne.symm bT),eU]
  ·simp[ch,p0,p4,hb,gB,rN];refine(zg S (g.a 2)).mono ?_;rintro o h3 bP ⟨rfl,e3⟩;have n3:=e3.n;have s3:=kTSu bP;have anb:ae b8 h3=Qw [I 0,I 2,.str cmd.name.1 cmd.name.2,.nils,I 0,I 0,.str 0 0,.nils]:=by rw[e3.g b8 h8n];exact hb8
   have e4:=E0 h3 bP (.cells (eU ⟨0,g.a 2⟩) .fix);have bT:b8≠bP:=fun e=>by rw[e]at h8n;omega
   have e5:Ext h nx0 (au b8 (Qw (P9 2 cmd (.slice bP 0 1 4))) (au bP (Qw (eU ⟨0,g.a 2⟩)) h3)) bP.succ:=⟨by omega,fun b hb=>by rw[aw (by omega),aw (by omega)];exact e3.g b (by omega)⟩;simp[p8,aw,h8n,anb,eU,aG _ _ _ _ bT];refine fin _ _ _ bP ⟨0,g.a 2⟩ rfl ?_ ?_ ?_ ?_ (G.at0 e5 (by omega)) (by omega) ⟨by omega,fun b hb=>e5.g b (by omega)⟩ ?_ ?_ (by omega) (by omega)
   ·simp[p0]
   ·simp[p4]
   ·simp[p6]
   ·simp[p8]
   ·simp[P9]
   ·simp[aG _ _ _ _ (Ne.symm bT),eU]
 ·have aIb:cmd.ar=0:=by cases cmd<;>simp[j6.ar]at har ⊢
  have bT:(cmd.ar==1)=false:=by simpa using har
  rw[bT]at arq;simp[arq];have key:=WN S (aZZ:=[]) (n6:=n6) (tm:=tm2) G hg O hx hl hk hn (.inl ⟨rfl,rfl⟩) h8 h80 h8n hm (by rw[aIb];rfl) (by simp) hc ho p0 p4 p6 p8;simp only[bR,cr,cp,gM]at key;exact key
end Ln
