/- A part of the proof. No condition. -/
import Derived.Test.YtecbfpngkfdkoaaGreatP10
import Derived.Test.YtecbfpngkfdkoaaGreatP20
import Derived.Test.YtecbfpngkfdkoaaGreatP32
import Derived.Test.YtecbfpngkfdkoaaGreatP19
import Derived.Test.YtecbfpngkfdkoaaGreatP6
import Derived.Shelf.SlSortCmp.NoneTotal
import Derived.Test.YtecbfpngkfdkoaaGreatProg
import Derived.Shelf.SlLaysF0
import Derived.Test.YtecbfpngkfdkoaaGreatP11
set_option linter.unusedSimpArgs false
set_option linter.unusedVariables false
set_option linter.unusedSectionVars false
namespace Ln
open Go.Sx Go Go.Proofs
def afD:MZ:=⟨12,Unit,fun _=>[],fun _=>vM,fun _ _ _=>rfl⟩
theorem akR:mZ Tryz.prog .nil afD:=⟨⟨_,lv (n:=12) (by decide)⟩,fun _=>XS⟩
def Z3:MZ:=⟨23,Unit,fun _=>[],fun _=>.bool true,fun _ _ _=>rfl⟩
theorem afE:mZ Tryz.prog .nil Z3:=⟨⟨_,lv (n:=23) (by decide)⟩,fun _=>aok⟩
def jb:List MZ:=[Za,O8,TH,Zb,O9,TJ,Vl,Vm,Jb,Mn,JL,PV,Z4,Z5,Z6,Vn,afD,Z3]
theorem asZ:∀F∈jb,mZ Tryz.prog .nil F:=by
 intro F h;unfold jb at h;simp only[OG,List.not_mem_nil,or_false]at h;rcases h with rfl|rfl|rfl|rfl|rfl|rfl|rfl|rfl|rfl|rfl|rfl|rfl|rfl|rfl|rfl|rfl|rfl|rfl
 ·exact ES
 ·exact nU
 ·exact AO
 ·exact aeR
 ·exact Zc
 ·exact abn
 ·exact IL
 ·exact acX
 ·exact Vo
 ·exact Xo
 ·exact Z7
 ·exact Z8
 ·exact zF
 ·exact afF
 ·exact afG
 ·exact wi
 ·exact akR
 ·exact afE
theorem ez:jb.Pairwise fun a b=>a.f≠b.f:=by have h:(jb.map (·.f)).Pairwise (·≠·):=of_decide_eq_true (by kernel_rfl);exact List.pairwise_map.1 h
def acY(f:Nat):Bool:=Nat.beq f 86||Nat.beq f 67||Nat.beq f 60
noncomputable def CL:bQ:=apd asI YA acY jb
theorem aCb{f:Nat}(h:(jb.map (·.f)).contains f=false):∀l h nx,CL.sum f l h nx=none:=by refine Q5 fun F hF e=>?_;have:(jb.map (·.f)).contains f=true:=List.contains_iff_mem.2 (We.2 ⟨F,hF,e⟩);rw[h]at this;cases this
theorem mO{f:Nat}{p:fe}(hp:J9 Tryz.prog f=some p)(hg:IP CL f=some (fx f):=by kernel_rfl)(ho:(jb.map (·.f)).contains f=false:=by kernel_rfl)(hr:acY f=false:=by kernel_rfl):Fn CL f p:=⟨by rw[hg,au8 hp],aCb ho,hr⟩
theorem axO{f:Nat}{p:fe}(hp:J9 Tryz.prog f=some p)(hg:IP CL f=some (fx f):=by kernel_rfl)(ho:(jb.map (·.f)).contains f=false:=by kernel_rfl)(hr:acY f=true:=by kernel_rfl):FnR CL f p:=⟨by rw[hg,au8 hp],aCb ho,hr⟩
theorem akS:Za∈jb:=by simp[jb]
theorem acZ:O8∈jb:=by simp[jb]
theorem afH:TH∈jb:=by simp[jb]
theorem akT:Zb∈jb:=by simp[jb]
theorem ac0:O9∈jb:=by simp[jb]
theorem afI:TJ∈jb:=by simp[jb]
theorem afJ:Vl∈jb:=by simp[jb]
theorem afK:Vm∈jb:=by simp[jb]
theorem vS:Jb∈jb:=by simp[jb]
theorem yC:Mn∈jb:=by simp[jb]
theorem Q7:JL∈jb:=by simp[jb]
theorem ac3:PV∈jb:=by simp[jb]
theorem akU:Z4∈jb:=by simp[jb]
theorem akV:Z5∈jb:=by simp[jb]
theorem akW:Z6∈jb:=by simp[jb]
theorem afL:Vn∈jb:=by simp[jb]
theorem ape:afD∈jb:=by simp[jb]
theorem akX:Z3∈jb:=by simp[jb]
theorem DQ:Std CL K0 where
 orc:=rfl
 raw _:=rfl
 ok:=atZ
 zG:=mO J2
 nn:=axO yA
 IN:=mO Sd
 Bs:=mO Mc
 N5:=mO Xe
 GO:=mO PE
 DN:=mO NX
 Ka:=mO U6
 C0:=mO NY
 I5:=axO Se
 zN:=mO J3
 GP:=mO PF
 I6:=mO Sf
 IT:=mO Sg
 NR:=mO Xf
 MR:=mO Xg
 BX:=mO U7
 Dg:=mO NZ
 DO:=mO N0
 zO:=mO Si
 Bt:=mO Me
 DP:=mO Bp
 rm:=mO Ca
 ru:=mO Cb
 tM:=mO Ft
 tO:=mO Fu
 jJ:=mO Ay
 sX:=mO DE
 wq:=mO HK
 IQ:=mO Sj
 CJ:=mO N1
 GM:=mO PG
 N6:=mO Xh
 I7:=mO Sk
 N4:=mO Xi
 Qi:=mO ZX
 IM:=mO Sl
 K7:=mO U8
 N7:=mO Xj
 I8:=mO Sm
 E7:=mO Xk
 GQ:=mO PH
 I9:=mO Sn
 GR:=mO PI
 Vk:=mO acA
 IS:=mO Sp
 N8:=mO Xl
 Ck:=mO Va
 Bu:=mO Mj
 Ja:=mO Sq
 Gl:=mO PJ
 I0:=mO Sr
 GU:=axO PK
 Gi:=mO PL
 Q6:=mO ZY
 QP:=mO ZZ
 N9:=mO Xm
 IU:=mO Ss
 iL:=mO qg
 fF:=mO kC
 s_InitP i hi h nx:=bK afJ ez ⟨i,hi⟩ h nx
 s_CanP c s bs hs ha h nx:=bK akS ez ⟨c,s,bs,hs,ha⟩ h nx
 s_HoldsP c s bs r hs ha h nx:=bK acZ ez ⟨⟨c,s,bs,hs,ha⟩,r⟩ h nx
 s_NextP c s bs r hs ha h nx:=bK afH ez ⟨⟨c,s,bs,hs,ha⟩,r⟩ h nx
 s_InitR i hi h nx:=bK afK ez ⟨i,hi⟩ h nx
 s_CanR c s bs hs ha h nx:=bK akT ez ⟨c,s,bs,hs,ha⟩ h nx
 s_HoldsR c s bs r hs ha h nx:=bK ac0 ez ⟨⟨c,s,bs,hs,ha⟩,r⟩ h nx
 s_NextR c s bs r hs ha h nx:=bK afI ez ⟨⟨c,s,bs,hs,ha⟩,r⟩ h nx
 s_parser_Decl i hi h nx:=by
  match i,hi with
  |0,_=>exact bK vS ez (⟨0,by decide⟩:QJ) h nx
  |1,_=>exact bK vS ez (⟨1,by decide⟩:QJ) h nx
  |2,_=>exact bK vS ez (⟨2,by decide⟩:QJ) h nx
 s_ref09_Decl i hi h nx:=by
  match i,hi with
  |0,_=>exact bK yC ez (⟨0,by decide⟩:QJ) h nx
  |1,_=>exact bK yC ez (⟨1,by decide⟩:QJ) h nx
  |2,_=>exact bK yC ez (⟨2,by decide⟩:QJ) h nx
 s_values_Valid u h nx:=by have e:=bK Q7 ez (⟨⟨u.k,u.n,[]⟩,Nat.zero_le _⟩:QK) h nx;simp only[JL,aCc]at e;exact e
 s_values_Compare s t hs ht h nx:=bK akU ez ⟨s,t,hs,ht⟩ h nx
 s_ref10_Valid u h nx:=bK ac3 ez u h nx
 s_ref10_Compare s t hs ht h nx:=bK akV ez ⟨s,t,hs,ht⟩ h nx
 s_Equal s t hs ht h nx:=bK akW ez ⟨s,t,hs,ht⟩ h nx
 s_Clone s hs h nx:=bK afL ez ⟨s,hs⟩ h nx
 s_Module h nx:=bK ape ez () h nx
 s_lives h nx:=bK akX ez () h nx
theorem aCd{ρ:Nat→Int}(w0:W0)(hL:jQ Tryz.prog .nil w0):Ctx Tryz.prog ρ w0 CL:=axN Yw aoK mix asZ YA acY w0 hL
end Ln
namespace Go.Sx
open Go Go.RowKit Go.Sort
section
variable{α:Type}[Inhabited α]{k:Nat}{eA:α→List AV}{eV:α→List Value}
omit [Inhabited α] in
theorem Ys(F:Flat k eA){l:List α}{i r:Nat}(hi:i<l.length)(hr:r<k):(ag eA l)[i*k+r]?=(eA l[i])[r]?:=by rw[←F.at hi,List.getElem?_take_of_lt hr,List.getElem?_drop]
theorem axq{w:World}{c off m:Nat}{d:Array α}{os:Array Obj}{arr:Array Value}{elem:TypeId}{fz:Nat×Nat}(h:w.heap[c]?=some (.cells arr elem fz)) :
  (Go.Proofs.sortWorldK eV k w c off m d os).heap[c]?=some (.cells (putCells id off (flatK eV k d) arr) elem fz):=by
 have hc:c<w.heap.size:=(Array.getElem?_eq_some_iff.1 h).1;simp only[Go.Proofs.sortWorldK,grow,putRowK,putRow,mapBlock,Go.Sort.ahead,Array.getElem?_append,Array.size_modify,hc,if_true,Array.getElem?_modify,h,Option.map_some,onCells]
theorem NS{w:World}{c off m:Nat}{d:Array α}{os:Array Obj}{c':Nat}(bX:c'≠c)(h:c'<w.heap.size) :
  (Go.Proofs.sortWorldK eV k w c off m d os).heap[c']?=w.heap[c']?:=by
 simp only[Go.Proofs.sortWorldK,grow,putRowK,putRow,mapBlock,Go.Sort.ahead,Array.getElem?_append,Array.size_modify,h,if_true,Array.getElem?_modify,Ne.symm bX,if_false]
theorem aiz{w:World}{c off m:Nat}{d:Array α}{os:Array Obj}:w.heap.size≤(Go.Proofs.sortWorldK eV k w c off m d os).heap.size:=by simp[Go.Proofs.sortWorldK,grow,putRowK,putRow,mapBlock,Go.Sort.ahead]
theorem acj{w:World}{B c off m:Nat}{d:Array α}{os:Array Obj}(hB:B≤c)(hw:B≤w.heap.size):Below B w (Go.Proofs.sortWorldK eV k w c off m d os):=
 ⟨rfl,rfl,rfl,aiz,fun i hi=>NS (by omega) (by omega)⟩
theorem U0{W w':World}(hb:Below W.heap.size W w')(hd:W.drawn≤w'.drawn):∃q os',w'=grow (W.drewN q) os':=by
 refine⟨w'.drawn-W.drawn,w'.heap.extract W.heap.size w'.heap.size,?_⟩;obtain⟨h1,h2,h3,h4,h5⟩:=hb;have he:w'.heap=W.heap++w'.heap.extract W.heap.size w'.heap.size:=by
  apply Array.ext_getElem?;intro i;rw[Array.getElem?_append];split
  ·rename_i hi;exact h5 i hi
  ·rename_i hi;rw[Array.getElem?_extract];by_cases hi2:i<w'.heap.size
   ·rw[if_pos (by omega)];congr 1;omega
   ·rw[if_neg (by omega),zqj (by omega)]
 cases w' with
 |mk heap tape drawn os output=>simp only[grow,World.drewN]at *;subst h1 h2 h3;congr 1;omega
end
section
variable{P:Program}{ρ:Nat→Int}{heap0:T ah}{C:bQ}{α:Type}[Inhabited α]{k:Nat}{eA:α→List AV}{eV:α→List Value}
theorem asy{R:Go.Shelf.Ren}(hX:∀w0:W0,jQ P heap0 w0→Ctx P ρ w0 C){cf:α→α→Int}{g:Nat}{nx0:Key}(hn:P.globals.size≤nx0.toNat)
  (hc:∀x y,aG C g [.agg (eA x),.agg (eA y)] heap0 nx0 fun o _ _=>o=.ret (.int .i64 (.lit (cf x y))))
  {w0:W0} (hL:jQ P heap0 w0) {w:World} {μ:Mu} {G:Key→Option ah} {nx:Nat} (hM:bA P ρ w0 μ G nx w) {c off n:Nat} (uq:∀x,az ρ μ (eA x) (eV x)) (hkf:∀x,AV.JO (eA x)=true) (uo:w0.heap.size≤c) (Mz:∀i,μ.fz c i=none) (UK:c<w.heap.size) :
  Go.Proofs.CmpLays P g #[] eV k cf c off n w:=by
 intro m os dk _ x y;have hb:Below w0.heap.size w0.toWorld (Go.Proofs.sortWorldK eV k w c off m dk os):=hM.below.trans (acj uo hM.below.size);have hL1:jQ P heap0 ⟨Go.Proofs.sortWorldK eV k w c off m dk os,μ.fz⟩:=hL.aoz hb hM.zle;have hz:∀c' i v,μ.fz c' i=some v→∃arr elem f,(Go.Proofs.sortWorldK eV k w c off m dk os).heap[c']?=some (.cells arr elem f)∧arr[i]?=some v:=by
  intro c' i v h1;obtain⟨arr,elem,f,h2,h3⟩:=hM.YV _ _ _ h1;refine⟨arr,elem,f,?_,h3⟩;have bX:c'≠c:=by rintro rfl;rw[Mz]at h1;cases h1
  rw[NS bX (Array.getElem?_eq_some_iff.1 h2).1];exact h2
 have hM1:=JI (ρ:=ρ) (w0:=⟨Go.Proofs.sortWorldK eV k w c off m dk os,μ.fz⟩) hL1 hz (nx:=nx0.toNat) hn;have hr:∀x,az ρ (gMu P heap0 μ.fz) (eA x) (eV x):=fun x=>az.kf (μ:=μ) (μ':=gMu P heap0 μ.fz) (fun _ _ _ h=>h) (uq x) (hkf x);have ha:az ρ (gMu P heap0 μ.fz) [.agg (eA x),.agg (eA y)] (#[Value.agg (eV x).toArray,.agg (eV y).toArray] ++ #[]).toList:=
  .cons _ _ _ _ (.agg _ _ (by simpa using hr x)) (.cons _ _ _ _ (.agg _ _ (by simpa using hr y)) .nil)
 refine(IV (hX _ hL1) hM1 (fun _ _ h=>h) ha (fun o _ _ h=>⟨_,h⟩) (hc x y)).mono ?_;rintro e w' ⟨v,h',nx',u,μ2,G2,hr,rfl,hv,_,hM2,_⟩;cases hr;refine⟨?_,U0 hM2.below hM2.dr⟩;cases hv with
 |int _ _ n h=>rw[←h];rfl
def afs(arr:Array Value)(o k j:Nat):List Value:=(arr.toList.drop (o+j*k)).take k
theorem ack{arr:Array Value}{o k j r:Nat}(hr:r<k):(afs arr o k j)[r]?=arr[o+j*k+r]?:=by unfold afs;rw[List.getElem?_take_of_lt hr,List.getElem?_drop];simp
theorem holds_of{w:World}{c off n:Nat}[Inhabited (_root_.Fin n)]{arr:Array Value}{elem:TypeId}(ho:w.heap[c]?=some (.cells arr elem (0,0)))(hs:∀i,i<n*k→∃v,arr[off+i]?=some v) :
  HoldsK (fun j:_root_.Fin n=>afs arr off k j) k w c off (List.finRange n).toArray:=by
 intro j hj;rw[size_flatK]at hj;have hlen:j<n*k:=by simpa using hj
 have hk:0<k:=by
  rcases Nat.eq_zero_or_pos k with e|e
  ·subst e;simp at hlen
  ·exact e
 have hq:j / k<n:=Nat.div_lt_of_lt_mul (by rw[Nat.mul_comm];exact hlen);have hr:j%k<k:=Nat.mod_lt _ hk;obtain⟨v,hv⟩:=hs j hlen;refine⟨?_,?_⟩
 ·simp only[World.cell?,ho,hv,Option.isSome_none,XY,if_false,id];rw[get_flatK _ _ _ _ hj];have e1:(List.finRange n).toArray[j / k]! = ⟨j / k,hq⟩:=by simp[hq]
  have e2:off+j / k*k+j%k=off+j:=by rw[Nat.add_assoc,Nat.div_add_mod' j k]
  rw[e1,List.getElem!_eq_getElem?_getD,ack hr,e2,hv];rfl
 ·simp[World.frozen?,ho]
theorem akB{β:Type}{enc:β→List AV}(hX:∀w0:W0,jQ P heap0 w0→Ctx P ρ w0 C){R:Go.Shelf.Ren}(L:Go.Proofs.SlLaysF0.n6 P R)(aE:∀w,(isAgg (R.t 24)).run P w=.ok true w)(zE:∀w,(Go.sizeOf (R.t 24)).run P w=.ok k w)(F:Flat k enc)(hkf:∀x,AV.JO (enc x)=true){cf:β→β→Int}(hO:SWO (Go.Proofs.ltOf cf))
  (hT:∀x y,Go.Proofs.ltOf cf x y=false→Go.Proofs.ltOf cf y x=false→x=y) {g:Nat} (eg:∀args w,(callFunc g args).run P w=.ok (.enter g args) w) {nx0:Key} (hn:P.globals.size≤nx0.toNat)
  {us:List β} (SV:us.Nodup) (hc:∀x∈us,∀y∈us,aG C g [.agg (enc x),.agg (enc y)] heap0 nx0 fun o _ _=>o=.ret (.int .i64 (.lit (cf x y)))) (hz:us.length<4611686018427387904)
  {w0:W0} (hL:jQ P heap0 w0) {H:T ah} {nx b:Key} (hb:ae b H=some (.cells (ag enc us) .fix)) :
  MQ P ρ w0 (R.f 6) [.slice b 0 us.length k,.fn g [] []] H nx (.tuple []) (aw b (some (.cells (ag enc (us.mergeSort fun x y=>!(Go.Proofs.ltOf cf) y x)) .fix)) H) nx:=by
 intro args w μ G hM hH ha;obtain⟨args⟩:=args;have ha:az ρ μ [.slice b 0 us.length k,.fn g [] []] args:=ha;cases ha with
 |cons _ _ v1 r1 h1 Y0=>
 cases Y0 with
 |cons _ _ v2 r2 h2 QM=>
 cases QM;cases h2 with
 |fn _ _ _ vs ws hvs hws=>
 obtain⟨vs⟩:=vs;obtain⟨ws⟩:=ws;have hvs:az ρ μ [] vs:=hvs;have hws:az ρ μ [] ws:=hws;cases hvs;cases hws;cases h1 with
 |slice _ _ _ _ cap l a hl BQ hle aoA=>
 have hG:=hH _ _ hb;obtain⟨l',o,Yi,ho,hB⟩:=hM.lW _ _ hG;rw[hl]at Yi;cases Yi;cases hB with
 |cells _ _ _ arr elem fz Gg yq aAC aI9 aoB=>
 have aJa:=aI9 (by simp);subst aJa;have aoB:=aoB (by simp);have uo:w0.heap.size≤l.c:=by
  rcases hM.own _ _ _ hG hl with h|h
  ·exact h.elim
  ·exact h
 have hfr:∀i,μ.fz l.c i=none:=fun i=>hM.fzf b _ l 0 hG hl rfl i (Nat.zero_le _);have axs:=hM.BP _ _ hl;have au3:=F.rows us;by_cases h0:us=[]
 ·subst h0;refine(Go.Proofs.AnyF.slices_SortFunc_none L (some a) cap (.func (.func g) #[] #[]) w).mono ?_;rintro e w' ⟨rfl,rfl⟩;refine⟨_,μ,G,rfl,.tuple _ _ .nil,μ.le_refl,hM,?_,⟨fun _ _ _=>rfl,fun _ _=>rfl,fun b' h' _=>?_,fg _⟩⟩
  ·intro b' B' h';by_cases e:b'=b
   ·subst e;rw[gTSm]at h';cases h';simpa using hG
   ·rw[aU _ _ _ _ e]at h';exact hH _ _ h'
  ·have e:b'≠b:=by rintro rfl;rw[hb]at h';cases h'
   rw[aU _ _ _ _ e];exact h'
 ·have Pl:0<us.length:=List.length_pos_iff.2 h0;have aoA:a=⟨l.c,l.base,none⟩:=by
   rcases aoA with h|h
   ·omega
   ·exact h
  subst aoA
  let eA:_root_.Fin us.length→List AV:=fun j=>enc us[j]
  let eV:_root_.Fin us.length→List Value:=fun j=>afs arr l.base k j
  let cg:_root_.Fin us.length→_root_.Fin us.length→Int:=fun i j=>cf us[i] us[j]
  haveI:Inhabited (_root_.Fin us.length):=⟨⟨0,Pl⟩⟩
  have FA:Flat k eA:=⟨fun x=>F.len _,fun x=>F.r7 _,fun x=>F.cell _,fun x=>F.lits _⟩;have aoC:∀i,i<us.length*k→∃v,arr[l.base+i]?=some v:=fun i hi=>by obtain⟨v,hv,_⟩:=Gg i _ (yT (by rw[au3];exact hi));exact⟨v,hv⟩
  have hjk:∀(j:_root_.Fin us.length) r,r<k→j.1*k+r<us.length*k:=fun j r hr=>by have:=Nat.mul_le_mul_right k (show j.1+1≤us.length from j.2);rw[Nat.add_mul,Nat.one_mul]at this;omega
  have au4:∀j,(eV j).length=k:=fun j=>by
   show(afs arr l.base k j).length=k;unfold afs;rw[Y7,List.length_drop,Nat.min_eq_left];rcases Nat.eq_zero_or_pos k with e|e
   ·omega
   ·obtain⟨v,hv⟩:=aoC _ (hjk j (k-1) (by omega));have:=(Array.getElem?_eq_some_iff.1 hv).1;simp;omega
  have uq:∀x,az ρ μ (eA x) (eV x):=fun x=>by
   refine az.Tw (by rw[au4];exact F.len _) fun r a ha=>?_;have hr:r<k:=by have:=(List.getElem?_eq_some_iff.1 ha).1;rw[show(eA x).length=k from F.len _]at this;exact this
   have hg:=Ys F (l:=us) (i:=x.1) x.2 hr;obtain⟨v,hv,hvr⟩:=Gg _ a (hg.trans ha);refine⟨v,?_,hvr⟩;show(afs arr l.base k x)[r]?=some v;rw[ack hr,Nat.add_assoc];exact hv
  have aJb:∀x,∀v∈eV x,v.oneCell'=true:=fun x=>EZ (uq x) (wG.2 (F.cell _));have hOg:SWO (Go.Proofs.ltOf cg):=⟨fun x=>hO.irrefl _,fun x y z=>hO.trans _ _ _,fun x y z=>hO.ntrans _ _ _⟩;have hTg:∀x y,Go.Proofs.ltOf cg x y=false→Go.Proofs.ltOf cg y x=false→x=y:=fun x y h1 h2=>by
   have e:=hT _ _ h1 h2;rw[List.nodup_iff_pairwise_ne,List.pairwise_iff_getElem]at SV;rcases Nat.lt_trichotomy x.1 y.1 with h|h|h
   ·exact absurd e (SV _ _ x.2 y.2 h)
   ·exact Fin.ext h
   ·exact absurd e.symm (SV _ _ y.2 x.2 h)
  have aJc:(List.finRange us.length).length=us.length:=List.length_finRange;have hH1:HoldsK eV k w l.c l.base (List.finRange us.length).toArray:=holds_of ho aoC;have aJd:(List.finRange us.length).toArray.size=us.length:=by simp
  have key:=Go.Proofs.AnyQ.slices_SortFunc_total L k aE zE eV au4 aJb cg hOg g #[] l.c l.base cap (List.finRange us.length).toArray w eg
   (asy (R:=R) (eA:=eA) hX hn (fun x y=>hc _ (OA _) _ (OA _)) hL hM uq (fun x=>hkf _) uo hfr axs) hH1 axs (by simpa using hz) hTg
  rw[aJd]at key;refine(show Calls P (R.f 6) #[.slice (some ⟨l.c,l.base,none⟩) us.length cap,.func (.func g) #[] #[]] w _ from key).mono ?_;rintro e w' ⟨rfl,n,os,rfl⟩;have hlen:((List.finRange us.length).mergeSort fun x y=>!(Go.Proofs.ltOf cg) y x).length=us.length:=by rw[List.length_mergeSort,aJc]
  have PB:ag enc (us.mergeSort fun x y=>!(Go.Proofs.ltOf cf) y x)=ag eA ((List.finRange us.length).mergeSort fun x y=>!(Go.Proofs.ltOf cg) y x):=by
   have e:=List.map_mergeSort (r:=fun x y:_root_.Fin us.length=>!(Go.Proofs.ltOf cg) y x) (s:=fun x y:β=>!(Go.Proofs.ltOf cf) y x) (f:=fun j=>us[j]) (l:=List.finRange us.length) (fun a _ b _=>rfl);have e2:(List.finRange us.length).map (fun j=>us[j])=us:=by apply List.ext_getElem (by simp);intro i h1 h2;simp
   rw[e2]at e;rw[←e];simp only[ag,List.flatMap_map];rfl
  rw[PB];simp only[List.toList_toArray]at *;generalize hsd:((List.finRange us.length).mergeSort fun x y=>!(Go.Proofs.ltOf cg) y x)=sd at hlen ⊢;have hH2:HoldsK eV k (Go.Proofs.sortWorldK eV k w l.c l.base n sd.toArray os) l.c l.base sd.toArray:=Go.Proofs.holdsK_sortWorldK_c eV k w l.c l.base (List.finRange us.length).toArray sd.toArray n os hH1 axs (by simpa using hlen);have ar8:=axq (eV:=eV) (k:=k) (off:=l.base) (m:=n) (d:=sd.toArray) (os:=os) ho;have aBL:∀b' B' l',b'≠b→G b'=some B'→μ b'=some l'→(Go.Proofs.sortWorldK eV k w l.c l.base n sd.toArray os).heap[l'.c]?=w.heap[l'.c]?:=fun b' B' l' bX hg hm=>NS (hM.sep _ _ _ _ _ _ hg hG hm hl bX) (hM.BP _ _ hm);have aoD:=FA.rows sd;have hsr:(ag eA sd).length=(ag enc us).length:=by rw[aoD,au3,hlen]
  refine⟨_,μ,pQ G b (some (.cells (ag eA sd) .fix)),rfl,.tuple _ _ .nil,μ.le_refl,?_,?_,⟨fun b' h' _=>?_,fun _ _=>rfl,fun b' h' _=>?_,fg _⟩⟩
  ·refine⟨?_,?_,?_,?_,hM.RW,hM.new,hM.below.trans (acj uo hM.below.size),?_,?_,hM.zle,hM.fzo,?_,?_⟩
   ·intro b' B' hg;by_cases e:b'=b
    ·subst e;rw[fR]at hg;cases hg;refine⟨l,_,hl,ar8,.cells _ _ _ _ _ _ ?_ ?_ ?_ (fun _=>rfl) ?_⟩
     ·intro i x hx;have hi:i<sd.length*k:=by rw[←aoD];exact(List.getElem?_eq_some_iff.1 hx).1
      have hj:=(hH2 i (by rw[size_flatK];simpa using hi)).1;simp only[World.cell?,ar8,Option.isSome_none,XY,if_false,id]at hj;refine⟨_,hj,?_⟩;have hk:0<k:=by
       rcases Nat.eq_zero_or_pos k with e|e
       ·subst e;simp at hi
       ·exact e
      have hq:i / k<sd.length:=Nat.div_lt_of_lt_mul (by rw[Nat.mul_comm];exact hi);have hr:i%k<k:=Nat.mod_lt _ hk;rw[get_flatK _ _ _ _ (by simpa using hi)];have e1:sd.toArray[i / k]! = sd[i / k]:=by simp[hq]
      have HJ:=Ys FA hq hr;rw[Nat.div_add_mod' i k,hx]at HJ;obtain⟨v,hv,uq⟩:=(uq sd[i / k]).get _ _ HJ.symm;rw[e1,List.getElem!_eq_getElem?_getD,hv];exact uq
     ·simpa[putCells]using yq
     ·rw[hsr];exact aAC
     ·intro _;rw[hsr];exact aoB
    ·rw[bU _ _ e]at hg;obtain⟨l2,o2,h3,h4,h5⟩:=hM.lW _ _ hg;exact⟨l2,o2,h3,by rw[aBL _ _ _ e hg h3];exact h4,h5⟩
   ·intro b1 b2 B1 B2 l1 l2 g1 g2 m1 m2 bX;have:∀b' B',pQ G b (some (.cells (ag eA sd) .fix)) b'=some B'→∃B'',G b'=some B'':=by
     intro b' B' h';by_cases e:b'=b
     ·subst e;exact⟨_,hG⟩
     ·rw[bU _ _ e]at h';exact⟨_,h'⟩
    obtain⟨x1,y1⟩:=this _ _ g1;obtain⟨x2,y2⟩:=this _ _ g2;exact hM.sep _ _ _ _ _ _ y1 y2 m1 m2 bX
   ·intro b' l2 hm;exact OX (hM.BP _ _ hm) aiz
   ·intro b' B' l2 hg hm;by_cases e:b'=b
    ·subst e;rw[hl]at hm;cases hm;exact .inr uo
    ·rw[bU _ _ e]at hg;exact hM.own _ _ _ hg hm
   ·intro c' i v hv;have bX:c'≠l.c:=by rintro rfl;rw[hfr]at hv;cases hv
    obtain⟨aJe,el,f,h3,h4⟩:=hM.YV _ _ _ hv;exact⟨aJe,el,f,by rw[NS bX (Array.getElem?_eq_some_iff.1 h3).1];exact h3,h4⟩
   ·intro b' B' l2 n2 hg hm Ap i hi;by_cases e:b'=b
    ·subst e;rw[hl]at hm;cases hm;exact hfr i
    ·rw[bU _ _ e]at hg;exact hM.fzf _ _ _ _ hg hm Ap i hi
   ·intro b' L2 l2 hg hm;by_cases e:b'=b
    ·subst e;rw[fR]at hg;cases hg
    ·rw[bU _ _ e]at hg;rw[aBL _ _ _ e hg hm];exact hM.rof _ _ _ hg hm
   ·show w0.drawn≤w.drawn+n;have:=hM.dr;omega
  ·intro b' B' h';by_cases e:b'=b
   ·subst e;rw[gTSm]at h';rw[fR];exact h'
   ·rw[aU _ _ _ _ e]at h';rw[bU _ _ e];exact hH _ _ h'
  ·have e:b'≠b:=by rintro rfl;rw[hb]at h';cases h'
   rw[bU _ _ e]
  ·have e:b'≠b:=by rintro rfl;rw[hb]at h';cases h'
   rw[aU _ _ _ _ e];exact h'
end
end Go.Sx
namespace Go.Proofs
open Go.Shelf
def Tryz.laysS_ren:Go.Shelf.Ren:=⟨fun|6=>63|15=>136|14=>135|28=>218|29=>219|20=>210|21=>211|22=>212|23=>213|24=>214|25=>215|26=>216|27=>217|46=>280|47=>281|48=>282|49=>283|50=>284|57=>343|n=>n,fun|22=>33|24=>145|25=>153|3=>3|39=>283|0=>0|53=>372|55=>223|4=>4|46=>366|45=>365|50=>197|5=>5|9=>9|66=>438|70=>441|76=>478|77=>479|n=>n,fun|n=>n⟩
theorem Tryz.laysS:Go.Proofs.SlLaysF0.n6 Tryz.prog Tryz.laysS_ren:={
 mixed:=by kernel_rfl
 f6:=⟨Tryz.f63.name,by decide,Tryz.func63.trans (congrArg some (by kernel_rfl))⟩
 f14:=⟨Tryz.f135.name,by decide,Tryz.func135.trans (congrArg some (by kernel_rfl))⟩
 f15:=Tryz.func136.trans (congrArg some (by kernel_rfl))
 f20:=⟨Tryz.f210.name,by decide,Tryz.func210.trans (congrArg some (by kernel_rfl))⟩
 f21:=⟨Tryz.f211.name,by decide,Tryz.func211.trans (congrArg some (by kernel_rfl))⟩
 f22:=⟨Tryz.f212.name,by decide,Tryz.func212.trans (congrArg some (by kernel_rfl))⟩
 f23:=⟨Tryz.f213.name,by decide,Tryz.func213.trans (congrArg some (by kernel_rfl))⟩
 f24:=⟨Tryz.f214.name,by decide,Tryz.func214.trans (congrArg some (by kernel_rfl))⟩
 f25:=⟨Tryz.f215.name,by decide,Tryz.func215.trans (congrArg some (by kernel_rfl))⟩
 f26:=⟨Tryz.f216.name,by decide,Tryz.func216.trans (congrArg some (by kernel_rfl))⟩
 f27:=⟨Tryz.f217.name,by decide,Tryz.func217.trans (congrArg some (by kernel_rfl))⟩
 f28:=Tryz.func218.trans (congrArg some (by kernel_rfl))
 f29:=Tryz.func219.trans (congrArg some (by kernel_rfl))
 f46:=⟨Tryz.f280.name,by decide,Tryz.func280.trans (congrArg some (by kernel_rfl))⟩
 f47:=Tryz.func281.trans (congrArg some (by kernel_rfl))
 f48:=Tryz.func282.trans (congrArg some (by kernel_rfl))
 f49:=⟨Tryz.f283.name,by decide,Tryz.func283.trans (congrArg some (by kernel_rfl))⟩
 f50:=⟨Tryz.f284.name,by decide,Tryz.func284.trans (congrArg some (by kernel_rfl))⟩
 f57:=⟨Tryz.f343.name,by decide,Tryz.func343.trans (congrArg some (by kernel_rfl))⟩
 t0:=Tryz.underlying0
 a0:=Tryz.isAgg0
 z0:=Tryz.sizeOf0
 v0:=Tryz.zeroValue0
 t3:=Tryz.underlying3
 a3:=Tryz.isAgg3
 z3:=Tryz.sizeOf3
 v3:=Tryz.zeroValue3
 t4:=Tryz.underlying4
 a4:=Tryz.isAgg4
 z4:=Tryz.sizeOf4
 v4:=Tryz.zeroValue4
 t5:=Tryz.underlying5
 a5:=Tryz.isAgg5
 z5:=Tryz.sizeOf5
 v5:=Tryz.zeroValue5
 t9:=Tryz.underlying9
 a9:=Tryz.isAgg9
 z9:=Tryz.sizeOf9
 v9:=Tryz.zeroValue9
 t22:=Tryz.underlying33
 a22:=Tryz.isAgg33
 z22:=Tryz.sizeOf33
 v22:=Tryz.zeroValue33
 t25:=Tryz.underlying153
 a25:=Tryz.isAgg153
 z25:=Tryz.sizeOf153
 v25:=Tryz.zeroValue153
 t39:=Tryz.underlying283
 a39:=Tryz.isAgg283
 z39:=Tryz.sizeOf283
 v39:=Tryz.zeroValue283
 t45:=Tryz.underlying365
 a45:=Tryz.isAgg365
 z45:=Tryz.sizeOf365
 v45:=Tryz.zeroValue365
 t46:=Tryz.underlying366
 a46:=Tryz.isAgg366
 z46:=Tryz.sizeOf366
 v46:=Tryz.zeroValue366
 t50:=Tryz.underlying197
 a50:=Tryz.isAgg197
 z50:=Tryz.sizeOf197
 v50:=Tryz.zeroValue197
 t53:=Tryz.underlying372
 a53:=Tryz.isAgg372
 z53:=Tryz.sizeOf372
 v53:=Tryz.zeroValue372
 t55:=Tryz.underlying223
 a55:=Tryz.isAgg223
 z55:=Tryz.sizeOf223
 v55:=Tryz.zeroValue223
 t66:=Tryz.underlying438
 a66:=Tryz.isAgg438
 z66:=Tryz.sizeOf438
 v66:=Tryz.zeroValue438
 t70:=Tryz.underlying441
 a70:=Tryz.isAgg441
 z70:=Tryz.sizeOf441
 v70:=Tryz.zeroValue441
 t76:=Tryz.underlying478
 a76:=Tryz.isAgg478
 z76:=Tryz.sizeOf478
 v76:=Tryz.zeroValue478
 t77:=Tryz.underlying479
 a77:=Tryz.isAgg479
 z77:=Tryz.sizeOf479
 v77:=Tryz.zeroValue479}
end Go.Proofs
namespace Ln
def NJ(a b:Cf St):Prop:=a.1<b.1∨a.1=b.1∧jA a.2 b.2<0
theorem ai8(a:Cf St):¬NJ a a:=by
 rintro(h|⟨_,h⟩)
 ·omega
 ·rw[vE.2 rfl]at h;omega
theorem aaa{a b c:Cf St}(h:NJ a b)(k:NJ b c):NJ a c:=by
 rcases h with h|⟨h1,h2⟩<;>rcases k with k|⟨k1,k2⟩
 ·exact .inl (by omega)
 ·exact .inl (by omega)
 ·exact .inl (by omega)
 ·exact .inr ⟨by omega,ER h2 k2⟩
theorem atA{a b:Cf St}(h:¬NJ a b)(bX:a≠b):NJ b a:=by
 by_cases h1:b.1<a.1
 ·exact .inl h1
 ·have h4:¬a.1<b.1:=fun q=>h (.inl q);have e:a.1=b.1:=by omega
  refine .inr ⟨e.symm,?_⟩;have h2:¬jA a.2 b.2<0:=fun q=>h (.inr ⟨e,q⟩);have h3:jA a.2 b.2≠0:=fun q=>bX (Prod.ext e (vE.1 q));refine(CP _ _).2 ?_;unfold jA at h2 h3;omega
theorem awg{out:List (Cf St)}{x:Cf St}{k:Nat}(hk:k≤out.length)(h:out.Pairwise NJ)(hx:x∉out)(hb:∀j (hj:j<out.length),k≤j→NJ x out[j])(ha:k=0∨∃hj:k-1<out.length,¬NJ x out[k-1]):(out.take k++x ::out.drop k).Pairwise NJ:=by
 have hg:=List.pairwise_iff_getElem.1 h;have Ap:∀y∈out.take k,NJ y x:=by
  intro y hy;obtain⟨i,hi,rfl⟩:=List.getElem_of_mem hy;have hi2:i<k∧i<out.length:=by rw[List.length_take]at hi;omega
  rw[List.getElem_take];rcases ha with rfl|⟨hj,hn⟩
  ·omega
  ·have h1:NJ out[k-1] x:=atA hn (by rintro rfl;exact hx (List.getElem_mem hj));by_cases e:i=k-1
   ·subst e;exact h1
   ·exact aaa (hg i (k-1) hi2.2 hj (by omega)) h1
 have hhi:∀y∈out.drop k,NJ x y:=by
  intro y hy;obtain⟨i,hi,rfl⟩:=List.getElem_of_mem hy;have hi2:k+i<out.length:=by rw[List.length_drop]at hi;omega
  rw[List.getElem_drop];exact hb (k+i) hi2 (by omega)
 have h0:=h;rw[←List.take_append_drop k out,List.pairwise_append]at h0;obtain⟨h1,h2,h3⟩:=h0;rw[List.pairwise_append,List.pairwise_cons];refine⟨h1,⟨hhi,h2⟩,?_⟩;intro a ha2 b Ii;rcases List.mem_cons.1 Ii with rfl|Ii
 ·exact Ap a ha2
 ·exact h3 a ha2 b Ii
theorem arV{out:List (Cf St)}{x:Cf St}(k:Nat)(y:Cf St):y∈out.take k++x ::out.drop k↔y=x∨y∈out:=by
 conv=>rhs;rw[←List.take_append_drop k out]
 simp only[List.mem_append,List.mem_cons];constructor
 ·rintro(h|h|h)
  ·exact .inr (.inl h)
  ·exact .inl h
  ·exact .inr (.inr h)
 ·rintro(h|h|h)
  ·exact .inr (.inl h)
  ·exact .inl h
  ·exact .inr (.inr h)
theorem YH{α:Type}[DecidableEq α]:∀{l m:List α},l.Nodup→(∀x∈l,x∈m)→l.length≤m.length
 | [],m,_,_=>Nat.zero_le _
 |a ::l,m,h,hs=>by rw[List.nodup_cons]at h;have ha:a∈m:=hs a (by simp);have h1:=YH (l:=l) (m:=m.erase a) h.2 fun x hx=>(List.mem_erase_of_ne (by rintro rfl;exact h.1 hx)).2 (hs x (by simp[hx]));have h2:=List.length_erase_of_mem ha;have h3:0<m.length:=List.length_pos_of_mem ha;simp only[List.length_cons];omega
section
variable{σ:Type}[DecidableEq σ]
structure FM(S:Sys σ)(L bad:List (Cf σ)):Prop where
 nodup:bad.Nodup
 sub:∀x∈bad,x∈L
 no:∀x∈bad,¬Good S x
theorem FM.nil(S:Sys σ)(L:List (Cf σ)):FM S L []:=⟨by simp,by simp,by simp⟩
theorem FM.len{S:Sys σ}{L bad:List (Cf σ)}(h:FM S L bad):bad.length≤L.length:=YH h.nodup h.sub
theorem FM.add{S:Sys σ}{L bad:List (Cf σ)}{c:Cf σ}(h:FM S L bad)(hc:c∈L)(hn:c∉bad)(hg:¬Good S c):FM S L (bad ++ [c]):=by
 refine⟨?_,?_,?_⟩
 ·rw[List.nodup_append];refine⟨h.nodup,by simp,?_⟩;intro a ha b hb;simp at hb;rintro rfl;subst hb;exact hn ha
 ·intro x hx;rcases List.mem_append.1 hx with hx|hx
  ·exact h.sub x hx
  ·simp at hx;subst hx;exact hc
 ·intro x hx;rcases List.mem_append.1 hx with hx|hx
  ·exact h.no x hx
  ·simp at hx;subst hx;exact hg
end
end Ln
namespace Ln
open Go.Sx Go
theorem aim(z:Cf St):List.drop 5 (eC z)=[]:=rfl
theorem Pt(X:Kn)(i:Nat)(os:List Op)(c:Cf St)(j:Nat):(aP X i os).step c j=if Av os j c.1=true then(X.take (cm i (os.getD j default)) (os.getD j default) c.2).map (fun s=>(j,(c.1+2^j,s)))else none:=rfl
theorem anl(s:St):AV.beq (.agg (eS s)) (.agg (eS s))=true:=beq_refl _ (by simp[eS,AV.lits,AV.iA,CQ,I])
variable{C:bQ}{X:Kn}(S:Std C X)
def SpI(X:Kn)(i:Nat)(os:List Op)(cells:List AV)(c:Cf St)(bj:Key)(h:T ah)(nx:Key)(m:Nat)(ay:T AV)(h':T ah)(nx':Key):Prop:=∃(j:Nat) (c5:AV),m=os.length-j∧j≤os.length∧ae (K 0) ay=some (.ptr bj 0)∧ae (K 3) ay=some (.ptr nx 0)∧ae (K 6) ay=some (I j)∧ae (K 5) ay=some c5∧
 App c5 (ag eC (((aP X i os).dS c j).map (·.2))) (((aP X i os).dS c j).map (·.2)).length 5 h' nx' nx.succ∧ae bj h'=some (.cells cells .fix)∧ae nx h'=some (.cells (eC c) .fix)∧Ext h nx h' nx'∧nx.toNat<nx'.toNat
include S
theorem ams{i:Nat}(hi:i<3){os:List Op}(tC:lY i os=0)(ho:os.length≤16){cO:AV}(hc:gI 10 eO cO os){s0:St}{c:Cf St}(hd:c.1<65536)(hs:iz i c.2){h:T ah}{nx bj:Key}(hb:ae bj h=some (.cells (wB X i cO s0) .fix))(EJ:bj.toNat<nx.toNat) :
  aG C lB [.ptr bj 0,.agg (eC c)] h nx (fun o h' nx'=>∃cR,o=.ret cR∧gI 5 eC cR (((aP X i os).steps c).map (·.2))∧Ext h nx h' nx'):=by
 have rO:C.raw iG=false:=S.nr (by decide);have rT:C.raw iH=false:=S.nr (by decide);have rB:C.raw js=false:=S.nr (by decide);have s1:=kTSu nx;refine S.Gi.call ?_;simp[BY];have ac:=(bH c.2.kids).1;simp[C9,eC,ac];simp[Da];simp[Db];have ec:[I c.1,I c.2.k,I c.2.n,.str 0 0,aL c.2.kids]=eC c:=rfl;rw[ec];have e0:=E0 h nx (.cells (eC c) .fix);refine W.dy (n:=os.length) (SpI X i os (wB X i cO s0) c bj h nx) ⟨0,.nils,by simp,by omega,by simp,by simp,by simp,by simp,App.nil _,by rw[e0.g bj EJ];exact hb,by simp,e0,by omega⟩ ?_;rintro m ef h1 bS ⟨j,c5,rfl,hj,g0,g3,g6,g5,hA,bj1,bc1,e1,lt1⟩;refine W.of ?_;simp[Dc];have wBl:(wB X i cO s0).length=9:=rfl;by_cases bW:j<os.length
 ·have v7:(j:Int)<os.length:=by omega
  have E9:cO=.sl (ag eO os) os.length 10 .any:=by
   rcases hc with⟨_,rfl⟩|e
   ·simp at bW
   ·exact e
  subst E9;have af:∀n H,aM n (aL c.2.kids) H=(aL c.2.kids,H):=dM _;have hco:=S9 hi tC (yT bW);have hgd:=pS bW;have ei:=gQ (aP X i os) c j;have Yh:=Pt X i os c j;rw[hgd]at Yh;have next:∀(aJ:T AV) (h2:T ah) (aN:Key) (c6:AV) (us:List (Cf St)),ae (K 0) aJ=some (.ptr bj 0)→ae (K 3) aJ=some (.ptr nx 0)→ae (K 6) aJ=some (I j)→ae (K 5) aJ=some c6→us=((aP X i os).dS c (j+1)).map (·.2)→App c6 (ag eC us) us.length 5 h2 aN nx.succ→ae bj h2=some (.cells (wB X i (.sl (ag eO os) os.length 10 .any) s0) .fix)→ae nx h2=some (.cells (eC c) .fix)→Ext h nx h2 aN→nx.toNat<aN.toNat→
    lA C (aQ (fun tm h' nx'=>∃m,m<os.length-j∧SpI X i os (wB X i (.sl (ag eO os) os.length 10 .any) s0) c bj h nx m tm h' nx') (aC 0 (aQ (gn C (.seq (.ops n9) .ret) (bZ [.tmp (K 4)] fun o h' nx'=>∃cR,o=.ret cR∧gI 5 eC cR (((aP X i os).steps c).map (·.2))∧Ext h nx h' nx')) (bZ [.tmp (K 4)] fun o h' nx'=>∃cR,o=.ret cR∧gI 5 eC cR (((aP X i os).steps c).map (·.2))∧Ext h nx h' nx')))) uw aJ h2 aN:=by
   intro aJ h2 aN c6 us q0 q3 q6 q5 hus hA2 b2 bc2 e2 lt2;subst hus;simp[uw,q6];rw[aB (by omega) (by omega)];exact⟨os.length-(j+1),by omega,j+1,c6,rfl,by omega,by simp[q0],by simp[q3],by simp,by simp[q5],hA2,b2,bc2,e2,lt2⟩
  simp[oa,g0,g6,bj1,wB,v7];simp[Dd,g0,g3,g6,bc1,eC,rO];refine(abO S ho hc bW hd bj1 (by omega)).mono ?_;rintro o h2 aN ⟨rfl,e2⟩;have n2:=e2.n;have b2:ae bj h2=some (.cells (wB X i (.sl (ag eO os) os.length 10 .any) s0) .fix):=by rw[e2.g bj (by omega)];exact bj1
  have bc2:ae nx h2=some (.cells (eC c) .fix):=by rw[e2.g nx lt1];exact bc1
  have hA2:=hA.ext e2;have Wm:=e1.trans e2;cases mg:Av os j c.1 with
  |false=>rw[mg]at Yh;simp;refine next _ _ _ c5 _ ?_ ?_ ?_ ?_ (by rw[ei,Yh];simp) hA2 b2 bc2 Wm (by omega)<;>simp[g0,g3,g5,g6]
  |true=>
   rw[mg,if_pos rfl]at Yh;simp;have s2:=kTSu aN;simp[De,g0,g3,g6,bc2,eC,rT,af];refine(ais S hc hco hs b2 (by omega)).mono ?_;rintro out h3 bY ⟨⟨u,rfl,hu⟩,e3⟩;have s3:=kTSu bY;have n3:=e3.n;simp[xS,lenS,UL];have e4:=E0 h3 bY (.cells (eS u) .fix);have e34:=e3.trans e4;have b4:ae bj (aw bY (some (.cells (eS u) .fix)) h3)=some (.cells (wB X i (.sl (ag eO os) os.length 10 .any) s0) .fix):=by rw[e34.g bj (by omega)];exact b2
   have bc4:ae nx (aw bY (some (.cells (eS u) .fix)) h3)=some (.cells (eC c) .fix):=by rw[e34.g nx (by omega)];exact bc2
   have bu4:ae bY (aw bY (some (.cells (eS u) .fix)) h3)=some (.cells (eS u) .fix):=by simp
   have hA4:=hA2.ext e34;have e14:=Wm.trans e34;generalize aw bY (some (.cells (eS u) .fix)) h3=h4 at *;cases ht:X.take (cm i os[j]) os[j] c.2 with
   |none=>rw[ht]at Yh;simp;simp[ux];refine next _ _ _ c5 _ ?_ ?_ ?_ ?_ (by rw[ei,Yh];simp) hA4 b4 bc4 e14 (by omega)<;>simp[g0,g3,g5,g6]
   |some t=>
    rw[ht]at Yh;have:=hu t ht;subst this;simp;simp[ux];have hp:0<2^j∧2^j≤65536:=⟨Nat.two_pow_pos j,lC (by omega)⟩;simp[-appendTo,Df,g0,g3,g5,g6,bc4,bu4,eC,lenS,su,rB];refine(aff S (by omega)).mono ?_;rintro o h5 r9 ⟨rfl,rfl,rfl⟩;have hus:((aP X i os).dS c (j+1)).map (·.2)=((aP X i os).dS c j).map (·.2) ++ [(c.1+2^j,u)]:=by rw[ei,Yh];simp
    generalize 2^j=p at hp hus ⊢;have hw:aW .i64 ((c.1:Int)+(p:Int))=(c.1:Int)+(p:Int):=aB (by omega) (by omega);have s5:=kTSu bY.succ;have s6:=kTSu bY.succ.succ;have e5:=E0 h5 bY.succ (.cells (eC (c.1+p,u)) .fix);have b5:ae bj (aw bY.succ (some (.cells (eC (c.1+p,u)) .fix)) h5)=some (.cells (wB X i (.sl (ag eO os) os.length 10 .any) s0) .fix):=by rw[e5.g bj (by omega)];exact b4
    have bc5:ae nx (aw bY.succ (some (.cells (eC (c.1+p,u)) .fix)) h5)=some (.cells (eC c) .fix):=by rw[e5.g nx (by omega)];exact bc4
    have aws:((aP X i os).dS c j).length≤j:=by have:=List.length_filterMap_le ((aP X i os).step c) (List.range j);rw[List.length_range]at this;exact this
    obtain⟨c6,h6,Cv,ha,hA6,n6,k6,_⟩:=(hA4.ext e5).As eJ (by omega) (by rw[List.length_map];omega) (c.1+p,u);have hz:=CN (c.1+p,u);have ec6:eC (c.1+p,u)=[I ((c.1:Int)+(p:Int)),I u.k,I u.n,.str 0 0,aL u.kids]:=rfl;have acu:=(bH u.kids).1;have afu:∀n H,aM n (aL u.kids) H=(aL u.kids,H):=dM _;rw[ec6]at ha b5 bc5 e5 k6;have q1:AV.beq (I c.1) (I c.1)=true:=beq_refl _ rfl;have q2:=anl u;simp[eS]at q2;simp[-appendTo,hw,eS,eC,g6,bc4,bu4,afu,ha,acu,q1,q2];refine next _ _ _ c6 _ ?_ ?_ ?_ ?_ hus.symm hA6 (by rw[k6 bj (by omega)];exact b5) (by rw[k6 nx (by omega)];exact bc5) ⟨by have:=e14.n;omega,fun b hb=>by rw[k6 b (by omega),e5.g b (by omega)];exact e14.g b hb⟩ (by omega)
    all_goals simp[g0,g3,g6]
 ·have xM:j=os.length:=by omega
  subst xM;rw[show((aP X i os).dS c os.length)=(aP X i os).steps c from Pn (aP X i os) c]at hA;have fr:=hA.xN eJ 9998;have fin:∀(aJ:T AV),ae (K 5) aJ=some c5→gn C (.seq (.ops n9) .ret) (bZ [.tmp (K 4)] fun o h' nx'=>∃cR,o=.ret cR∧gI 5 eC cR (((aP X i os).steps c).map (·.2))∧Ext h nx h' nx') aJ h1 bS:=by intro aJ q5;simp;simp[n9,q5];exact⟨fr.1,by omega,fun b hb=>by rw[fr.2 b (by omega)];exact e1.g b hb⟩
  simp only[bM,cz]at fin;rcases id hc with⟨Tt,Cu⟩|Tt
  ·have:(os.length:Int)=0:=by rw[Cu];rfl
   simp[oa,g0,g6,bj1,wB,Tt,this];refine fin _ ?_;simp[g5]
  ·simp[oa,g0,g6,bj1,wB,Tt];refine fin _ ?_;simp[g5]
end Ln
namespace Ln
open Go.Sx Go
theorem amV{α:Type}[DecidableEq α]{l:List α}{x:α}{j:Nat}(hj:j<l.length)(h:x∉l.take j)(hx:l[j]≠x):x∉l.take (j+1):=by
 rw[zqu hj,List.mem_append,List.mem_singleton];rintro(q|q)
 ·exact h q
 ·exact hx q.symm
variable{C:bQ}{X:Kn}(S:Std C X)
def HsI(l:List (Cf St))(x:Cf St)(c0:AV)(h:T ah)(nx:Key)(m:Nat)(ay:T AV)(h':T ah)(nx':Key):Prop:=∃j:Nat,m=l.length-j∧j≤l.length∧ae (K 0) ay=some c0∧ae (K 3) ay=some (.ptr nx 0)∧ae (K 5) ay=some (I j)∧ae nx h'=some (.cells (eC x) .fix)∧Ext h nx h' nx'∧nx.toNat<nx'.toNat∧x∉l.take j
include S
theorem aii{l:List (Cf St)}(hl:l.length≤10000)(hk:∀y∈l,y.2.kids.length≤3){x:Cf St}(hx:x.2.kids.length≤3){c0:AV}{h:T ah}{nx:Key}(hR:Rd 5 c0 (ag eC l) l.length h nx) :
  aG C nh [c0,.agg (eC x)] h nx (fun o h' nx'=>o=.ret (.bool (decide (x∈l)))∧Ext h nx h' nx'):=by
 have rS:C.raw kH=false:=S.nr (by decide);have s1:=kTSu nx;have ac:=(bH x.2.kids).1;have ec:[I x.1,I x.2.k,I x.2.n,.str 0 0,aL x.2.kids]=eC x:=rfl;have e0:=E0 h nx (.cells (eC x) .fix);refine S.QP.call ?_;simp[Po];simp[NG,CM,pr];simp[NH];refine W.dy (n:=l.length) (HsI l x c0 h nx) ⟨0,by simp,by omega,by simp,by simp,by simp,by simp,e0,by omega,by simp⟩ ?_;rintro m ef h1 bS ⟨j,rfl,hj,g0,g3,g5,bx,e1,lt1,sx⟩;refine W.of ?_;simp[NI];have hR1:=hR.ext e1;by_cases bW:j<l.length
 ·have v7:(j:Int)<l.length:=by omega
  have hr:=eJ.rows l;have tx:5≤l.length*5-j*5:=by omega
  have ecj:=eJ.at bW;have hkj:=hk _ (OA bW);have hsm:=nQ S hkj hx h1 bS;have step:x∉l.take j→l[j]≠x→x∉l.take (j+1):=amV bW;have yes:l[j]=x→x∈l:=fun e=>e ▸ OA bW;rcases hR1 with⟨e,Cu,e2'⟩|⟨f,e⟩|⟨b,k,e,hb,EJ,_⟩
  ·omega
  ·have Wg:=g0;rw[e]at Wg;simp[nY,Wg,g5,v7];simp[E4,Wg,g3,g5,bW,hr,tx,ecj,bx,y8,pr,rS,CN];refine hsm.mono ?_;rintro o h2 aN ⟨rfl,e2⟩;have n2:=e2.n;have bx2:ae nx h2=some (.cells (eC x) .fix):=by rw[e2.g nx lt1];exact bx
   by_cases hjx:l[j]=x
   ·simp[hjx];simp[E5];exact⟨yes hjx,e1.trans e2⟩
   ·simp[hjx];simp[E6,g5];rw[aB (by omega) (by omega)];exact⟨l.length-(j+1),by omega,j+1,rfl,by omega,by simp[g0,e],by simp[g3],by simp,bx2,e1.trans e2,by omega,step sx hjx⟩
  ·have Wg:=g0;rw[e]at Wg;simp[nY,Wg,g5,v7];simp[E4,Wg,g3,g5,bW,hr,tx,ecj,bx,y8,pr,rS,CN,hb];refine hsm.mono ?_;rintro o h2 aN ⟨rfl,e2⟩;have n2:=e2.n;have bx2:ae nx h2=some (.cells (eC x) .fix):=by rw[e2.g nx lt1];exact bx
   by_cases hjx:l[j]=x
   ·simp[hjx];simp[E5];exact⟨yes hjx,e1.trans e2⟩
   ·simp[hjx];simp[E6,g5];rw[aB (by omega) (by omega)];exact⟨l.length-(j+1),by omega,j+1,rfl,by omega,by simp[g0,e],by simp[g3],by simp,bx2,e1.trans e2,by omega,step sx hjx⟩
 ·have xM:j=l.length:=by omega
  subst xM;rw[List.take_length]at sx;rcases hR1 with⟨e,Cu,e2'⟩|⟨f,e⟩|⟨b,k,e,_⟩
  all_goals
   have Wg:=g0;rw[e]at Wg
  ·have:(l.length:Int)=0:=by omega
   simp[nY,Wg,g5,this];simp[yw];exact⟨sx,e1⟩
  ·simp[nY,Wg,g5];simp[yw];exact⟨sx,e1⟩
  ·simp[nY,Wg,g5];simp[yw];exact⟨sx,e1⟩
end Ln
namespace Ln
open Go.Sx Go
theorem _root_.Go.Sx.gI.rd{α:Type}{z:Nat}{enc:α→List AV}{c:AV}{l:List α}(g:gI z enc c l)(h:T ah)(nx:Key):Rd z c (ag enc l) l.length h nx:=by
 rcases g with⟨e,rfl⟩|e
 ·exact .inl ⟨e,rfl,rfl⟩
 ·exact .inr (.inl ⟨_,e⟩)
theorem acz(l:List (Cf St))(c:Cf St)(r:List (Cf St)):eN l (c ::r)=if (dW l c).length>1024 then none else eN (dW l c) r:=rfl
theorem UE(z:Cf St)(H:T ah):bG (aM 9999) (eC z) H=(eC z,H):=bT (eJ.r7 _)
variable{C:bQ}{X:Kn}(S:Std C X)
def RiI(l r:List (Cf St))(i:Nat)(c6:AV)(bj:Key)(ob:Option Key)(h:T ah)(nx:Key)(m:Nat)(ay:T AV)(h':T ah)(nx':Key):Prop:=∃(k:Nat) (l':List (Cf St)) (c4:AV) (mK:Option Key),m=r.length-k∧k≤r.length∧ae (K 0) ay=some (.ptr bj 0)∧ae (K 4) ay=some c4∧ae (K 5) ay=some (I i)∧ae (K 6) ay=some c6∧ae (K 7) ay=some (I k)∧
 Gr 5 c4 (ag eC l') l'.length h' nx' mK∧l'.length≤1024∧eN l r=eN l' (r.drop k)∧(∀x∈l',x.2.kids.length≤3)∧nR h nx ob h' nx' mK
include S
theorem amt{l r:List (Cf St)}(hr:∀x∈r,x.2.kids.length≤3)(LI:r.length≤16){i:Nat}{c6:AV}(hc6:gI 5 eC c6 r){bj:Key}{ob:Option Key}{h:T ah}{nx:Key}{Q:dh}{m:Nat}{tm:T AV}{h1:T ah}{bS:Key}(A:RiI l r i c6 bj ob h nx m tm h1 bS)
  (HE:∀ay h' nx' mK,ae (K 2) ay=some .nils→ae (K 3) ay=some (.bool false)→eN l r=none→nR h nx ob h' nx' mK→Q .ret ay h' nx')
  (fy:∀ay h' nx' (l':List (Cf St)) c4 mK,ae (K 0) ay=some (.ptr bj 0)→ae (K 4) ay=some c4→ae (K 5) ay=some (I i)→Gr 5 c4 (ag eC l') l'.length h' nx' mK→eN l r=some l'→(∀x∈l',x.2.kids.length≤3)→nR h nx ob h' nx' mK→Q .norm ay h' nx') :
  W C (.loop uW) (aC 2 Q) tm h1 bS:=by
 have rH:C.raw nh=true:=S.rw (by decide);refine W.dy (RiI l r i c6 bj ob h nx) A ?_;rintro m ef h2 aN ⟨k,l',c4,mK,rfl,hk,g0,g4,g5,g6,g7,G,hl,pF,BL,F⟩;refine W.of ?_;simp[uW];have hR6:Rd 5 c6 (ag eC r) r.length h2 aN:=hc6.rd _ _;by_cases Qh:k<r.length
 ·have hki:(k:Int)<r.length:=by omega
  have hx:=hr _ (OA Qh);rw[zqt Qh,acz]at pF;simp[↓hR6.ln,uX,g6,g7,hki];simp[↓hR6.ix eJ Qh,DC,g4,g6,g7,rH];refine(aii S (by omega) BL hx G.rd).mono ?_;rintro o h3 bY ⟨rfl,e3⟩;generalize hxe:r[k]=x at *;have F3:=F.trans (nR.iT e3 mK);have G3:=G.ext e3;have next:∀(aJ:T AV) (h4:T ah) (jZ:Key) (c5:AV) (o4:Option Key),ae (K 0) aJ=some (.ptr bj 0)→ae (K 4) aJ=some c5→ae (K 5) aJ=some (I i)→ae (K 6) aJ=some c6→ae (K 7) aJ=some (I k)→Gr 5 c5 (ag eC (dW l' x)) (dW l' x).length h4 jZ o4→nR h nx ob h4 jZ o4→
    lA C (aQ (gn C (.cond (.t (K 52)) (.seq (.ops sQ) .ret) .skip) (aC 3 (aQ (gn C (.ops mE) (aQ (fun tm h' nx'=>∃m,m<r.length-k∧RiI l r i c6 bj ob h nx m tm h' nx') (aC 2 Q))) (aQ (fun tm h' nx'=>∃m,m<r.length-k∧RiI l r i c6 bj ob h nx m tm h' nx') (aC 2 Q))))) (aC 3 (aQ (gn C (.ops mE) (aQ (fun tm h' nx'=>∃m,m<r.length-k∧RiI l r i c6 bj ob h nx m tm h' nx') (aC 2 Q))) (aQ (fun tm h' nx'=>∃m,m<r.length-k∧RiI l r i c6 bj ob h nx m tm h' nx') (aC 2 Q))))) oy aJ h4 jZ:=by
   intro aJ h4 jZ c5 o4 q0 q4 q5 q6 q7 G4 F4;by_cases hlen:(dW l' x).length>1024
   ·have hli:(1024:Int)<(dW l' x).length:=by omega
    rw[if_pos hlen]at pF;simp[↓G4.rd.ln,oy,q4,hli];simp[sQ];refine HE _ _ _ o4 ?_ ?_ pF F4<;>simp
   ·have hli:¬(1024:Int)<(dW l' x).length:=by omega
    rw[if_neg hlen]at pF;simp[↓G4.rd.ln,oy,q4,hli];simp[mE,q7];rw[aB (by omega) (by omega)];exact⟨r.length-(k+1),by omega,k+1,dW l' x,c5,o4,rfl,by omega,by simp[q0],by simp[q4],by simp[q5],by simp[q6],by simp,G4,by omega,pF,abk BL hx,F4⟩
  by_cases hxm:x∈l'
  ·have ea:dW l' x=l':=by unfold dW;rw[if_pos hxm]
   rw[ea]at next
   simp[hxm];refine next _ _ _ c4 mK ?_ ?_ ?_ ?_ ?_ G3 F3<;>simp[g0,g4,g5,g6,g7]
  ·have ea:dW l' x=l' ++ [x]:=by unfold dW;rw[if_neg hxm]
   rw[ea]at next
   have s3:=kTSu bY;have e4:=E0 h3 bY (.cells (eC x) .fix);obtain⟨c5,h5,r9,o5,ha,G5,F5⟩:=(G3.ext e4).As eJ (by decide) (by decide) (by omega) x;have F45:=(F3.trans (nR.iT e4 mK)).trans F5;simp[hxm];simp[-appendTo,↓(hc6.rd h3 bY).ix eJ Qh,hxe,DD,g4,g6,g7,ha,CM,pr,y8,aim,UE];refine next _ _ _ c5 o5 ?_ ?_ ?_ ?_ ?_ G5 F45<;>simp[g0,g4,g5,g6,g7]
 ·have hke:k=r.length:=by omega
  subst hke;rw[List.drop_length]at pF;have pF:eN l r=some l':=pF;simp[↓hR6.ln,uX,g6,g7];refine fy _ _ _ l' c4 mK ?_ ?_ ?_ G pF BL F<;>simp[g0,g4,g5]
end Ln
namespace Ln
open Go.Sx Go
theorem Ic{i:Nat}{s:St}(h:iz i s):s.kids.length≤3:=Nat.le_trans h (aeN i)
variable{C:bQ}{X:Kn}(S:Std C X)
def RoI(X:Kn)(mi:Nat)(os:List Op)(cells:List AV)(c0:Cf St)(bj:Key)(h:T ah)(nx:Key)(m:Nat)(ay:T AV)(h':T ah)(nx':Key):Prop:=∃(i:Nat) (l:List (Cf St)) (c4:AV) (mK:Option Key),m=1024-i∧i≤l.length∧ae (K 0) ay=some (.ptr bj 0)∧ae (K 4) ay=some c4∧ae (K 5) ay=some (I i)∧
 Gr 5 c4 (ag eC l) l.length h' nx' mK∧Kept (aP X mi os) i l∧l[0]?=some c0∧S8 (aP X mi os) (1025-i) i l=S8 (aP X mi os) 1025 0 [c0]∧(∀x∈l,iz mi x.2)∧nR h nx none h' nx' mK
include S
theorem OV{i:Nat}(hi:i<3){os:List Op}(tC:lY i os=0){c:Cf St}(hs:iz i c.2):∀x∈(aP X i os).steps c,iz i x.2.2:=by intro x hx;obtain⟨k,c'⟩:=x;obtain⟨h1,_,_,h4⟩:=OW hx;have hk:k<os.length:=h1;have h4:X.take (cm i (os.getD k default)) (os.getD k default) c.2=some c'.2:=h4;rw[pS hk]at h4;have hco:=S9 hi tC (yT hk);have:=S.ok.take (cm i os[k]) os[k] c.2 c'.2 (by rw[hco.yr];exact hs) hco.ar h4;rw[hco.yr]at this;exact this
theorem ajO{i:Nat}(hi:i<3){os:List Op}(tC:lY i os=0)(ho:os.length≤16){cO:AV}(hc:gI 10 eO cO os){s0:St}{c0:Cf St}{h:T ah}{nx bj:Key}(hb:ae bj h=some (.cells (wB X i cO s0) .fix))(EJ:bj.toNat<nx.toNat){Q:dh}{m:Nat}{tm:T AV}{h1:T ah}{bS:Key}(A:RoI X i os (wB X i cO s0) c0 bj h nx m tm h1 bS)
  (HE:∀ay h' nx' mK,ae (K 2) ay=some .nils→ae (K 3) ay=some (.bool false)→S8 (aP X i os) 1025 0 [c0]=none→nR h nx none h' nx' mK→Q .ret ay h' nx')
  (fy:∀ay h' nx' (l:List (Cf St)) c4 mK,ae (K 4) ay=some c4→Gr 5 c4 (ag eC l) l.length h' nx' mK→S8 (aP X i os) 1025 0 [c0]=some l→Kept (aP X i os) l.length l→l[0]?=some c0→(∀x∈l,iz i x.2)→nR h nx none h' nx' mK→Q .norm ay h' nx') :
  W C (.loop uk) (aC 0 Q) tm h1 bS:=by
 have rT:C.raw lB=false:=S.nr (by decide);have hSo:=JB X i os;have hn:(aP X i os).n≤16:=ho;have h16:2^(aP X i os).n≤65536:=lC hn;refine W.dy (RoI X i os (wB X i cO s0) c0 bj h nx) A ?_;rintro m ef h2 aN ⟨j,l,c4,mK,rfl,hj,g0,g4,g5,G,kp,h0,qx,BL,F⟩;refine W.of ?_;simp[uk];have hR:=G.rd;have hl:=kp.len;have nF:=F.n;by_cases bW:j<l.length
 ·have v7:(j:Int)<l.length:=by omega
  have hcj:l[j]?=some l[j]:=yT bW;have Kb:=OA bW;have cD:=kp.lt _ Kb;have hos:=BL _ Kb;rw[show 1025-j=(1024-j)+1 by omega,abi hcj]at qx;simp[↓hR.ln,um,g4,g5,v7];simp[↓hR.ix eJ bW,CR,g0,g4,g5,rT,CN];have b2:ae bj h2=some (.cells (wB X i cO s0) .fix):=by rw[F.g bj EJ (by simp)];exact hb
  refine(ams S hi tC ho hc (by omega) hos b2 (by omega)).mono ?_;rintro o h3 bY ⟨cR,rfl,hcR,e3⟩;simp;simp[CT];have ei:=OV S hi tC hos;have hrk:∀x∈((aP X i os).steps l[j]).map (·.2),iz i x.2:=by intro x hx;obtain⟨y,hy,rfl⟩:=We.1 hx;exact ei y hy
  have LI:(((aP X i os).steps l[j]).map (·.2)).length≤16:=by rw[List.length_map];have h1:=List.length_filterMap_le ((aP X i os).step l[j]) (List.range (aP X i os).n);rw[List.length_range]at h1;exact Nat.le_trans h1 hn
  have G3:=G.ext e3;have F3:=F.trans (nR.iT e3 mK);have knx:=fun l' h=>kp.next hSo hcj (l':=l') h;have r0:eN l (((aP X i os).steps l[j]).map (·.2))=eN l ((((aP X i os).steps l[j]).map (·.2)).drop 0):=by simp
  generalize hr:((aP X i os).steps l[j]).map (·.2)=r at *;refine amt S (l:=l) (r:=r) (fun x hx=>Ic (hrk x hx)) LI (i:=j) hcR (bj:=bj) (ob:=mK) (h:=h3) (nx:=bY) (m:=r.length) ⟨0,l,c4,mK,by simp,by omega,by simp[g0],by simp[g4],by simp[g5],by simp,by simp,G3,hl,r0,fun x hx=>Ic (BL x hx),nR.refl _ _ _⟩ ?_ ?_
  ·intro ay h' nx' o' q2 q3 hn1 F4;rw[hn1]at qx;simp;exact HE _ _ _ o' q2 q3 qx.symm (F3.trans F4)
  ·intro ay h' nx' l' c5 o5 q0 q4 q5 G5 pF hk5 F5;rw[pF]at qx;obtain⟨⟨t,et⟩,_,_,_,hor⟩:=qZ pF;simp;simp[AL,q5];rw[aB (by omega) (by omega)];refine⟨1024-(j+1),by omega,j+1,l',c5,o5,rfl,by rw[et,Ko];omega,by simp[q0],by simp[q4],by simp,G5,knx l' pF,by rw[et,List.getElem?_append_left (by omega)];exact h0,?_,?_,F3.trans F5⟩
   ·rw[show 1025-(j+1)=1024-j by omega];exact qx
   ·intro x hx;rcases hor x hx with hx|hx
    ·exact BL x hx
    ·exact hrk x hx
 ·have xM:j=l.length:=by omega
  subst xM;rw[ah3 (by omega)]at qx;simp[↓hR.ln,um,g4,g5];refine fy _ _ _ l c4 mK ?_ G qx.symm kp h0 BL F;simp[g4]
end Ln
namespace Go.Sx
open Go
section
variable{z:Nat}{c:AV}{α:Type}{enc:α→List AV}{us:List α}{h:T ah}{nx:Key}
theorem Rd.ixS(F:Flat z enc)(g:Rd z c (ag enc us) us.length h nx){i:Nat}(hi:i<us.length){C:bQ}{Q:dh}{ds:List Key}{au:List (Nat×Key×ah)}{L:List aS}{tm:T AV}{n2 k1 k2 d1 d2:Key}{a b:Nat}{gu:Option (Key×Bool)}(h1:ae k1 tm=some c)(h2:ae k2 tm=some (I i))
  (hg:di gu tm=some true) (hg2:di gu (aw d1 (some (JV z i c)) tm)=some true) :
  wpS C Q ⟨ds,[]⟩ (.L a ⟨some d1,.indexL z (.t k1) (.t k2),gu⟩ ::.L b ⟨some d2,.load true z (.t d1),gu⟩ ::L) au tm h n2=wpS C Q ⟨ds,[]⟩ L au (aw d2 (some (.agg (enc us[i]))) (aw d1 (some (JV z i c)) tm)) h n2:=by
 have hr:=F.rows us;have he:=F.at hi;have hl:=F.len us[i];have tx:z≤us.length*z-i*z:=by rw[←Nat.sub_mul];exact Nat.le_mul_of_pos_left z (by omega)
 have tk:List.take z (enc us[i])=enc us[i]:=RL (by omega);rcases g with⟨_,_,e⟩|⟨f,rfl⟩|⟨b,k,rfl,hb,_,_⟩
 ·omega
 ·simp only[JV]at hg2;simp[h1,h2,hi,hr,tx,he,hl,tk,JV,hg];rw[he]at hg2;rw[hg2];simp[hl,tk]
 ·simp only[JV]at hg2;simp[h1,h2,hi,hr,tx,he,hl,tk,JV,hb,hg];rw[Nat.zero_add]at hg2;rw[hg2];simp[hb,hr,tx,he]
def loV(z k:Nat):AV→AV
 |.slice b off _ _=>.slice b off k z
 |.sl cs len _ fl=>.sl (List.take (k*z) cs) k z (bif decide (k=len)then fl else .any)
 |c=>c
def hiV(z k:Nat):AV→AV
 |.slice b off len _=>.slice b (off+k*z) (len-k) z
 |.sl cs len _ fl=>.sl (List.take ((len-k)*z) (List.drop (k*z) cs)) (len-k) z fl
 |c=>c
theorem Rd.aAO(F:Flat z enc)(g:Rd z c (ag enc us) us.length h nx){k:Nat}(hk:k≤us.length){C:bQ}{Q:dh}{L:List aA}{tm:T AV}{n2 k1 k2 k3 d1 d2:Key}{s c':AV}{h':T ah}{n':Key}(ha:appendTo z s (ag enc (us.take k)) k h n2=.val c' h' n')
  (h1:ae k1 tm=some c) (h2:ae k2 tm=some (I k)) (h3:ae k3 (aw d1 (some (loV z k c)) tm)=some s) :
  lA C Q (⟨some d1,.sliceL z (.t k1) none (some (.t k2)),none⟩ ::⟨some d2,.append z (.t k3) (.t d1),none⟩ ::L) tm h n2=lA C Q L (aw d2 (some c') (aw d1 (some (loV z k c)) tm)) h' n':=by
 have hr:=F.rows us;have HO:=F.take us k;have hkz:k*z≤us.length*z:=Nat.mul_le_mul_right z hk;have hz:bG (aM 9999) (ag enc (us.take k)) h=(ag enc (us.take k),h):=bT (F.yo _);rcases g with⟨rfl,e1,e2⟩|⟨f,rfl⟩|⟨b,kk,rfl,hb,_,_⟩
 ·have e0:us=[]:=zqr e2;subst e0;have:k=0:=by simpa using hk
  subst this;simp only[loV]at h3 ⊢;simp[-appendTo]at ha;simp[-appendTo,h1,h2,h3,ha]
 ·simp only[loV]at h3 ⊢;rw[HO]at h3 ⊢;simp[-appendTo,h1,h2,hk,hr,hkz,HO,h3,ha]
 ·simp only[loV]at h3 ⊢;simp[-appendTo,h1,h2,hk,hb,hr,hkz,HO,h3,hz,ha]
theorem Rd.aAP(F:Flat z enc)(g:Rd z c (ag enc us) us.length h nx){k:Nat}(hk:k≤us.length){C:bQ}{Q:dh}{L:List aA}{tm:T AV}{n2 k1 k2 k3 d1 d2:Key}{s c':AV}{h':T ah}{n':Key}(ha:appendTo z s (ag enc (us.drop k)) (us.length-k) h n2=.val c' h' n')
  (h1:ae k1 tm=some c) (h2:ae k2 tm=some (I k)) (h3:ae k3 (aw d1 (some (hiV z k c)) tm)=some s) :
  lA C Q (⟨some d1,.sliceL z (.t k1) (some (.t k2)) none,none⟩ ::⟨some d2,.append z (.t k3) (.t d1),none⟩ ::L) tm h n2=lA C Q L (aw d2 (some c') (aw d1 (some (hiV z k c)) tm)) h' n':=by
 have hr:=F.rows us;have hdr:=F.drop us k;have hrd:=F.rows (us.drop k);rw[List.length_drop]at hrd;have hkz:k*z≤us.length*z:=Nat.mul_le_mul_right z hk;have atn:(us.length-k)*z=us.length*z-k*z:=Nat.sub_mul _ _ _;have HO:List.take ((us.length-k)*z) (ag enc (us.drop k))=ag enc (us.drop k):=RL (by omega);have hz:bG (aM 9999) (ag enc (us.drop k)) h=(ag enc (us.drop k),h):=bT (F.yo _);rcases g with⟨rfl,e1,e2⟩|⟨f,rfl⟩|⟨b,kk,rfl,hb,_,_⟩
 ·have e0:us=[]:=zqr e2;subst e0;have:k=0:=by simpa using hk
  subst this;simp only[hiV]at h3 ⊢;simp[-appendTo]at ha;simp[-appendTo,h1,h2,h3,ha]
 ·simp only[hiV]at h3 ⊢;rw[hdr,HO]at h3 ⊢;have cD:¬us.length<k:=by omega
  simp[-appendTo,h1,h2,hk,hr,hrd,hdr,HO,h3,ha]
 ·simp only[hiV]at h3 ⊢;rw[Nat.zero_add]at h3 ⊢;simp[-appendTo,h1,h2,hk,hb,hr,hrd,hdr,HO,h3,hz,ha]
end
theorem abH{z k:Nat}{new:List AV}{h:T ah}{nx:Key}(hn:new.length=k*z)(hk:k≤1048576):∃c' h' nx' mK,appendTo z .nils new k h nx=.val c' h' nx'∧Gr z c' new k h' nx' mK∧nR h nx none h' nx' mK:=by
 have s1:=kTSu nx;by_cases h0:k=0
 ·subst h0;have:new=[]:=zqr (by omega);subst this;exact⟨.nils,h,nx,none,by simp,Gr.nil _ _ _,nR.refl _ _ _⟩
 ·exact⟨.slice nx 0 k z,aw nx (some (.cells new .part)) h,nx.succ,some nx,by simp[h0,hk],.inr (.inl ⟨nx,.part,rfl,rfl,by simp,by omega,hn,.inl rfl⟩),by omega,fun b hb _=>ax hb,.inr ⟨nx,rfl,fg _⟩⟩
theorem Gr.add0{z:Nat}{c:AV}{l:List AV}{len:Nat}{h:T ah}{nx:Key}{ob:Option Key}(g:Gr z c l len h nx ob)(hl:len≤1048576):∃h',appendTo z c [] 0 h nx=.val c h' nx∧∀b:Key,ae b h'=ae b h:=by
 rcases g with⟨rfl,rfl,rfl,rfl⟩|⟨b,k,rfl,rfl,h2,h3,h4,hk⟩|⟨t,rfl,rfl,h2,h3⟩
 ·exact⟨h,by simp,fun _=>rfl⟩
 ·rcases hk with rfl|rfl
  ·exact⟨h,by simp[h2,hl],fun _=>rfl⟩
  ·refine⟨aw b (some (.cells l .fix)) h,by simp[h2,hl,h4],fun x=>?_⟩;by_cases e:x=b
   ·subst e;simp[h2]
   ·rw[aU _ _ _ _ e]
 ·exact⟨h,by simp,fun _=>rfl⟩
theorem Gr.ae9{z m:Nat}{c:AV}{l new:List AV}{len:Nat}{h:T ah}{nx:Key}{ob:Option Key}(g:Gr z c l len h nx ob)(hw:Ie z=false)(hz:0<z)(hs:∀x∈l,OC x)(hn:new.length=m*z)(hl:len+m≤1048576)(hc:new.all AV.aT=true) :
  ∃c' h' nx' mK,appendTo z c new m h nx=.val c' h' nx'∧Gr z c' (l++new) (len+m) h' nx' mK∧nR h nx ob h' nx' mK:=by
 by_cases hm:m=0
 ·subst hm;have:new=[]:=zqr (by omega);subst this;obtain⟨h',e,hk⟩:=g.add0 (by omega);exact⟨c,h',nx,ob,e,by rw[List.append_nil];exact g.cF (fg _) (fun b _=>hk b),fg _,fun b _ _=>hk b,.inl rfl⟩
 ·exact g.add hw hz (by omega) hs hn hl hc
end Go.Sx
namespace Ln
open Go.Sx Go
variable{C:bQ}{X:Kn}(S:Std C X)
def LtI(out:List (Cf St))(x:Cf St)(j:Nat)(c4 c8:AV)(h:T ah)(nx:Key)(m:Nat)(ay:T AV)(h':T ah)(nx':Key):Prop:=∃k:Nat,m=k∧k≤out.length∧ae (K 4) ay=some c4∧ae (K 8) ay=some c8∧ae (K 9) ay=some (I j)∧ae (K 10) ay=some (I k)∧Ext h nx h' nx'∧∀q (hq:q<out.length),k≤q→NJ x out[q]
include S
theorem aj5{l out:List (Cf St)}(ho:out.length≤1024)(BL:∀y∈out,y.2.kids.length≤3){j:Nat}(hj:j<l.length)(hx:l[j].2.kids.length≤3){c4 c8:AV}{h:T ah}{nx:Key}(R4:Rd 5 c4 (ag eC l) l.length h nx)(R8:Rd 5 c8 (ag eC out) out.length h nx){Q:dh}{m:Nat}{tm:T AV}{h1:T ah}{bS:Key}(A:LtI out l[j] j c4 c8 h nx m tm h1 bS)
  (fy:∀ay h' nx' (k:Nat),k≤out.length→ae (K 4) ay=some c4→ae (K 8) ay=some c8→ae (K 9) ay=some (I j)→ae (K 10) ay=some (I k)→Ext h nx h' nx'→(∀q (hq:q<out.length),k≤q→NJ l[j] out[q])→(k=0∨∃hq:k-1<out.length,¬NJ l[j] out[k-1])→Q .norm ay h' nx') :
  W C (.loop vA) (aC 6 Q) tm h1 bS:=by
 have rL:C.raw sV=false:=S.nr (by decide);refine W.dy (LtI out l[j] j c4 c8 h nx) A ?_;rintro m ef h2 aN ⟨k,rfl,hk,g4,g8,g9,g10,e2,cD⟩;refine W.of ?_;simp[vA];cases m with
 |zero=>simp[tA,g10];refine fy _ _ _ 0 (by omega) ?_ ?_ ?_ ?_ e2 cD (.inl rfl)<;>simp[g4,g8,g9,g10]
 |succ k=>
  have Qh:k<out.length:=by omega
  have Pl:(0:Int)<(k:Int)+1:=by omega
  have hw:aW .i64 (k:Int)=k:=aB (by omega) (by omega);have R4':=R4.ext e2;have R8':=R8.ext e2;have hl:=atG S hx (BL _ (OA Qh)) h2 aN;simp[↓R4'.ixS eJ hj,↓R8'.ixS eJ Qh,tA,g4,g8,g9,g10,Pl,hw,rL,CN];refine hl.mono ?_;rintro o h3 bY ⟨⟨v,rfl,hv⟩,e3⟩;cases v with
  |false=>
   simp;refine fy _ _ _ (k+1) hk ?_ ?_ ?_ ?_ (e2.trans e3) cD (.inr ⟨by omega,fun q=>?_⟩)
   ·simp[g4]
   ·simp[g8]
   ·simp[g9]
   ·simp[g10]
   ·have:=hv.2 q;cases this
  |true=>
   simp;simp[BD,g10,hw];refine⟨k,by omega,k,rfl,by omega,by simp[g4],by simp[g8],by simp[g9],by simp,e2.trans e3,fun q hq hkq=>?_⟩;by_cases e:q=k
   ·subst e;exact hv.1 rfl
   ·exact cD q hq (by omega)
end Ln
namespace Ln
open Go.Sx Go
theorem _root_.Go.Sx.nR.cut{h h' h2:T ah}{nx nx' n2:Key}{o8 o6:Option Key}(a:nR h nx none h' nx' o8)(b:nR h' nx' none h2 n2 o6):nR h nx none h2 n2 o6:=by
 have n1:=a.n;refine⟨Nat.le_trans a.n b.n,fun x hx _=>?_,?_⟩
 ·rw[b.g x (by omega) (by simp)];exact a.g x hx (by simp)
 ·rcases b.o with e|⟨y,e,hy⟩
  ·exact .inl e
  ·exact .inr ⟨y,e,by omega⟩
theorem _root_.Go.Sx.Rd.frm{z:Nat}{c:AV}{l:List AV}{len:Nat}{h h':T ah}{nx nx':Key}{ob:Option Key}(g:Rd z c l len h nx)(e:nR h nx none h' nx' ob):Rd z c l len h' nx':=
 g.ext ⟨e.n,fun b hb=>e.g b hb (by simp)⟩
theorem _root_.Go.Sx.Gr.xN{z:Nat}{c:AV}{α:Type}{enc:α→List AV}(F:Flat z enc){us:List α}{h:T ah}{nx:Key}{ob:Option Key}(g:Gr z c (ag enc us) us.length h nx ob)(n:Nat):gI z enc (aM (n+1) c h).1 us∧∀b:Key,ob≠some b→ae b (aM (n+1) c h).2=ae b h:=by
 rcases g with⟨rfl,e1,e2,_⟩|⟨b,k,rfl,rfl,hb,_,hl,hk⟩|⟨t,rfl,rfl,_⟩
 ·exact⟨.inl ⟨rfl,zqr e2⟩,fun _ _=>rfl⟩
 ·rcases hk with rfl|rfl
  ·rw[CC hb hl (F.yo us)];exact⟨.inr rfl,fun x hx=>aU _ _ _ _ (fun e=>hx (by rw[e]))⟩
  ·rw[AP hb hl (F.yo us)];exact⟨.inr rfl,fun x hx=>aU _ _ _ _ (fun e=>hx (by rw[e]))⟩
 ·exact⟨.inr rfl,fun _ _=>rfl⟩
theorem WV{α:Type}{l:List α}{j:Nat}(hj:j<l.length)(x:α):x∈l.take (j+1)↔x=l[j]∨x∈l.take j:=by rw[zqu hj,List.mem_append,List.mem_singleton];exact or_comm
variable{C:bQ}{X:Kn}(S:Std C X)
def SoI(l:List (Cf St))(c4:AV)(h:T ah)(nx:Key)(m:Nat)(ay:T AV)(h':T ah)(nx':Key):Prop:=∃(j:Nat) (out:List (Cf St)) (c8:AV) (o8:Option Key),m=l.length-j∧j≤l.length∧ae (K 4) ay=some c4∧ae (K 8) ay=some c8∧ae (K 9) ay=some (I j)∧Gr 5 c8 (ag eC out) out.length h' nx' o8∧out.length=j∧out.Pairwise NJ∧(∀x,x∈out↔x∈l.take j)∧nR h nx none h' nx' o8
include S
theorem aj4{l:List (Cf St)}(hl:l.length≤1024)(hn:l.Nodup)(BL:∀y∈l,y.2.kids.length≤3){c4:AV}{h:T ah}{nx:Key}(R4:Rd 5 c4 (ag eC l) l.length h nx){Q:dh}{m:Nat}{tm:T AV}{h1:T ah}{bS:Key}(A:SoI l c4 h nx m tm h1 bS)
  (fy:∀ay h' nx' (out:List (Cf St)) c8 o8,ae (K 8) ay=some c8→Gr 5 c8 (ag eC out) out.length h' nx' o8→out.Pairwise NJ→(∀x,x∈out↔x∈l)→nR h nx none h' nx' o8→Q .norm ay h' nx') :
  W C (.loop uv) (aC 4 Q) tm h1 bS:=by
 refine W.dy (SoI l c4 h nx) A ?_;rintro m ef h2 aN ⟨j,out,c8,o8,rfl,hj,g4,g8,g9,G8,hol,hpw,qK,F2⟩;refine W.of ?_;simp[uv];have R4':=R4.frm F2;by_cases bW:j<l.length
 ·have v7:(j:Int)<l.length:=by omega
  have hxl:=BL _ (OA bW);have aFH:∀y∈out,y.2.kids.length≤3:=fun y hy=>BL y (List.mem_of_mem_take ((qK y).1 hy));simp[↓R4'.ln,sy,g4,g9,v7];simp[↓G8.rd.ln,AW,g8];refine aj5 S (l:=l) (out:=out) (by omega) aFH bW hxl R4' G8.rd (m:=out.length) ⟨out.length,rfl,fg _,by simp[g4],by simp[g8],by simp[g9],by simp,Ext.refl _ _,fun q hq hle=>by omega⟩ ?_;intro ay h3 bY k hk q4 q8 q9 q10 e3 cD Wl;have hxo:l[j]∉out:=by rw[qK];intro hc;obtain⟨i,hi,e⟩:=List.getElem_of_mem hc;rw[List.getElem_take]at e;rw[Y7]at hi;have:=(List.getElem_inj hn).1 e;omega
  have aFI:=awg hk hpw hxo cD Wl;have aAM:∀x,x∈out.take k++l[j] ::out.drop k↔x∈l.take (j+1):=fun x=>by rw[arV,WV bW,qK]
  have aFJ:=R4'.ext e3;have G83:=G8.ext e3;have F3:=F2.trans (nR.iT e3 o8);have hr8:=eJ.rows (out.take k);rw[Y7,Nat.min_eq_left hk]at hr8;obtain⟨c11,h4,jZ,o11,ha1,G11,F4⟩:=abH (h:=h3) (nx:=bY) hr8 (by omega);have hlk:(out.take k).length=k:=by rw[Y7,Nat.min_eq_left hk]
  have s4:=kTSu jZ;have e5:=E0 h4 jZ (.cells (eC l[j]) .fix);have R44:=aFJ.frm F4;have aFL:Gr 5 c11 (ag eC (out.take k)) (out.take k).length (aw jZ (some (.cells (eC l[j]) .fix)) h4) jZ.succ o11:=by rw[hlk];exact G11.ext e5
  have F5:=F4.trans (nR.iT e5 o11);obtain⟨c12,h6,Cv,o12,ha2,G12,F6'⟩:=aFL.As eJ (by decide) (by decide) (by rw[hlk];omega) l[j];have F6:=F5.trans F6';have R86:=G83.rd.frm F6;have hrd:=eJ.rows (out.drop k);rw[List.length_drop]at hrd;have aFM:(out.take k ++ [l[j]]).length+(out.length-k)≤1048576:=by rw[Ko,hlk];simp;omega
  obtain⟨c13,h7,nx7,o13,ha3,G13,F7'⟩:=G12.ae9 (by decide) (by decide) (eJ.yo _) hrd aFM (eJ.aeS _);have F7:=F3.cut (F6.trans F7');have er:ag eC (out.take k ++ [l[j]])++ag eC (out.drop k)=ag eC (out.take k++l[j] ::out.drop k):=by rw[←jg];simp
  have el:(out.take k ++ [l[j]]).length+(out.length-k)=(out.take k++l[j] ::out.drop k).length:=by simp;omega
  rw[er,el]at G13;simp;simp[AX];simp[-appendTo,↓G83.rd.aAO eJ hk ha1,AY,q8,q10];simp[-appendTo,↓R44.ix eJ bW,AZ,q4,q9,ha2,CM,pr,y8,aim,UE];simp[-appendTo,↓R86.aAP eJ hk ha3,A6,q8,q10];simp[A7,q9];rw[aB (by omega) (by omega)];have hll:(out.take k++l[j] ::out.drop k).length=j+1:=by simp;omega
  exact⟨l.length-(j+1),by omega,j+1,_,c13,o13,rfl,by omega,by simp[q4],by simp,by simp,G13,hll,aFI,aAM,F7⟩
 ·have xM:j=l.length:=by omega
  subst xM;rw[List.take_length]at qK;simp[↓R4'.ln,sy,g4,g9];refine fy _ _ _ out c8 o8 ?_ G8 hpw qK F2;simp[g8]
end Ln
namespace Ln
open Go.Sx Go
def awI(X:Kn)(i:Nat)(os:List Op)(s0:St)(h:T ah)(nx:Key)(o:Out)(h':T ah)(nx':Key):Prop:=Ext h nx h' nx'∧((S8 (aP X i os) 1025 0 [(0,s0)]=none∧o=.ret (.tuple [.nils,.bool false]))∨
 ∃(l out:List (Cf St)) (cR:AV),S8 (aP X i os) 1025 0 [(0,s0)]=some l∧Kept (aP X i os) l.length l∧l[0]?=some (0,s0)∧(∀x∈l,iz i x.2)∧out.Pairwise NJ∧(∀x,x∈out↔x∈l)∧gI 5 eC cR out∧o=.ret (.tuple [cR,.bool true]))
variable{C:bQ}{X:Kn}(S:Std C X)
include S
theorem amZ{i:Nat}(hi:i<3){os:List Op}(tC:lY i os=0)(ho:os.length≤16){cO:AV}(hc:gI 10 eO cO os){s0:St}(hs:iz i s0){h:T ah}{nx bj:Key}(hb:ae bj h=some (.cells (wB X i cO s0) .fix))(EJ:bj.toNat<nx.toNat) :
  aG C lF [.ptr bj 0] h nx (awI X i os s0 h nx):=by
 have s1:=kTSu nx;refine S.Gl.call ?_;simp[B0];simp[Dl];have ac:=(bH s0.kids).1;simp[Dm,hb,wB,ac];have ec:[I 0,I s0.k,I s0.n,.str 0 0,aL s0.kids]=eC (0,s0):=rfl;rw[ec];simp[Dn];have e1:=E0 h nx (.cells (eC (0,s0)) .fix);have G1:Gr 5 (.slice nx 0 1 5) (ag eC [(0,s0)]) [((0,s0):Cf St)].length (aw nx (some (.cells (eC (0,s0)) .fix)) h) nx.succ (some nx):=.inr (.inl ⟨nx,.fix,rfl,rfl,by simp[je],by omega,rfl,.inr rfl⟩);have F1:nR h nx none (aw nx (some (.cells (eC (0,s0)) .fix)) h) nx.succ (some nx):=⟨by omega,fun b hb _=>e1.g b hb,.inr ⟨nx,rfl,fg _⟩⟩;refine ajO S hi tC ho hc (s0:=s0) (c0:=(0,s0)) (h:=h) (nx:=nx) (bj:=bj) hb EJ (m:=1024) ⟨0,[(0,s0)],.slice nx 0 1 5,some nx,by simp,by simp,by simp,by simp,by simp,G1,Kept.start (by omega),rfl,rfl,by simpa using hs,F1⟩ ?_ ?_
 ·intro ay h' nx' mK q2 q3 qx F;simp[q2,q3];exact⟨⟨F.n,fun b hb=>F.g b hb (by simp)⟩,.inl ⟨qx,rfl⟩⟩
 ·intro ay h' nx' l c4 mK q4 G qx kp h0 BL F;simp;simp[Bl];simp[Bm];refine aj4 S kp.len kp.nodup (fun y hy=>Ic (BL y hy)) G.rd (m:=l.length) ⟨0,[],.nils,none,by simp,by omega,by simp[q4],by simp,by simp,Gr.nil _ _ _,rfl,by simp,by simp,nR.refl _ _ _⟩ ?_;intro aJ h2 aN out c8 o8 q8 G8 hpw qK F2;have fr:=G8.xN eJ 9998;have FF:=F2.n;have FN:=F.n;simp;simp[Bn,q8];refine⟨⟨by omega,fun b hb=>?_⟩,.inr ⟨l,out,_,qx,kp,h0,BL,hpw,qK,fr.1,rfl⟩⟩;have bX:o8≠some b:=F2.ne (by omega) (by simp);rw[fr.2 b bX,F2.g b (by omega) (by simp),F.g b hb (by simp)]
end Ln
namespace Ln
open Go.Sx Go
theorem ahu:∀n d:Nat,pop n d≤n
 |0,_=>fg _
 |n+1,d=>by unfold pop;have:=ahu n d;split<;>omega
theorem _root_.Go.Sx.Rd.app{z:Nat}{c:AV}{α:Type}{enc:α→List AV}{us:List α}{h:T ah}{nx:Key}(F:Flat z enc)(g:Rd z c (ag enc us) us.length h nx){C:bQ}{Q:dh}{L:List aA}{tm:T AV}{n2 k1 k3 d:Key}{s c':AV}{h':T ah}{n':Key}(ha:appendTo z s (ag enc us) us.length h n2=.val c' h' n')
  (h1:ae k1 tm=some c) (h3:ae k3 tm=some s):lA C Q (⟨some d,.append z (.t k3) (.t k1),none⟩ ::L) tm h n2=lA C Q L (aw d (some c') tm) h' n':=by
 have hr:=F.rows us;have HO:List.take (us.length*z) (ag enc us)=ag enc us:=RL (by omega);have hz:bG (aM 9999) (ag enc us) h=(ag enc us,h):=bT (F.yo _);rcases g with⟨rfl,e1,e2⟩|⟨f,rfl⟩|⟨b,kk,rfl,hb,_,_⟩
 ·have e0:us=[]:=zqr e2;subst e0;simp[-appendTo]at ha;simp[-appendTo,h1,h3,ha]
 ·simp[-appendTo,h1,h3,ha]
 ·simp[-appendTo,h1,h3,hb,hr,HO,hz,ha]
theorem _root_.Go.Sx.Gr.own{z:Nat}{c:AV}{l:List AV}{len:Nat}{h:T ah}{nx:Key}{ob:Option Key}(g:Gr z c l len h nx ob){b:Key}{o n z':Nat}(e:c=.slice b o n z'):ob=some b:=by
 rcases g with⟨rfl,_⟩|⟨b',k,rfl,rfl,_⟩|⟨t,rfl,rfl,_⟩
 ·cases e
 ·cases e;rfl
 ·cases e
theorem _root_.Go.Sx.Gr.aKi{z:Nat}{c:AV}{l:List AV}{len:Nat}{h h':T ah}{nx nx':Key}{ob o':Option Key}(g:Gr z c l len h nx ob)(F:nR h nx none h' nx' o'):Gr z c l len h' nx' ob:=
 g.cF F.n fun b hb=>F.g b (g.lt b hb) (by simp)
def Apt(c:AV)(ob:Option Key):Prop:=∀b o n z',c=.slice b o n z'→ob≠some b
theorem _root_.Go.Sx.Rd.aCM{z:Nat}{c:AV}{l:List AV}{len:Nat}{h h':T ah}{nx nx':Key}{ob mK:Option Key}(g:Rd z c l len h nx)(a:Apt c ob)(F:nR h nx ob h' nx' mK):Rd z c l len h' nx'∧Apt c mK:=by
 rcases g with⟨rfl,e1,e2⟩|⟨f,rfl⟩|⟨b,k,rfl,hb,cD,hl⟩
 ·exact⟨.inl ⟨rfl,e1,e2⟩,fun _ _ _ _ e=>by cases e⟩
 ·exact⟨.inr (.inl ⟨f,rfl⟩),fun _ _ _ _ e=>by cases e⟩
 ·have hn:=a b _ _ _ rfl;refine⟨.inr (.inr ⟨b,k,rfl,by rw[F.g b cD hn];exact hb,by have:=F.n;omega,hl⟩),fun b' o n z' e=>?_⟩;cases e;exact F.ne cD hn
structure Cls(X:Kn)(i:Nat)(os:List Op)(L:List (Cf St)):Prop where
 closed:∀c∈L,∀x∈(aP X i os).steps c,x.2∈L
 len:L.length≤1024
 lt:∀c∈L,c.1<2^os.length
 ok:∀c∈L,iz i c.2
def Au(p:List Nat):List Int:=p.map fun k:Nat=>(k:Int)
structure ato(X:Kn)(i:Nat)(os:List Op)(L:List (Cf St))(c:Cf St)(ord:List Int)(bad:List (Cf St))(c2:AV)(ob:Option Key)(h:T ah)(nx:Key)(o:Out)(h':T ah)(nx':Key):Prop where
 ex:∃(JS:List (Cf St)) (cB:AV) (mK:Option Key),FM (aP X i os) L JS∧Gr 5 cB (ag eC JS) JS.length h' nx' mK∧(∃t,JS=bad++t∧∀x∈t,c.1≤x.1)∧nR h nx ob h' nx' mK∧
  ((∃(p:List Nat) (cR:AV),Path (aP X i os) c p∧(ord++Au p).length≤16∧Rd 1 cR (ag eI (ord++Au p)) (ord++Au p).length h' nx'∧(∀b o n z',cR=.slice b o n z'→nx.toNat≤b.toNat∨cR=c2)∧o=.ret (.tuple [cR,cB,.bool true]))∨(¬Good (aP X i os) c∧o=.ret (.tuple [.nils,cB,.bool false])))
structure awe(X:Kn)(i:Nat)(os:List Op)(cO:AV)(s0:St)(L:List (Cf St))(bj:Key)(c:Cf St)(ord:List Int)(bad:List (Cf St))(c2 c3:AV)(ob:Option Key)(h:T ah)(nx:Key):Prop where
 hb:ae bj h=some (.cells (wB X i cO s0) .fix)
 bn:bj.toNat<nx.toNat
 bo:ob≠some bj
 mem:c∈L
 len:ord.length≤pop os.length c.1
 rd:Rd 1 c2 (ag eI ord) ord.length h nx
 apt:Apt c2 ob
 bok:FM (aP X i os) L bad
 gr:Gr 5 c3 (ag eC bad) bad.length h nx ob
def aCN(X:Kn)(i:Nat)(os:List Op)(L:List (Cf St))(bj:Key)(c:Cf St)(ord:List Int)(bad:List (Cf St))(c2:AV)(ob:Option Key)(nx0:Key)(h:T ah)(nx:Key)(m:Nat)(ay:T AV)(h':T ah)(nx':Key):Prop:=∃(j:Nat) (JS:List (Cf St)) (cB:AV) (mK:Option Key),m=os.length-j∧j≤os.length∧ae (K 0) ay=some (.ptr bj 0)∧ae (K 2) ay=some c2∧ae (K 5) ay=some (.ptr nx0 0)∧ae (K 11) ay=some (I j)∧ae (K 3) ay=some cB∧
 Gr 5 cB (ag eC JS) JS.length h' nx' mK∧FM (aP X i os) L JS∧(∃t,JS=bad++t∧∀x∈t,c.1<x.1)∧(∀x∈(aP X i os).dS c j,¬Good (aP X i os) x.2)∧nR h nx ob h' nx' mK
variable{C:bQ}{X:Kn}(S:Std C X)
include S
theorem am0{i:Nat}(hi:i<3){os:List Op}(tC:lY i os=0)(ho:os.length≤16){cO:AV}(hc:gI 10 eO cO os){s0:St}{L:List (Cf St)}(hL:Cls X i os L){bj:Key}:∀(M:Nat) {c:Cf St} {ord:List Int} {bad:List (Cf St)} {c2 c3:AV} {ob:Option Key} {h:T ah} {nx:Key},2^os.length-c.1≤M→awe X i os cO s0 L bj c ord bad c2 c3 ob h nx→
  aG C gF [.ptr bj 0,.agg (eC c),c2,c3] h nx (ato X i os L c ord bad c2 ob h nx):=by
 have rA:C.raw jx=false:=S.nr (by decide);have rH:C.raw nh=true:=S.rw (by decide);have rO:C.raw iG=false:=S.nr (by decide);have rT:C.raw iH=false:=S.nr (by decide);have rB:C.raw js=false:=S.nr (by decide);have rF:C.raw gF=true:=S.rw (by decide);have hSo:=JB X i os;have h16:2^os.length≤65536:=lC ho;intro M
 induction M with
 |zero=>intro c ord bad c2 c3 ob h nx hM A;have:=hL.lt c A.mem;omega
 |succ M ih=>
  intro c ord bad c2 c3 ob h nx hM A;obtain⟨hb,EJ,hbo,qK,hlen,hrd,aKj,alj,hgr⟩:=A;have arz:=hL.lt c qK;have hd:c.1<65536:=by omega
  have hs:=hL.ok c qK;have aS1:=ahu os.length c.1;have s1:=kTSu nx;have QG:=alj.len;have hLl:=hL.len;have hkb:∀y∈bad,y.2.kids.length≤3:=fun y hy=>Ic (hL.ok y (alj.sub y hy));have e0:=E0 h nx (.cells (eC c) .fix);have F0:=nR.iT e0 ob;have bj1:ae bj (aw nx (some (.cells (eC c) .fix)) h)=some (.cells (wB X i cO s0) .fix):=by rw[e0.g bj EJ];exact hb
  have bc1:ae nx (aw nx (some (.cells (eC c) .fix)) h)=some (.cells (eC c) .fix):=by simp
  have gr1:=hgr.ext e0;have aCO:ob≠some nx:=fun e=>by have:=hgr.lt nx e;omega
  obtain⟨rd1,aKl⟩:=hrd.aCM aKj F0;refine S.GU.call ?_;simp[Ce];simp[DU,CM,pr];generalize aw nx (some (.cells (eC c) .fix)) h=h1 at *;simp[DV,bc1,eC,rA];refine(ahv S ho hc hd bj1).mono ?_;rintro o CB aS2 ⟨rfl,rfl,rfl⟩;cases aya:C7 os c.1 with
  |true=>
   simp;simp[DW];refine⟨bad,c3,ob,alj,gr1,⟨[],by simp,by simp⟩,F0,.inl ⟨[],c2,.now aya,?_,?_,fun _ _ _ _ _=>.inr rfl,rfl⟩⟩
   ·simp[Au];omega
   ·simpa[Au]using rd1
  |false=>
   simp;simp[DX,bc1,y8,pr,rH];refine(aii S (by omega) hkb (Ic hs) gr1.rd).mono ?_;rintro o h2 aN ⟨rfl,e2⟩;have n2:=e2.n;have F2:=F0.trans (nR.iT e2 ob);have gr2:=gr1.ext e2;have rd2:=rd1.ext e2;have bc2:ae nx h2=some (.cells (eC c) .fix):=by rw[e2.g nx (by omega)];exact bc1
   have Yn:ae bj h2=some (.cells (wB X i cO s0) .fix):=by rw[e2.g bj (by omega)];exact bj1
   by_cases hcb:c∈bad
   ·simp[hcb];simp[DY];exact⟨bad,c3,ob,alj,gr2,⟨[],by simp,by simp⟩,F2,.inr ⟨alj.no c hcb,rfl⟩⟩
   ·simp[hcb];simp[DZ];refine W.dy (n:=os.length) (aCN X i os L bj c ord bad c2 ob nx h2 aN) ⟨0,bad,c3,ob,by simp,by omega,by simp,by simp,by simp,by simp,by simp,gr2,alj,⟨[],by simp,by simp⟩,by simp[Sys.dS],nR.refl _ _ _⟩ ?_;rintro m ef h3 bY ⟨j,JS,cB,mK,rfl,hj,g0,g2,g5,g11,g3,G,BO,⟨t,et,ht⟩,sx,F⟩;have n3:=F.n;have RZ:ae bj h3=some (.cells (wB X i cO s0) .fix):=by rw[F.g bj (by omega) hbo];exact Yn
    have bc3:ae nx h3=some (.cells (eC c) .fix):=by rw[F.g nx (by omega) aCO];exact bc2
    obtain⟨rd3,aS5⟩:=rd2.aCM aKl F;have hb3:mK≠some bj:=F.ne (by omega) hbo;have hn3:mK≠some nx:=F.ne (by omega) aCO;refine W.of ?_;simp[D0];by_cases bW:j<os.length
    ·have v7:(j:Int)<os.length:=by omega
     have E9:cO=.sl (ag eO os) os.length 10 .any:=by
      rcases hc with⟨_,rfl⟩|e
      ·simp at bW
      ·exact e
     subst E9;have af:∀n H,aM n (aL c.2.kids) H=(aL c.2.kids,H):=dM _;have hco:=S9 hi tC (yT bW);have ei:=gQ (aP X i os) c j;have Yh:=Pt X i os c j;rw[pS bW]at Yh;simp[oD,g0,g11,RZ,wB,v7];simp[D9,g0,g5,g11,bc3,eC,rO];refine(abO S ho hc bW hd RZ (by omega)).mono ?_;rintro o h4 jZ ⟨rfl,e4⟩;have n4:=e4.n;have bj4:ae bj h4=some (.cells (wB X i (.sl (ag eO os) os.length 10 .any) s0) .fix):=by rw[e4.g bj (by omega)];exact RZ
     have bc4:ae nx h4=some (.cells (eC c) .fix):=by rw[e4.g nx (by omega)];exact bc3
     have G4:=G.ext e4;have F4:=F.trans (nR.iT e4 mK);have rd4:=rd3.ext e4;have next:∀(aJ:T AV) (h5:T ah) (r9:Key) (bd:List (Cf St)) (cC:AV) (ob5:Option Key),ae (K 0) aJ=some (.ptr bj 0)→ae (K 2) aJ=some c2→ae (K 5) aJ=some (.ptr nx 0)→ae (K 11) aJ=some (I j)→ae (K 3) aJ=some cC→Gr 5 cC (ag eC bd) bd.length h5 r9 ob5→FM (aP X i os) L bd→(∃t,bd=bad++t∧∀x∈t,c.1<x.1)→(∀x∈(aP X i os).dS c (j+1),¬Good (aP X i os) x.2)→nR h2 aN ob h5 r9 ob5→
       lA C (aQ (fun tm h' nx'=>∃m,m<os.length-j∧aCN X i os L bj c ord bad c2 ob nx h2 aN m tm h' nx') (aC 0 (aQ (gn C (.seq (.ops mF) .ret) (QY [.tmp (K 8),.tmp (K 9),.tmp (K 10)] (ato X i os L c ord bad c2 ob h nx))) (QY [.tmp (K 8),.tmp (K 9),.tmp (K 10)] (ato X i os L c ord bad c2 ob h nx))))) tc aJ h5 r9:=by
      intro aJ h5 r9 bd cC ob5 q0 q2 q5 Qf q3 G5 BO5 ht5 aKn F5;simp[tc,Qf];rw[aB (by omega) (by omega)];exact⟨os.length-(j+1),by omega,j+1,bd,cC,ob5,rfl,by omega,by simp[q0],by simp[q2],by simp[q5],by simp,by simp[q3],G5,BO5,ht5,aKn,F5⟩
     cases mg:Av os j c.1 with
     |false=>rw[mg]at Yh;simp;refine next _ _ _ JS cB mK ?_ ?_ ?_ ?_ ?_ G4 BO ⟨t,et,ht⟩ (by rw[ei,Yh];simpa using sx) F4<;>simp[g0,g2,g5,g11,g3]
     |true=>
      rw[mg,if_pos rfl]at Yh;simp;simp[Ea,g0,g5,g11,bc4,eC,rT,af];refine(ais S hc hco hs bj4 (by omega)).mono ?_;rintro out h5 r9 ⟨⟨u,rfl,hu⟩,e5⟩;have s5:=kTSu r9;have n5:=e5.n;simp[xS,lenS,UL];have e6:=E0 h5 r9 (.cells (eS u) .fix);have e56:=e5.trans e6;have bj6:ae bj (aw r9 (some (.cells (eS u) .fix)) h5)=some (.cells (wB X i (.sl (ag eO os) os.length 10 .any) s0) .fix):=by rw[e56.g bj (by omega)];exact bj4
      have bc6:ae nx (aw r9 (some (.cells (eS u) .fix)) h5)=some (.cells (eC c) .fix):=by rw[e56.g nx (by omega)];exact bc4
      have bu6:ae r9 (aw r9 (some (.cells (eS u) .fix)) h5)=some (.cells (eS u) .fix):=by simp
      have G6:=G4.ext e56;have F6:=F4.trans (nR.iT e56 mK);have rd6:=rd4.ext e56;generalize aw r9 (some (.cells (eS u) .fix)) h5=h6 at *;cases HO:X.take (cm i os[j]) os[j] c.2 with
      |none=>rw[HO]at Yh;simp;simp[u6];refine next _ _ _ JS cB mK ?_ ?_ ?_ ?_ ?_ G6 BO ⟨t,et,ht⟩ (by rw[ei,Yh];simpa using sx) F6<;>simp[g0,g2,g5,g11,g3]
      |some u'=>
       rw[HO]at Yh;have:=hu u' HO;subst this;simp;simp[u6];simp[Bw];obtain⟨c14,h7,nx7,o14,ha7,G14,F7⟩:=abH (h:=h6) (nx:=r9.succ) (FO.rows ord) (by omega);simp[-appendTo,↓rd6.app FO ha7,Bx,g2];have hp:0<2^j∧2^j≤65536:=⟨Nat.two_pow_pos j,lC (by omega)⟩;have ayb:(aP X i os).step c j=some (j,(c.1+2^j,u)):=Yh;have MB:(j,((c.1+2^j,u):Cf St))∈(aP X i os).steps c:=List.mem_filterMap.2 ⟨j,List.mem_range.2 bW,ayb⟩;have avo:=hL.closed c qK _ MB;have aCP:=TG hSo MB arz;obtain⟨bq',esp⟩:=Vx (aP X i os) c bW ayb;have ayc:pop os.length (c.1+2^j)=pop os.length c.1+1:=aCP;have ud:=ahu os.length (c.1+2^j);rw[ayb]at ei;generalize Yv:2^j=p at hp MB avo ayc ud esp ei;have s7:=kTSu nx7;have n7:=F7.n;have e8:=E0 h7 nx7 (.cells [I j] .fix);obtain⟨c15,h9,nx9,o15,ha9,G15,F9⟩:=(G14.ext e8).As FO (by decide) (by decide) (by omega) (j:Int);have FF:=(F7.trans (nR.iT e8 o14)).trans F9;have bj9:ae bj h9=some (.cells (wB X i (.sl (ag eO os) os.length 10 .any) s0) .fix):=by rw[FF.g bj (by omega) (by simp)];exact bj6
       have bc9:ae nx h9=some (.cells (eC c) .fix):=by rw[FF.g nx (by omega) (by simp)];exact bc6
       have bu9:ae r9 h9=some (.cells (eS u) .fix):=by rw[FF.g r9 (by omega) (by simp)];exact bu6
       have bc7:ae nx h7=some (.cells (eC c) .fix):=by rw[F7.g nx (by omega) (by simp)];exact bc6
       have bu7:ae r9 h7=some (.cells (eS u) .fix):=by rw[F7.g r9 (by omega) (by simp)];exact bu6
       have bc8:ae nx (aw nx7 (some (.cells [I j] .fix)) h7)=some (.cells (eC c) .fix):=by rw[e8.g nx (by omega)];exact bc7
       have bu8:ae r9 (aw nx7 (some (.cells [I j] .fix)) h7)=some (.cells (eS u) .fix):=by rw[e8.g r9 (by omega)];exact bu7
       have G9:=G6.aKi FF;have Fm:nR h6 r9.succ mK h9 nx9 mK:=⟨FF.n,fun b hb _=>FF.g b hb (by simp),.inl rfl⟩;have F69:=F2.trans (F6.trans Fm);have aKs:Apt c15 mK:=by
        intro b o n z' e hob;have aqb:=G15.own e;have cD:=G6.lt b hob;rcases FF.o with e'|⟨y,e',hy⟩
        ·rw[aqb]at e';cases e'
        ·rw[aqb]at e';cases e';omega
       have hw:aW .i64 ((c.1:Int)+(p:Int))=(c.1:Int)+(p:Int):=aB (by omega) (by omega);have afu:∀n H,aM n (aL u.kids) H=(aL u.kids,H):=dM _;have q1:AV.beq (I c.1) (I c.1)=true:=beq_refl _ rfl;have q2:=anl u;have hej:eI (j:Int)=[I j]:=rfl;rw[hej]at ha9;simp[eS]at q2;simp[-appendTo,By,g0,g3,g5,g11,bc7,bu7,eC,eS,rB];refine(aff S (by omega)).mono ?_;rintro o hx nxx ⟨rfl,ex,exn⟩;rw[ex,exn,Yv];simp[-appendTo,hw,bc7,bu7,bc9,bu9,eC,eS,afu,ha9,q1,q2,rF];have hA:awe X i os (.sl (ag eO os) os.length 10 .any) s0 L bj (c.1+p,u) (ord ++ [(j:Int)]) JS c15 cB mK h9 nx9:=⟨bj9,by have:=FF.n;omega,hb3,avo,by rw[Ko];simp;omega,G15.rd,aKs,BO,G9⟩;have UC:=ih (c:=(c.1+p,u)) (by show 2^os.length-(c.1+p)≤M;omega) hA;simp[eC]at UC;refine UC.mono ?_;rintro o h10 aTi ⟨ayd,cB2,ob2,BO2,G10,⟨t2,et2,ht2⟩,F10,UD⟩;have aye:=F69.trans F10;have ht3:∀x∈t++t2,c.1<x.1:=by
        intro x hx;rcases List.mem_append.1 hx with hx|hx
        ·exact ht x hx
        ·have h1:c.1+p≤x.1:=ht2 x hx;omega
       have et3:ayd=bad++(t++t2):=by rw[et2,et,List.append_assoc]
       rcases UD with⟨q,cR,hq,hql,hqr,hqn,rfl⟩|⟨hng,rfl⟩
       ·simp;simp[td];simp[th];simp[Bz];have el:ord ++ [(j:Int)]++Au q=ord++Au (j ::q):=by simp[Au]
        rw[el]at hql hqr;refine⟨ayd,cB2,ob2,BO2,G10,⟨t++t2,et3,fun x hx=>Nat.le_of_lt (ht3 x hx)⟩,aye,.inl ⟨j ::q,cR,Path.step aya esp sx hq,hql,hqr,fun b o n z' e=>.inl ?_,rfl⟩⟩;have nFF:=FF.n;rcases hqn b o n z' e with e'|e'
        ·omega
        ·rw[e']at e;have aqb:=G15.own e;rcases FF.o with e''|⟨y,e'',hy⟩
         ·rw[aqb]at e'';cases e''
         ·rw[aqb]at e'';cases e'';omega
       ·simp;simp[td];simp[th];have aKt:∀x∈(aP X i os).dS c (j+1),¬Good (aP X i os) x.2:=by
         rw[ei];intro x hx;rcases List.mem_append.1 hx with hx|hx
         ·exact sx x hx
         ·simp at hx;subst hx;exact hng
        refine next _ _ _ ayd cB2 ob2 ?_ ?_ ?_ ?_ ?_ G10 BO2 ⟨t++t2,et3,ht3⟩ aKt (F.trans ((nR.iT (e4.trans e56) mK).trans (Fm.trans F10)))<;>simp[g0,g2,g5,g11]
    ·have xM:j=os.length:=by omega
     subst xM;have hng:¬Good (aP X i os) c:=aqc aya sx;have aKu:c∉JS:=by
      rw[et];intro hx;rcases List.mem_append.1 hx with hx|hx
      ·exact hcb hx
      ·have:=ht c hx;omega
     have BO2:=BO.add qK aKu hng;have amJ:=BO.len;have s3:=kTSu bY;have e4:=E0 h3 bY (.cells (eC c) .fix);obtain⟨cC,h5,r9,o5,ha5,G5,F5⟩:=(G.ext e4).As eJ (by decide) (by decide) (by omega) c;have aye:=F2.trans (F.trans ((nR.iT e4 mK).trans F5));have fin:∀(aJ:T AV),ae (K 3) aJ=some cB→ae (K 5) aJ=some (.ptr nx 0)→gn C (.seq (.ops mF) .ret) (QY [.tmp (K 8),.tmp (K 9),.tmp (K 10)] (ato X i os L c ord bad c2 ob h nx)) aJ h3 bY:=by
      intro aJ q3 q5;simp;simp[-appendTo,mF,q3,q5,bc3,CM,pr,y8,aim,UE,ha5];exact⟨JS ++ [c],cC,o5,BO2,G5,⟨t ++ [c],by rw[et,List.append_assoc],fun x hx=>by
       rcases List.mem_append.1 hx with hx|hx
       ·exact Nat.le_of_lt (ht x hx)
       ·simp at hx;subst hx;exact fg _⟩,aye,.inr ⟨hng,rfl⟩⟩
     simp only[bM,cz]at fin;rcases id hc with⟨Tt,Cu⟩|Tt
     ·have:(os.length:Int)=0:=by rw[Cu];rfl
      simp[oD,g0,g11,RZ,wB,Tt,this];refine fin _ ?_ ?_<;>simp[g3,g5]
     ·simp[oD,g0,g11,RZ,wB,Tt];refine fin _ ?_ ?_<;>simp[g3,g5]
end Ln
namespace Ln
open Go.Sx Go
theorem _root_.Go.Sx.awc{n:Nat}{b:Key}{len sz:Nat}{l:List AV}{H:T ah}(hg:ae b H=some (.cells l .ro))(hl:l.length=len*sz)(hs:∀x∈l,OC x):aM (n+1) (.slice b 0 len sz) H=(.sl l len sz .any,H):=by simp only[aM,KB,hg,List.drop_zero];rw[if_pos (by omega),RL (by omega),bT hs]
theorem _root_.Go.Sx.Rd.xN{z:Nat}{c:AV}{α:Type}{enc:α→List AV}(F:Flat z enc){us:List α}{h:T ah}{nx n0:Key}(g:Rd z c (ag enc us) us.length h nx)(hn:∀b o n z',c=.slice b o n z'→n0.toNat≤b.toNat)(n:Nat) :
  gI z enc (aM (n+1) c h).1 us∧∀b:Key,b.toNat<n0.toNat→ae b (aM (n+1) c h).2=ae b h:=by
 rcases g with⟨rfl,e1,e2⟩|⟨f,rfl⟩|⟨b,k,rfl,hb,_,hl⟩
 ·exact⟨.inl ⟨rfl,zqr e2⟩,fun _ _=>rfl⟩
 ·exact⟨.inr rfl,fun _ _=>rfl⟩
 ·have h0:=hn b _ _ _ rfl;cases k with
  |part=>rw[CC hb hl (F.yo us)];exact⟨.inr rfl,fun x hx=>ax (by omega)⟩
  |fix=>rw[AP hb hl (F.yo us)];exact⟨.inr rfl,fun x hx=>ax (by omega)⟩
  |ro=>rw[awc hb hl (F.yo us)];exact⟨.inr rfl,fun x hx=>rfl⟩
abbrev ZB(X:Kn)(i:Nat)(l:List Ev):Sys St:=aP X i (cT 0 l)
def amW(X:Kn)(i:Nat)(l:List Ev)(h:T ah)(nx:Key)(o:Out)(h':T ah)(nx':Key):Prop:=Ext h nx h' nx'∧
 ((mh i l≠0∧o=.ret (.tuple [.nils,.nils,I (mh i l)]))∨
  (mh i l=0∧((S8 (ZB X i l) 1025 0 [(0,cX i)]=none∧o=.ret (.tuple [.nils,.nils,I 4]))∨
   ∃L,S8 (ZB X i l) 1025 0 [(0,cX i)]=some L∧((∃p cR,Path (ZB X i l) (0,cX i) p∧(Au p).length≤16∧gI 1 eI cR (Au p)∧o=.ret (.tuple [cR,.nils,I 0]))∨
    (¬Good (ZB X i l) (0,cX i)∧∃out cR,out.Pairwise NJ∧(∀x,x∈out↔x∈L)∧gI 5 eC cR out∧o=.ret (.tuple [.nils,cR,I 0]))))))
variable{C:bQ}{X:Kn}(S:Std C X)
include S
theorem amX{i:Nat}(hi:i<3){ev:AV}{l:List Ev}(hv:gI 8 eE ev l)(hl:Wc l){h:T ah}{nx:Key} :
  aG C kM [X.m,ft i,ev,iU] h nx (amW X i l h nx):=by
 have s1:=kTSu nx;have s2:=kTSu nx.succ;have rb:C.raw jD=false:=S.nr (by decide);have rR:C.raw lF=false:=S.nr (by decide);have rF:C.raw gF=true:=S.rw (by decide);have hz:∀H,aM 9999 ev H=(ev,H):=fun H=>hv.r7 _ _;have yN:(cT 0 l).length≤16:=by have:=yO l 0;have:=hl.len;omega
 refine S.E7.call ?_;simp[E8];simp[BS,Kn.m,iU];have e2:=(E0 h nx (.cells [.sl X.rows 7 45 .any] .fix)).trans (E0 _ nx.succ (.cells [I 200,I 50] .fix));have NK:ae nx (aw nx.succ (some (.cells [I 200,I 50] .fix)) (aw nx (some (.cells [.sl X.rows 7 45 .any] .fix)) h))=some (.cells [.sl X.rows 7 45 .any] .fix):=by rw[ax (by omega)];simp
 have bl2:ae nx.succ (aw nx.succ (some (.cells [I 200,I 50] .fix)) (aw nx (some (.cells [.sl X.rows 7 45 .any] .fix)) h))=some (.cells [I 200,I 50] .fix):=by simp
 generalize aw nx.succ (some (.cells [I 200,I 50] .fix)) (aw nx (some (.cells [.sl X.rows 7 45 .any] .fix)) h)=h2 at *;simp[BT,NK,bl2,rb,hz];refine(amY S hi hv hl).mono ?_;rintro o h3 bY ⟨e3,hR⟩;have Iy:=e2.trans e3;have n3:=e3.n;rcases hR with⟨bX,rfl⟩|⟨Mx,bj,cO,rfl,RZ,hc,bj0,bjn⟩
 ·simp;simp[vJ,bq bX];simp[BU];exact⟨Iy,.inl ⟨bX,rfl⟩⟩
 ·obtain⟨Mw,tC⟩:=QQ Mx;simp;simp[vJ];simp[KC,rR];refine(amZ S hi tC yN hc (ZC hi) RZ bjn).mono ?_;rintro o h4 jZ ⟨e4,hR⟩;have ZD:=Iy.trans e4;have n4:=e4.n;have bj4:ae bj h4=some (.cells (wB X i cO (cX i)) .fix):=by rw[e4.g bj bjn];exact RZ
  rcases hR with⟨qx,rfl⟩|⟨L,out,cR,qx,kp,h0,BL,hpw,qK,hcR,rfl⟩
  ·simp;simp[BV];simp[KD];exact⟨ZD,.inr ⟨Mx,.inl ⟨qx,rfl⟩⟩⟩
  ·simp;simp[BV];have WT:=(bH (cX i).kids).1;have wh:Whole (ZB X i l) L (0,cX i):=⟨kp,h0⟩;have hL:Cls X i (cT 0 l) L:=⟨fun c hc=>wh.closed hc,kp.len,kp.lt,BL⟩;have hA:awe X i (cT 0 l) cO (cX i) L bj (0,cX i) [] [] .nils .nils none h4 jZ:=⟨bj4,by omega,by simp,List.mem_of_getElem? h0,by simp,.inl ⟨rfl,rfl,rfl⟩,(fun _ _ _ _ e=>by cases e),FM.nil _ _,Gr.nil _ _ _⟩;have UC:=am0 S hi tC yN hc hL (2^(cT 0 l).length) (Nat.sub_le _ _) hA;simp[eC]at UC;simp[KE,bj4,wB,WT,rF];refine UC.mono ?_;rintro o h5 r9 ⟨JS,cB,mK,BO,G,_,F,UD⟩;have n5:=F.n;have e5:Ext h4 jZ h5 r9:=⟨F.n,fun b hb=>F.g b hb (by simp)⟩;have e25:=ZD.trans e5;rcases UD with⟨p,c8,hp,ud,hrd,HG,rfl⟩|⟨hng,rfl⟩
   ·simp;simp[BW];have fr:=hrd.xN FO (n0:=jZ) (fun b o n z' e=>by
     rcases HG b o n z' e with h|h
     ·exact h
     ·rw[h]at e;cases e) 9998
    simp[KF];refine⟨⟨by have:=e25.n;omega,fun b hb=>?_⟩,.inr ⟨Mx,.inr ⟨L,qx,.inl ⟨p,_,hp,ud,fr.1,rfl⟩⟩⟩⟩;have n24:=ZD.n;rw[fr.2 b (by omega)];exact e25.g b hb
   ·simp;simp[BW];have hcz:∀n H,aM n cR H=(cR,H):=fun n H=>hcR.r7 n H;simp[Iz,hcz];exact⟨e25,.inr ⟨Mx,.inr ⟨L,qx,.inr ⟨hng,out,cR,hpw,qK,hcR,rfl⟩⟩⟩⟩
end Ln
namespace Ln
open Go.Sx Go
abbrev Ci:=Int×St
def eD(c:Ci):List AV:=[I c.1,I c.2.k,I c.2.n,.str 0 0,aL c.2.kids]
theorem amp:Flat 5 eD where
 len _:=rfl
 r7 x y hy:=by
  simp[eD]at hy;rcases hy with rfl|rfl|rfl|rfl|rfl
  ·exact dA _ _
  ·exact dA _ _
  ·exact dA _ _
  ·exact qw _ _
  ·exact dM _
 cell x y hy:=by simp[eD]at hy;rcases hy with rfl|rfl|rfl|rfl|rfl<;>first|rfl|exact(bH _).1
 lits x:=by simp[eD,AV.iA,AV.lits,CQ,I]
def toC(c:Ci):Cf St:=(c.1.toNat,c.2)
def ofC(c:Cf St):Ci:=((c.1:Int),c.2)
theorem ah2(c:Cf St):toC (ofC c)=c:=by simp[toC,ofC]
theorem amq(c:Cf St):eD (ofC c)=eC c:=rfl
def X3(a b:Ci):Prop:=a.1<b.1∨a.1=b.1∧jA a.2 b.2<0
theorem avS{a b c:Ci}(h:X3 a b)(k:X3 b c):X3 a c:=by
 rcases h with h|⟨h1,h2⟩<;>rcases k with k|⟨k1,k2⟩
 ·exact .inl (by omega)
 ·exact .inl (by omega)
 ·exact .inl (by omega)
 ·exact .inr ⟨by omega,ER h2 k2⟩
def Ib(n:Nat)(l:List Ci):Prop:=∀(q:Nat) (hq:q<l.length),0≤l[q].1∧l[q].1<((2^n:Nat):Int)∧∀_:0<q,X3 l[q-1] l[q]
def LN(n:Nat)(l:List Ci)(j:Nat):Prop:=∀(q:Nat) (hq:q<l.length),q<j→0≤l[q].1∧l[q].1<((2^n:Nat):Int)∧∀_:0<q,X3 l[q-1] l[q]
theorem LN.zero(n:Nat)(l:List Ci):LN n l 0:=fun q hq h=>absurd h (by omega)
theorem LN.all{n:Nat}{l:List Ci}(h:LN n l l.length):Ib n l:=fun q hq=>h q hq hq
theorem LN.step{n:Nat}{l:List Ci}{j:Nat}(h:LN n l j)(hj:j<l.length)(h1:0≤l[j].1)(h2:l[j].1<((2^n:Nat):Int))(h3:∀_:0<j,X3 l[j-1] l[j]):LN n l (j+1):=by
 intro q hq hqj;by_cases e:q=j
 ·subst e;exact⟨h1,h2,h3⟩
 ·exact h q hq (by omega)
theorem Ib.pos{n:Nat}{l:List Ci}(h:Ib n l):∀c∈l,0≤c.1:=by intro c hc;obtain⟨i,hi,rfl⟩:=List.getElem_of_mem hc;exact(h i hi).1
theorem Ib.lt{n:Nat}{l:List Ci}(h:Ib n l):∀c∈l.map toC,c.1<2^n:=by intro c hc;obtain⟨x,hx,rfl⟩:=We.1 hc;obtain⟨i,hi,rfl⟩:=List.getElem_of_mem hx;have:=h i hi;show l[i].1.toNat<_;omega
theorem Ib.up{n:Nat}{l:List Ci}(h:Ib n l):∀(d i:Nat) (hj:i+d+1<l.length),X3 (l[i]'(by omega)) l[i+d+1]
 |0,i,hj=>by have:=(h (i+1) hj).2.2 (by omega);simpa using this
 |d+1,i,hj=>by
  have h1:=Ib.up h d i (by omega);have h2:=(h (i+(d+1)+1) hj).2.2 (by omega);have e:i+(d+1)+1-1=i+d+1:=by omega
  simp only[e]at h2;exact avS h1 h2
def aeE(S:Sys St)(c0:Cf St)(l:List (Cf St)):Prop:=c0∈l∧∀c∈l,S.acc c.1=false∧∀x∈S.steps c,x.2∈l
def cI(a b:Int):Int:=if a<b then -1 else if b<a then 1 else 0
def ach(a b:Ci):Int:=if a.1<b.1 then -1 else if b.1<a.1 then 1 else jA a.2 b.2
theorem as2{a b:Ci}:ach a b<0↔X3 a b:=by
 unfold ach X3;by_cases h:a.1<b.1
 ·simp[h]
 ·by_cases h2:b.1<a.1
  ·simp[h,h2];omega
  ·have:a.1=b.1:=by omega
   simp[h,h2,this]
theorem aiy{a b:Ci}:ach a b=0↔a=b:=by
 unfold ach;by_cases h:a.1<b.1
 ·simp[h];rintro rfl;omega
 ·by_cases h2:b.1<a.1
  ·simp[h,h2];rintro rfl;omega
  ·have e:a.1=b.1:=by omega
   simp[h,h2];constructor
   ·intro q;exact Prod.ext e (vE.1 q)
   ·rintro rfl;exact vE.2 rfl
variable{C:bQ}{X:Kn}(S:Std C X)
include S
theorem aqk(a:Int){h:T ah}{nx:Key}:aG C jk [I a] h nx (fun o h' nx'=>o=.ret (.bool false)∧h'=h∧nx'=nx):=by refine S.GO.call ?_;simp[cmp_isNaN_int];simp[Eu];simp[Ew]
theorem aln(a b:Int){h:T ah}{nx:Key}:aG C jw [I a,I b] h nx (fun o h' nx'=>o=.ret (I (cI a b))∧h'=h∧nx'=nx):=by
 have rn:C.raw jk=false:=S.nr (by decide);refine S.Bs.call ?_;simp[xb];simp[Ad];simp[Ae,rn];refine(aqk S a).mono ?_;rintro o h1 bS ⟨rfl,rfl,rfl⟩;simp;simp[Af,rn];refine(aqk S b).mono ?_;rintro o h1 bS ⟨rfl,rfl,rfl⟩;simp;simp[Ag];simp[Ah];by_cases h1:a<b
 ·simp[qS,h1];simp[yb,cI,h1]
 ·simp[qS,h1];by_cases h2:b<a
  ·simp[pP,h2];simp[yc,cI,h1,h2]
  ·simp[pP,h2];simp[yd,cI,h1,h2]
omit S in
theorem atw{a b:Int}{j:Nat}(hj:j<2):List.take 1 (List.drop j [I a,I b])=[I (if j=0 then a else b)]:=by
 match j,hj with
 |0,_=>rfl
 |1,_=>rfl
def OrI(a b:Int)(h:T ah)(nx:Key)(m:Nat)(ay:T AV)(h':T ah)(nx':Key):Prop:=∃j:Nat,m=2-j∧j≤2∧ae (K 3) ay=some (I 0)∧ae (K 6) ay=some (.sl [I a,I b] 2 1 .any)∧ae (K 7) ay=some (I 2)∧ae (K 8) ay=some (I j)∧h'=h∧nx'=nx∧(0<j→a=0)∧(1<j→b=0)
theorem aCW(a b:Int){h:T ah}{nx:Key}:aG C sR [.sl [I a,I b] 2 1 .any] h nx (fun o h' nx'=>o=.ret (I (if a=0 then b else a))∧h'=h∧nx'=nx):=by
 refine S.N5.call ?_;simp[Md];simp[Lj];simp[Lk];simp[Ll];refine W.dy (n:=2) (OrI a b h nx) ⟨0,by simp,by omega,by simp,by simp,by simp,by simp,rfl,rfl,by omega,by omega⟩ ?_;rintro m ef h1 bS ⟨j,rfl,hj,g3,g6,g7,g8,rfl,rfl,ha,hb⟩;refine W.of ?_;simp[Lm];by_cases hj2:j<2
 ·have v7:(j:Int)<2:=by omega
  have tx:1≤2-j:=by omega
  have tg:=atw (a:=a) (b:=b) hj2;simp[Cr,g7,g8,v7];simp[Lo,g6,g8,hj2,tx,tg];by_cases hz:(if j=0 then a else b)=0
  ·simp[Cs,g3,hz];simp[Lp,g8];rw[aB (by omega) (by omega)];refine⟨2-(j+1),by omega,j+1,rfl,by omega,by simp[g3],by simp[g6],by simp[g7],by simp,rfl,rfl,?_,?_⟩
   ·intro _;by_cases h0:j=0
    ·rw[if_pos h0]at hz;exact hz
    ·exact ha (by omega)
   ·intro _;rw[if_neg (by omega)]at hz;exact hz
  ·simp[Cs,g3,bq hz];simp[Lq];by_cases h0:j=0
   ·rw[if_pos h0]at hz;simp[h0,hz]
   ·have:=ha (by omega);simp[h0,this]
 ·have xM:j=2:=by omega
  subst xM;have h1:=ha (by omega);have h2:=hb (by omega);simp[Cr,g7,g8];simp[Lr,g3,h1,h2]
theorem UZ{a b:Ci}(ha:a.2.kids.length≤3)(hb:b.2.kids.length≤3):YO C fX [.agg (eD a),.agg (eD b)] (·=.ret (I (ach a b))):=by
 intro h nx;have s1:=kTSu nx;have s2:=kTSu nx.succ;have s3:=kTSu nx.succ.succ;have rC:C.raw jw=false:=S.nr (by decide);have rV:C.raw jY=false:=S.nr (by decide);have rO:C.raw sR=false:=S.nr (by decide);have ac1:=bH a.2.kids;have ac2:=bH b.2.kids;have af1:∀n H,aM n (aL a.2.kids) H=(aL a.2.kids,H):=dM _;have af2:∀n H,aM n (aL b.2.kids) H=(aL b.2.kids,H):=dM _;obtain⟨a1,a2⟩:=a;obtain⟨b1,b2⟩:=b;refine S.DP.call ?_;simp[zM];simp[BA,eD,ac1.1,ac2.1];have e1:=(E0 h nx (.cells (eD (a1,a2)) .fix)).trans (E0 _ nx.succ (.cells (eD (b1,b2)) .fix));have q1:ae nx (aw nx.succ (some (.cells (eD (b1,b2)) .fix)) (aw nx (some (.cells (eD (a1,a2)) .fix)) h))=some (.cells (eD (a1,a2)) .fix):=by rw[ax (by omega)];simp
 have q2:ae nx.succ (aw nx.succ (some (.cells (eD (b1,b2)) .fix)) (aw nx (some (.cells (eD (a1,a2)) .fix)) h))=some (.cells (eD (b1,b2)) .fix):=by simp
 simp only[eD]at e1 q1 q2;generalize aw nx.succ (some (.cells [I b1,I b2.k,I b2.n,.str 0 0,aL b2.kids] .fix)) (aw nx (some (.cells [I a1,I a2.k,I a2.n,.str 0 0,aL a2.kids] .fix)) h)=h1 at *;simp[BB,q1,q2,rC,af1,af2];refine(aln S a1 b1).mono ?_;rintro o h2 aN ⟨rfl,rfl,rfl⟩;have bs1:=anl a2;have bs2:=anl b2;simp[eS]at bs1 bs2;simp[q1,q2,bs1,bs2,rV,af1,af2];refine aG.known (S.s_values_Compare a2 b2 ha hb _ _) ?_;have hz:aM 9999 (.slice nx.succ.succ 0 2 1) (aw nx.succ.succ (some (.cells [I (cI a1 b1),I (jA a2 b2)] .fix)) h2)=(.sl [I (cI a1 b1),I (jA a2 b2)] 2 1 .any,aw nx.succ.succ (some (.cells [I (cI a1 b1),I (jA a2 b2)] .ro)) (aw nx.succ.succ (some (.cells [I (cI a1 b1),I (jA a2 b2)] .fix)) h2)):=by refine AP (n:=9998) (by simp) rfl ?_;intro y hy;simp at hy;rcases hy with rfl|rfl<;>exact dA _ _
 simp[rO,hz];refine(aCW S (cI a1 b1) (jA a2 b2)).mono ?_;rintro o h2 aN ⟨rfl,rfl,rfl⟩;simp;refine⟨?_,?_⟩
 ·unfold cI ach;by_cases h1:a1<b1
  ·simp[h1]
  ·by_cases h2:b1<a1
   ·simp[h1,h2]
   ·simp[h1,h2]
 ·exact⟨by have:=e1.n;omega,fun b hb=>by rw[ax (by omega)];exact e1.g b hb⟩
end Ln
namespace Ln
open Go.Sx Go
def zb(n:Int):Prop:=-9223372036854775808≤n∧n<9223372036854775808
def aro(n:Int)(m:Nat):Nat:=(if n<0 then -(n+1)else n).toNat%m
theorem Py{m:Nat}(h:0<m)(n:Int):aro n m<m:=Nat.mod_lt _ h
def nmI(n:Int):Nat:=aro n 3
variable{C:bQ}{X:Kn}(S:Std C X)
include S
theorem uL{n:Int}(hn:zb n){m:Nat}(hm:0<m)(Sa:m≤1000000){h:T ah}{nx:Key}:aG C da [I n,I m] h nx (fun o h' nx'=>o=.ret (I (aro n m))∧h'=h∧nx'=nx):=by
 obtain⟨h1,h2⟩:=hn;have Qj:((m:Int)==0)=false:=bq (by omega);refine S.IQ.call ?_;simp[Fg];simp[Gv];have fin:∀(aJ:T AV) (k:Nat),(k:Int)<9223372036854775808→aro n m=k%m→ae (K 0) aJ=some (I k)→ae (K 1) aJ=some (I m)→gn C (.seq (.ops wZ) .ret) (bZ [.tmp (K 4)] fun o h' nx'=>o=.ret (I (aro n m))∧h'=h∧nx'=nx) aJ h nx:=by intro aJ k hk e q0 q1;have cD:k%m<m:=Nat.mod_lt _ hm;have ht:Int.tmod (k:Int) (m:Int)=((k%m:Nat):Int):=rfl;have hw:aW .i64 ((k%m:Nat):Int)=((k%m:Nat):Int):=aB (by omega) (by omega);rw[e];simp;simp[-Int.natCast_emod,wZ,q0,q1,Qj,ht,hw];exact Int.natCast_emod k m
 simp only[bM,cz]at fin;by_cases cD:n<0
 ·obtain⟨k,hk⟩:=Int.eq_ofNat_of_zero_le (a:=-(n+1)) (by omega);have e:aro n m=k%m:=by unfold aro;rw[if_pos cD,hk];rfl
  have w1:aW .i64 (n+1)=n+1:=aB (by omega) (by omega);have w2:aW .i64 (-(n+1))=k:=by rw[aB (by omega) (by omega),hk]
  simp[w6,cD];simp[Gw,w1,w2];refine fin _ k (by omega) e ?_ ?_<;>simp
 ·obtain⟨k,hk⟩:=Int.eq_ofNat_of_zero_le (a:=n) (by omega);have e:aro n m=k%m:=by unfold aro;rw[if_neg cD,hk];rfl
  simp[w6,cD];refine fin _ k (by omega) e ?_ ?_
  ·simp[hk]
  ·simp
theorem akA{h:T ah}{nx:Key}:aG C ny [] h nx (fun o h' nx'=>o=.ret (.sl [ft 0,ft 1,ft 2] 3 1 .any)∧Ext h nx h' nx'):=by have s1:=kTSu nx;refine S.IS.call ?_;simp[Fh];simp[Gx];have fz:=fun(H:T ah) (hg:ae nx H=some (ah.cells [ft 0,ft 1,ft 2] CK.fix))=>AP (n:=9998) (len:=3) (sz:=1) hg rfl (by intro x hx;simp at hx;rcases hx with rfl|rfl|rfl<;>exact qw _ _);simp[lD]at fz;simp[Gy,fz,lD];exact E0 _ _ _
theorem ZQ{n:Int}(hn:zb n){h:T ah}{nx:Key}:aG C kX [I n] h nx (fun o h' nx'=>o=.ret (ft (nmI n))∧Ext h nx h' nx'):=by
 have rM:C.raw ny=false:=S.nr (by decide);have rA:C.raw da=false:=S.nr (by decide);refine S.NR.call ?_;simp[Ma];simp[KX];simp[KY,rM];refine(akA S).mono ?_;rintro o h1 bS ⟨rfl,e1⟩;simp[rA];refine(uL S hn (m:=3) (by omega) (by omega)).mono ?_;rintro o h2 aN ⟨rfl,rfl,rfl⟩;have cD:=Py (m:=3) (by omega) n;have hi:nmI n=aro n 3:=rfl;rw[hi];generalize aro n 3=k at *;have hk:k=0∨k=1∨k=2:=by omega
 rcases hk with rfl|rfl|rfl<;>simp<;>exact e1
theorem Yr{h:T ah}{nx:Key}:aG C ke [] h nx (fun o h' nx'=>o=.ret iU∧Ext h nx h' nx'):=by refine S.IT.call ?_;simp[Fi];simp[Gz];simp[GA,iU];exact E0 _ _ _
theorem yH(n:Int){h:T ah}{nx:Key}:aG C iD [I n] h nx (fun o h' nx'=>o=.ret (.agg (eU ⟨0,n⟩))∧Ext h nx h' nx'):=by refine S.IU.call ?_;simp[Fj];simp[GC];simp[GD,eU];exact E0 _ _ _
end Ln
namespace Ln
open Go.Sx Go
theorem aBk(z:Ev):List.take 8 (eE z)=eE z:=rfl
theorem aIG(z:Ev):(eE z).length=8:=rfl
theorem aBj(z:Ev):(eE z).all AV.aT=true:=wG.2 (cn.cell z)
theorem awP(z:Ev)(H:T ah):bG (aM 9999) (eE z) H=(eE z,H):=bT (cn.r7 _)
variable{C:bQ}{X:Kn}(S:Std C X)
def EvI(l:List Ev)(c0:AV)(h:T ah)(nx:Key)(m:Nat)(ay:T AV)(h':T ah)(nx':Key):Prop:=∃(j:Nat) (c3:AV),m=l.length-j∧j≤l.length∧ae (K 0) ay=some c0∧ae (K 3) ay=some c3∧ae (K 4) ay=some (I j)∧App c3 (ag eE (l.take j)) (l.take j).length 8 h' nx' nx∧Ext h nx h' nx'
include S
theorem ald{l:List Ev}(hl:l.length≤1000){c0:AV}(hc:gI 8 eE c0 l){h:T ah}{nx:Key}:aG C nB [c0] h nx (fun o h' nx'=>∃cR,o=.ret cR∧gI 8 eE cR l∧Ext h nx h' nx'):=by
 refine S.I6.call ?_;simp[Fq];simp[Hk];simp[Hl];simp[Hm];refine W.dy (n:=l.length) (EvI l c0 h nx) ⟨0,.nils,by simp,by omega,by simp,by simp,by simp,App.nil _,Ext.refl _ _⟩ ?_;rintro m ef h1 bS ⟨j,c3,rfl,hj,g0,g3,g4,hA,e1⟩;refine W.of ?_;simp[Hn];have hR:Rd 8 c0 (ag eE l) l.length h1 bS:=hc.rd _ _;by_cases bW:j<l.length
 ·have v7:(j:Int)<l.length:=by omega
  have E9:c0=.sl (ag eE l) l.length 8 .any:=by
   rcases hc with⟨_,rfl⟩|e
   ·simp at bW
   ·exact e
  subst E9;have ec:=cn.at bW;have hr:=cn.rows l;have tx:8≤l.length*8-j*8:=by omega
  have n1:=e1.n;have s1:=kTSu bS;have WT:=bH l[j].args;have e2:=E0 h1 bS (.cells (eE l[j]) .fix);have cD:(l.take j).length=j:=by rw[Y7,Nat.min_eq_left (by omega)]
  obtain⟨c6,h6,Cv,ha,hA6,n6,k6,_⟩:=(hA.ext e2).As cn (by omega) (by omega) l[j];have ee:eE l[j]=[I l[j].kind,I l[j].client,.str l[j].name.1 l[j].name.2,aL l[j].args,I l[j].res.k,I l[j].res.n,.str 0 0,.nils]:=rfl;have af:∀n H,aM n (aL l[j].args) H=(aL l[j].args,H):=dM _;rw[←zqu bW]at hA6;rw[ee]at ec ha e2 k6;simp[xA,g0,g4,v7];simp[-appendTo,Ho,g0,g3,g4,bW,hr,tx,ec,WT.1,WT.2,af,ha];simp[Hp,g4];rw[aB (by omega) (by omega)];exact⟨l.length-(j+1),by omega,j+1,c6,rfl,by omega,by simp[g0],by simp,by simp,hA6,by omega,fun b hb=>by rw[k6 b hb,e2.g b (by omega)];exact e1.g b hb⟩
 ·have xM:j=l.length:=by omega
  subst xM;rw[List.take_length]at hA;have fr:=hA.xN cn 9998;simp[↓hR.ln,xA,g0,g4];simp[Hq,g3];exact⟨fr.1,e1.n,fun b hb=>by rw[fr.2 b hb];exact e1.g b hb⟩
end Ln
