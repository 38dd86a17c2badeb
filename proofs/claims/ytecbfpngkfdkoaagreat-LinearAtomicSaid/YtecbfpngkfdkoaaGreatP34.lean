/- A part of the proof. No condition. -/
import Derived.Test.YtecbfpngkfdkoaaGreatP10
import Derived.Test.YtecbfpngkfdkoaaGreatP21
import Derived.Test.YtecbfpngkfdkoaaGreatP33
import Derived.Test.YtecbfpngkfdkoaaGreatP19
import Derived.Test.YtecbfpngkfdkoaaGreatP6
import Derived.Shelf.SlSortCmp.NoneTotal
import Derived.Test.YtecbfpngkfdkoaaGreatProg
import Derived.Shelf.SlLaysF0
import Derived.Test.YtecbfpngkfdkoaaGreatP20
import Derived.Test.YtecbfpngkfdkoaaGreatP11
set_option linter.unusedSimpArgs false
set_option linter.unusedVariables false
set_option linter.unusedSectionVars false
namespace Ln
open Go.Sx Go Go.Proofs
def aeO:Im:=⟨12,Unit,fun _=>[],fun _=>vM,fun _ _ _=>rfl⟩
theorem aj2:js Tryz.prog .nil aeO:=⟨⟨_,iJ (n:=12) (by decide)⟩,fun _=>Wa⟩
def YH:Im:=⟨23,Unit,fun _=>[],fun _=>.bool true,fun _ _ _=>rfl⟩
theorem aeP:js Tryz.prog .nil YH:=⟨⟨_,iJ (n:=23) (by decide)⟩,fun _=>amY⟩
def gw:List Im:=[XK,NW,RL,XL,NX,RM,TL,TN,HS,La,Iw,OB,YI,YJ,YK,TO,aeO,YH,anr,ant,ahJ,anw]
theorem asf:∀F∈gw,js Tryz.prog .nil F:=by
 intro F h;unfold gw at h;simp only[GP,List.not_mem_nil,or_false]at h;rcases h with rfl|rfl|rfl|rfl|rfl|rfl|rfl|rfl|rfl|rfl|rfl|rfl|rfl|rfl|rfl|rfl|rfl|rfl|rfl|rfl|rfl|rfl
 ·exact DJ
 ·exact mI
 ·exact AW
 ·exact adZ
 ·exact XM
 ·exact aai
 ·exact Hy
 ·exact abP
 ·exact TP
 ·exact VA
 ·exact YL
 ·exact YM
 ·exact zR
 ·exact aeQ
 ·exact aeR
 ·exact vZ
 ·exact aj2
 ·exact aeP
 ·exact ans
 ·exact anu
 ·exact anv
 ·exact anx
theorem ed:gw.Pairwise fun a b=>a.f≠b.f:=by have h:(gw.map (·.f)).Pairwise (·≠·):=of_decide_eq_true (by kernel_rfl);exact List.pairwise_map.1 h
def abQ(f:Nat):Bool:=Nat.beq f 86||Nat.beq f 60
noncomputable def CL:bP:=an8 arR WY abQ gw
theorem aCb{f:Nat}(h:(gw.map (·.f)).contains f=false):∀l h nx,CL.sum f l h nx=none:=by refine PF fun F hF e=>?_;have:(gw.map (·.f)).contains f=true:=List.contains_iff_mem.2 (NI.2 ⟨F,hF,e⟩);rw[h]at this;cases this
theorem pM{f:Nat}{p:fq}(hp:I3 Tryz.prog f=some p)(hg:HA CL f=some (fx f):=by kernel_rfl)(ho:(gw.map (·.f)).contains f=false:=by kernel_rfl)(hr:abQ f=false:=by kernel_rfl):Fn CL f p:=⟨by rw[hg,auD hp],aCb ho,hr⟩
theorem aCc{f:Nat}{p:fq}(hp:I3 Tryz.prog f=some p)(hg:HA CL f=some (fx f):=by kernel_rfl)(ho:(gw.map (·.f)).contains f=false:=by kernel_rfl)(hr:abQ f=true:=by kernel_rfl):FnR CL f p:=⟨by rw[hg,auD hp],aCb ho,hr⟩
theorem aj3:XK∈gw:=by simp[gw]
theorem abR:NW∈gw:=by simp[gw]
theorem aeS:RL∈gw:=by simp[gw]
theorem aj4:XL∈gw:=by simp[gw]
theorem abS:NX∈gw:=by simp[gw]
theorem aeT:RM∈gw:=by simp[gw]
theorem aeU:TL∈gw:=by simp[gw]
theorem aeV:TN∈gw:=by simp[gw]
theorem B8:HS∈gw:=by simp[gw]
theorem Em:La∈gw:=by simp[gw]
theorem PG:Iw∈gw:=by simp[gw]
theorem abT:OB∈gw:=by simp[gw]
theorem aj5:YI∈gw:=by simp[gw]
theorem aj6:YJ∈gw:=by simp[gw]
theorem aj7:YK∈gw:=by simp[gw]
theorem aeW:TO∈gw:=by simp[gw]
theorem an9:aeO∈gw:=by simp[gw]
theorem aj8:YH∈gw:=by simp[gw]
theorem C4:Std CL K0 where
 orc:=rfl
 raw _:=rfl
 ok:=atp
 zS:=pM IV
 mo:=aCc yD
 Hz:=pM Qv
 Bs:=pM KZ
 M9:=pM Vs
 Fj:=pM Ot
 C0:=pM MY
 C1:=pM MZ
 I4:=pM TB
 Cz:=pM M4
 HP:=aCc Qw
 HD:=pM Qx
 MJ:=pM Vt
 HQ:=pM Qy
 Jo:=pM TC
 CJ:=pM M5
 C2:=pM M6
 HR:=pM Qz
 Bt:=pM K4
 C3:=pM Bq
 ql:=pM BZ
 qq:=pM B0
 tr:=pM Eg
 tv:=pM Eh
 jd:=pM AI
 sj:=pM CZ
 we:=pM FW
 HB:=pM QB
 HC:=pM QD
 hZ:=pM ox
 fe:=pM jN
 s_InitP i hi h nx:=bK aeU ed ⟨i,hi⟩ h nx
 s_CanP c s bs hs ha h nx:=bK aj3 ed ⟨c,s,bs,hs,ha⟩ h nx
 s_HoldsP c s bs r hs ha h nx:=bK abR ed ⟨⟨c,s,bs,hs,ha⟩,r⟩ h nx
 s_NextP c s bs r hs ha h nx:=bK aeS ed ⟨⟨c,s,bs,hs,ha⟩,r⟩ h nx
 s_InitR i hi h nx:=bK aeV ed ⟨i,hi⟩ h nx
 s_CanR c s bs hs ha h nx:=bK aj4 ed ⟨c,s,bs,hs,ha⟩ h nx
 s_HoldsR c s bs r hs ha h nx:=bK abS ed ⟨⟨c,s,bs,hs,ha⟩,r⟩ h nx
 s_NextR c s bs r hs ha h nx:=bK aeT ed ⟨⟨c,s,bs,hs,ha⟩,r⟩ h nx
 s_parser_Decl i hi h nx:=by
  match i,hi with
  |0,_=>exact bK B8 ed (⟨0,by decide⟩:QJ) h nx
  |1,_=>exact bK B8 ed (⟨1,by decide⟩:QJ) h nx
  |2,_=>exact bK B8 ed (⟨2,by decide⟩:QJ) h nx
 s_ref09_Decl i hi h nx:=by
  match i,hi with
  |0,_=>exact bK Em ed (⟨0,by decide⟩:QJ) h nx
  |1,_=>exact bK Em ed (⟨1,by decide⟩:QJ) h nx
  |2,_=>exact bK Em ed (⟨2,by decide⟩:QJ) h nx
 s_values_Valid u h nx:=by have e:=bK PG ed (⟨⟨u.k,u.n,[]⟩,Nat.zero_le _⟩:QK) h nx;simp only[Iw,aCd]at e;exact e
 s_values_Compare s t hs ht h nx:=bK aj5 ed ⟨s,t,hs,ht⟩ h nx
 s_ref10_Valid u h nx:=bK abT ed u h nx
 s_ref10_Compare s t hs ht h nx:=bK aj6 ed ⟨s,t,hs,ht⟩ h nx
 s_Equal s t hs ht h nx:=bK aj7 ed ⟨s,t,hs,ht⟩ h nx
 s_Clone s hs h nx:=bK aeW ed ⟨s,hs⟩ h nx
 s_Module h nx:=bK an9 ed () h nx
 s_lives h nx:=bK aj8 ed () h nx
theorem aCe{ρ:Nat→Int}(w0:W0)(hL:ji Tryz.prog .nil w0):Ctx Tryz.prog ρ w0 CL:=axH WV anF mix asf WY abQ w0 hL
end Ln
namespace Go.Sx
open Go Go.RowKit Go.Sort
section
variable{α:Type}[Inhabited α]{k:Nat}{eA:α→List AV}{eV:α→List Value}
omit [Inhabited α] in
theorem WT(F:Flat k eA){l:List α}{i r:Nat}(hi:i<l.length)(hr:r<k):(aq eA l)[i*k+r]?=(eA l[i])[r]?:=by rw[←F.at hi,List.getElem?_take_of_lt hr,List.getElem?_drop]
theorem axe{w:World}{c off m:Nat}{d:Array α}{os:Array Obj}{arr:Array Value}{elem:TypeId}{fz:Nat×Nat}(h:w.heap[c]?=some (.cells arr elem fz)) :
  (Go.Proofs.sortWorldK eV k w c off m d os).heap[c]?=some (.cells (putCells id off (flatK eV k d) arr) elem fz):=by
 have hc:c<w.heap.size:=(Array.getElem?_eq_some_iff.1 h).1;simp only[Go.Proofs.sortWorldK,grow,putRowK,putRow,mapBlock,Go.Sort.ahead,Array.getElem?_append,Array.size_modify,hc,if_true,Array.getElem?_modify,h,Option.map_some,onCells]
theorem MK{w:World}{c off m:Nat}{d:Array α}{os:Array Obj}{c':Nat}(bW:c'≠c)(h:c'<w.heap.size) :
  (Go.Proofs.sortWorldK eV k w c off m d os).heap[c']?=w.heap[c']?:=by
 simp only[Go.Proofs.sortWorldK,grow,putRowK,putRow,mapBlock,Go.Sort.ahead,Array.getElem?_append,Array.size_modify,h,if_true,Array.getElem?_modify,Ne.symm bW,if_false]
theorem ahH{w:World}{c off m:Nat}{d:Array α}{os:Array Obj}:w.heap.size≤(Go.Proofs.sortWorldK eV k w c off m d os).heap.size:=by simp[Go.Proofs.sortWorldK,grow,putRowK,putRow,mapBlock,Go.Sort.ahead]
theorem abd{w:World}{B c off m:Nat}{d:Array α}{os:Array Obj}(hB:B≤c)(hw:B≤w.heap.size):Below B w (Go.Proofs.sortWorldK eV k w c off m d os):=
 ⟨rfl,rfl,rfl,ahH,fun i hi=>MK (by omega) (by omega)⟩
theorem Tv{W w':World}(hb:Below W.heap.size W w')(hd:W.drawn≤w'.drawn):∃q os',w'=grow (W.drewN q) os':=by
 refine⟨w'.drawn-W.drawn,w'.heap.extract W.heap.size w'.heap.size,?_⟩;obtain⟨h1,h2,h3,h4,h5⟩:=hb;have he:w'.heap=W.heap++w'.heap.extract W.heap.size w'.heap.size:=by
  apply Array.ext_getElem?;intro i;rw[Array.getElem?_append];split
  ·rename_i hi;exact h5 i hi
  ·rename_i hi;rw[Array.getElem?_extract];by_cases hi2:i<w'.heap.size
   ·rw[if_pos (by omega)];congr 1;omega
   ·rw[if_neg (by omega),ZS (by omega)]
 cases w' with
 |mk heap tape drawn os output=>simp only[grow,World.drewN]at *;subst h1 h2 h3;congr 1;omega
end
section
variable{P:Program}{ρ:Nat→Int}{heap0:T ah}{C:bP}{α:Type}[Inhabited α]{k:Nat}{eA:α→List AV}{eV:α→List Value}
theorem arA{R:Go.Shelf.Ren}(hX:∀w0:W0,ji P heap0 w0→Ctx P ρ w0 C){cf:α→α→Int}{g:Nat}{nx0:Key}(hn:P.globals.size≤nx0.toNat)
  (hc:∀x y,aJ C g [.agg (eA x),.agg (eA y)] heap0 nx0 fun o _ _=>o=.ret (.int .i64 (.lit (cf x y))))
  {w0:W0} (hL:ji P heap0 w0) {w:World} {μ:Mu} {G:Key→Option ah} {nx:Nat} (hM:bB P ρ w0 μ G nx w) {c off n:Nat} (tZ:∀x,aB ρ μ (eA x) (eV x)) (hkf:∀x,AV.Ey (eA x)=true) (tY:w0.heap.size≤c) (Yl:∀i,μ.fz c i=none) (Oc:c<w.heap.size) :
  Go.Proofs.CmpLays P g #[] eV k cf c off n w:=by
 intro m os dk _ x y;have hb:Below w0.heap.size w0.toWorld (Go.Proofs.sortWorldK eV k w c off m dk os):=hM.below.trans (abd tY hM.below.size);have hL1:ji P heap0 ⟨Go.Proofs.sortWorldK eV k w c off m dk os,μ.fz⟩:=hL.ang hb hM.zle;have hz:∀c' i v,μ.fz c' i=some v→∃arr elem f,(Go.Proofs.sortWorldK eV k w c off m dk os).heap[c']?=some (.cells arr elem f)∧arr[i]?=some v:=by
  intro c' i v h1;obtain⟨arr,elem,f,h2,h3⟩:=hM.Xw _ _ _ h1;refine⟨arr,elem,f,?_,h3⟩;have bW:c'≠c:=by rintro rfl;rw[Yl]at h1;cases h1
  rw[MK bW (Array.getElem?_eq_some_iff.1 h2).1];exact h2
 have hM1:=It (ρ:=ρ) (w0:=⟨Go.Proofs.sortWorldK eV k w c off m dk os,μ.fz⟩) hL1 hz (nx:=nx0.toNat) hn;have hr:∀x,aB ρ (gMu P heap0 μ.fz) (eA x) (eV x):=fun x=>aB.kf (μ:=μ) (μ':=gMu P heap0 μ.fz) (fun _ _ _ h=>h) (tZ x) (hkf x);have ha:aB ρ (gMu P heap0 μ.fz) [.agg (eA x),.agg (eA y)] (#[Value.agg (eV x).toArray,.agg (eV y).toArray] ++ #[]).toList:=
  .cons _ _ _ _ (.agg _ _ (by simpa using hr x)) (.cons _ _ _ _ (.agg _ _ (by simpa using hr y)) .nil)
 refine(HE (hX _ hL1) hM1 (fun _ _ h=>h) ha (fun o _ _ h=>⟨_,h⟩) (hc x y)).mono ?_;rintro e w' ⟨v,h',nx',u,μ2,G2,hr,rfl,hv,_,hM2,_⟩;cases hr;refine⟨?_,Tv hM2.below hM2.dr⟩;cases hv with
 |int _ _ n h=>rw[←h];rfl
def DI(arr:Array Value)(o k j:Nat):List Value:=(arr.toList.drop (o+j*k)).take k
theorem abe{arr:Array Value}{o k j r:Nat}(hr:r<k):(DI arr o k j)[r]?=arr[o+j*k+r]?:=by unfold DI;rw[List.getElem?_take_of_lt hr,List.getElem?_drop];simp
theorem holds_of{w:World}{c off n:Nat}[Inhabited (_root_.Fin n)]{arr:Array Value}{elem:TypeId}(ho:w.heap[c]?=some (.cells arr elem (0,0)))(hs:∀i,i<n*k→∃v,arr[off+i]?=some v) :
  HoldsK (fun j:_root_.Fin n=>DI arr off k j) k w c off (List.finRange n).toArray:=by
 intro j hj;rw[size_flatK]at hj;have hlen:j<n*k:=by simpa using hj
 have hk:0<k:=by
  rcases Nat.eq_zero_or_pos k with e|e
  ·subst e;simp at hlen
  ·exact e
 have hq:j / k<n:=Nat.div_lt_of_lt_mul (by rw[Nat.mul_comm];exact hlen);have hr:j%k<k:=Nat.mod_lt _ hk;obtain⟨v,hv⟩:=hs j hlen;refine⟨?_,?_⟩
 ·simp only[World.cell?,ho,hv,Option.isSome_none,Wh,if_false,id];rw[get_flatK _ _ _ _ hj];have e1:(List.finRange n).toArray[j / k]! = ⟨j / k,hq⟩:=by simp[hq]
  have e2:off+j / k*k+j%k=off+j:=by rw[Nat.add_assoc,Nat.div_add_mod' j k]
  rw[e1,List.getElem!_eq_getElem?_getD,abe hr,e2,hv];rfl
 ·simp[World.frozen?,ho]
theorem ajI{β:Type}{enc:β→List AV}(hX:∀w0:W0,ji P heap0 w0→Ctx P ρ w0 C){R:Go.Shelf.Ren}(L:Go.Proofs.SlLaysF0.n6 P R)(aE:∀w,(isAgg (R.t 24)).run P w=.ok true w)(zE:∀w,(Go.sizeOf (R.t 24)).run P w=.ok k w)(F:Flat k enc)(hkf:∀x,AV.Ey (enc x)=true){cf:β→β→Int}(hO:SWO (Go.Proofs.ltOf cf))
  (hT:∀x y,Go.Proofs.ltOf cf x y=false→Go.Proofs.ltOf cf y x=false→x=y) {g:Nat} (eg:∀args w,(callFunc g args).run P w=.ok (.enter g args) w) {nx0:Key} (hn:P.globals.size≤nx0.toNat)
  {us:List β} (Ge:us.Nodup) (hc:∀x∈us,∀y∈us,aJ C g [.agg (enc x),.agg (enc y)] heap0 nx0 fun o _ _=>o=.ret (.int .i64 (.lit (cf x y)))) (hz:us.length<4611686018427387904)
  {w0:W0} (hL:ji P heap0 w0) {H:T ah} {nx b:Key} (hb:ag b H=some (.cells (aq enc us) .fix)) :
  LV P ρ w0 (R.f 6) [.slice b 0 us.length k,.fn g [] []] H nx (.tuple []) (aw b (some (.cells (aq enc (us.mergeSort fun x y=>!(Go.Proofs.ltOf cf) y x)) .fix)) H) nx:=by
 intro args w μ G hM hH ha;obtain⟨args⟩:=args;have ha:aB ρ μ [.slice b 0 us.length k,.fn g [] []] args:=ha;cases ha with
 |cons _ _ v1 r1 h1 GL=>
 cases GL with
 |cons _ _ v2 r2 h2 N9=>
 cases N9;cases h2 with
 |fn _ _ _ vs ws hvs hws=>
 obtain⟨vs⟩:=vs;obtain⟨ws⟩:=ws;have hvs:aB ρ μ [] vs:=hvs;have hws:aB ρ μ [] ws:=hws;cases hvs;cases hws;cases h1 with
 |slice _ _ _ _ cap l a hl BT hle anh=>
 have hG:=hH _ _ hb;obtain⟨l',o,RK,ho,hB⟩:=hM.BO _ _ hG;rw[hl]at RK;cases RK;cases hB with
 |cells _ _ _ arr elem fz ng yw aAy aJb ani=>
 have aJc:=aJb (by simp);subst aJc;have ani:=ani (by simp);have tY:w0.heap.size≤l.c:=by
  rcases hM.own _ _ _ hG hl with h|h
  ·exact h.elim
  ·exact h
 have hfr:∀i,μ.fz l.c i=none:=fun i=>hM.fzf b _ l 0 hG hl rfl i (Nat.zero_le _);have axf:=hM.AX _ _ hl;have auu:=F.rows us;by_cases h0:us=[]
 ·subst h0;refine(Go.Proofs.AnyF.slices_SortFunc_none L (some a) cap (.func (.func g) #[] #[]) w).mono ?_;rintro e w' ⟨rfl,rfl⟩;refine⟨_,μ,G,rfl,.tuple _ _ .nil,μ.le_refl,hM,?_,⟨fun _ _ _=>rfl,fun _ _=>rfl,fun b' h' _=>?_,fE _⟩⟩
  ·intro b' B' h';by_cases e:b'=b
   ·subst e;rw[gTSm]at h';cases h';simpa using hG
   ·rw[aP _ _ _ _ e]at h';exact hH _ _ h'
  ·have e:b'≠b:=by rintro rfl;rw[hb]at h';cases h'
   rw[aP _ _ _ _ e];exact h'
 ·have SV:0<us.length:=List.length_pos_iff.2 h0;have anh:a=⟨l.c,l.base,none⟩:=by
   rcases anh with h|h
   ·omega
   ·exact h
  subst anh
  let eA:_root_.Fin us.length→List AV:=fun j=>enc us[j]
  let eV:_root_.Fin us.length→List Value:=fun j=>DI arr l.base k j
  let cg:_root_.Fin us.length→_root_.Fin us.length→Int:=fun i j=>cf us[i] us[j]
  haveI:Inhabited (_root_.Fin us.length):=⟨⟨0,SV⟩⟩
  have FA:Flat k eA:=⟨fun x=>F.len _,fun x=>F.wU _,fun x=>F.cell _,fun x=>F.lits _⟩;have anj:∀i,i<us.length*k→∃v,arr[l.base+i]?=some v:=fun i hi=>by obtain⟨v,hv,_⟩:=ng i _ (pY (by rw[auu];exact hi));exact⟨v,hv⟩
  have hjk:∀(j:_root_.Fin us.length) r,r<k→j.1*k+r<us.length*k:=fun j r hr=>by have:=Nat.mul_le_mul_right k (show j.1+1≤us.length from j.2);rw[Nat.add_mul,Nat.one_mul]at this;omega
  have auv:∀j,(eV j).length=k:=fun j=>by
   show(DI arr l.base k j).length=k;unfold DI;rw[UD,List.length_drop,Nat.min_eq_left];rcases Nat.eq_zero_or_pos k with e|e
   ·omega
   ·obtain⟨v,hv⟩:=anj _ (hjk j (k-1) (by omega));have:=(Array.getElem?_eq_some_iff.1 hv).1;simp;omega
  have tZ:∀x,aB ρ μ (eA x) (eV x):=fun x=>by
   refine aB.Ry (by rw[auv];exact F.len _) fun r a ha=>?_;have hr:r<k:=by have:=(List.getElem?_eq_some_iff.1 ha).1;rw[show(eA x).length=k from F.len _]at this;exact this
   have hg:=WT F (l:=us) (i:=x.1) x.2 hr;obtain⟨v,hv,hvr⟩:=ng _ a (hg.trans ha);refine⟨v,?_,hvr⟩;show(DI arr l.base k x)[r]?=some v;rw[abe hr,Nat.add_assoc];exact hv
  have aJd:∀x,∀v∈eV x,v.oneCell'=true:=fun x=>DM (tZ x) (sF.2 (F.cell _));have hOg:SWO (Go.Proofs.ltOf cg):=⟨fun x=>hO.irrefl _,fun x y z=>hO.trans _ _ _,fun x y z=>hO.ntrans _ _ _⟩;have hTg:∀x y,Go.Proofs.ltOf cg x y=false→Go.Proofs.ltOf cg y x=false→x=y:=fun x y h1 h2=>by
   have e:=hT _ _ h1 h2;rw[List.nodup_iff_pairwise_ne,List.pairwise_iff_getElem]at Ge;rcases Nat.lt_trichotomy x.1 y.1 with h|h|h
   ·exact absurd e (Ge _ _ x.2 y.2 h)
   ·exact Fin.ext h
   ·exact absurd e.symm (Ge _ _ y.2 x.2 h)
  have aJe:(List.finRange us.length).length=us.length:=List.length_finRange;have hH1:HoldsK eV k w l.c l.base (List.finRange us.length).toArray:=holds_of ho anj;have aJf:(List.finRange us.length).toArray.size=us.length:=by simp
  have key:=Go.Proofs.AnyQ.slices_SortFunc_total L k aE zE eV auv aJd cg hOg g #[] l.c l.base cap (List.finRange us.length).toArray w eg
   (arA (R:=R) (eA:=eA) hX hn (fun x y=>hc _ (LA _) _ (LA _)) hL hM tZ (fun x=>hkf _) tY hfr axf) hH1 axf (by simpa using hz) hTg
  rw[aJf]at key;refine(show Calls P (R.f 6) #[.slice (some ⟨l.c,l.base,none⟩) us.length cap,.func (.func g) #[] #[]] w _ from key).mono ?_;rintro e w' ⟨rfl,n,os,rfl⟩;have hlen:((List.finRange us.length).mergeSort fun x y=>!(Go.Proofs.ltOf cg) y x).length=us.length:=by rw[List.length_mergeSort,aJe]
  have Oo:aq enc (us.mergeSort fun x y=>!(Go.Proofs.ltOf cf) y x)=aq eA ((List.finRange us.length).mergeSort fun x y=>!(Go.Proofs.ltOf cg) y x):=by
   have e:=List.map_mergeSort (r:=fun x y:_root_.Fin us.length=>!(Go.Proofs.ltOf cg) y x) (s:=fun x y:β=>!(Go.Proofs.ltOf cf) y x) (f:=fun j=>us[j]) (l:=List.finRange us.length) (fun a _ b _=>rfl);have e2:(List.finRange us.length).map (fun j=>us[j])=us:=by apply List.ext_getElem (by simp);intro i h1 h2;simp
   rw[e2]at e;rw[←e];simp only[aq,List.flatMap_map];rfl
  rw[Oo];simp only[List.toList_toArray]at *;generalize hsd:((List.finRange us.length).mergeSort fun x y=>!(Go.Proofs.ltOf cg) y x)=sd at hlen ⊢;have hH2:HoldsK eV k (Go.Proofs.sortWorldK eV k w l.c l.base n sd.toArray os) l.c l.base sd.toArray:=Go.Proofs.holdsK_sortWorldK_c eV k w l.c l.base (List.finRange us.length).toArray sd.toArray n os hH1 axf (by simpa using hlen);have aq5:=axe (eV:=eV) (k:=k) (off:=l.base) (m:=n) (d:=sd.toArray) (os:=os) ho;have aBB:∀b' B' l',b'≠b→G b'=some B'→μ b'=some l'→(Go.Proofs.sortWorldK eV k w l.c l.base n sd.toArray os).heap[l'.c]?=w.heap[l'.c]?:=fun b' B' l' bW hg hm=>MK (hM.sep _ _ _ _ _ _ hg hG hm hl bW) (hM.AX _ _ hm);have ank:=FA.rows sd;have hsr:(aq eA sd).length=(aq enc us).length:=by rw[ank,auu,hlen]
  refine⟨_,μ,kn G b (some (.cells (aq eA sd) .fix)),rfl,.tuple _ _ .nil,μ.le_refl,?_,?_,⟨fun b' h' _=>?_,fun _ _=>rfl,fun b' h' _=>?_,fE _⟩⟩
  ·refine⟨?_,?_,?_,?_,hM.Qq,hM.new,hM.below.trans (abd tY hM.below.size),?_,?_,hM.zle,hM.fzo,?_,?_⟩
   ·intro b' B' hg;by_cases e:b'=b
    ·subst e;rw[fA]at hg;cases hg;refine⟨l,_,hl,aq5,.cells _ _ _ _ _ _ ?_ ?_ ?_ (fun _=>rfl) ?_⟩
     ·intro i x hx;have hi:i<sd.length*k:=by rw[←ank];exact(List.getElem?_eq_some_iff.1 hx).1
      have hj:=(hH2 i (by rw[size_flatK];simpa using hi)).1;simp only[World.cell?,aq5,Option.isSome_none,Wh,if_false,id]at hj;refine⟨_,hj,?_⟩;have hk:0<k:=by
       rcases Nat.eq_zero_or_pos k with e|e
       ·subst e;simp at hi
       ·exact e
      have hq:i / k<sd.length:=Nat.div_lt_of_lt_mul (by rw[Nat.mul_comm];exact hi);have hr:i%k<k:=Nat.mod_lt _ hk;rw[get_flatK _ _ _ _ (by simpa using hi)];have e1:sd.toArray[i / k]! = sd[i / k]:=by simp[hq]
      have FV:=WT FA hq hr;rw[Nat.div_add_mod' i k,hx]at FV;obtain⟨v,hv,tZ⟩:=(tZ sd[i / k]).get _ _ FV.symm;rw[e1,List.getElem!_eq_getElem?_getD,hv];exact tZ
     ·simpa[putCells]using yw
     ·rw[hsr];exact aAy
     ·intro _;rw[hsr];exact ani
    ·rw[bN _ _ e]at hg;obtain⟨l2,o2,h3,h4,h5⟩:=hM.BO _ _ hg;exact⟨l2,o2,h3,by rw[aBB _ _ _ e hg h3];exact h4,h5⟩
   ·intro b1 b2 B1 B2 l1 l2 g1 g2 m1 m2 bW;have:∀b' B',kn G b (some (.cells (aq eA sd) .fix)) b'=some B'→∃B'',G b'=some B'':=by
     intro b' B' h';by_cases e:b'=b
     ·subst e;exact⟨_,hG⟩
     ·rw[bN _ _ e]at h';exact⟨_,h'⟩
    obtain⟨x1,y1⟩:=this _ _ g1;obtain⟨x2,y2⟩:=this _ _ g2;exact hM.sep _ _ _ _ _ _ y1 y2 m1 m2 bW
   ·intro b' l2 hm;exact O5 (hM.AX _ _ hm) ahH
   ·intro b' B' l2 hg hm;by_cases e:b'=b
    ·subst e;rw[hl]at hm;cases hm;exact .inr tY
    ·rw[bN _ _ e]at hg;exact hM.own _ _ _ hg hm
   ·intro c' i v hv;have bW:c'≠l.c:=by rintro rfl;rw[hfr]at hv;cases hv
    obtain⟨aJg,el,f,h3,h4⟩:=hM.Xw _ _ _ hv;exact⟨aJg,el,f,by rw[MK bW (Array.getElem?_eq_some_iff.1 h3).1];exact h3,h4⟩
   ·intro b' B' l2 n2 hg hm lV i hi;by_cases e:b'=b
    ·subst e;rw[hl]at hm;cases hm;exact hfr i
    ·rw[bN _ _ e]at hg;exact hM.fzf _ _ _ _ hg hm lV i hi
   ·intro b' L2 l2 hg hm;by_cases e:b'=b
    ·subst e;rw[fA]at hg;cases hg
    ·rw[bN _ _ e]at hg;rw[aBB _ _ _ e hg hm];exact hM.rof _ _ _ hg hm
   ·show w0.drawn≤w.drawn+n;have:=hM.dr;omega
  ·intro b' B' h';by_cases e:b'=b
   ·subst e;rw[gTSm]at h';rw[fA];exact h'
   ·rw[aP _ _ _ _ e]at h';rw[bN _ _ e];exact hH _ _ h'
  ·have e:b'≠b:=by rintro rfl;rw[hb]at h';cases h'
   rw[bN _ _ e]
  ·have e:b'≠b:=by rintro rfl;rw[hb]at h';cases h'
   rw[aP _ _ _ _ e];exact h'
end
end Go.Sx
namespace Go.Proofs
open Go.Shelf
def Tryz.laysS_ren:Go.Shelf.Ren:=⟨fun|6=>63|15=>136|14=>135|28=>218|29=>219|20=>210|21=>211|22=>212|23=>213|24=>214|25=>215|26=>216|27=>217|46=>280|47=>281|48=>282|49=>283|50=>284|57=>343|n=>n,fun|22=>33|24=>145|25=>153|3=>3|39=>283|0=>0|53=>372|55=>223|4=>4|46=>366|45=>365|50=>197|5=>5|9=>9|66=>438|70=>441|76=>478|77=>479|n=>n,fun|n=>n⟩
theorem Tryz.laysS:Go.Proofs.SlLaysF0.n6 Tryz.prog Tryz.laysS_ren:={
 mixed:=by kernel_rfl
 f6:=⟨Tryz.f63.name,by decide,Tryz.func63.trans (congrArg some (by kernel_rfl))⟩
 f14:=⟨Tryz.f135.name,by decide,Tryz.func135.trans (congrArg some (by kernel_rfl))⟩
 f15:=Tryz.func136.trans (congrArg some (by kernel_rfl))
 f20:=⟨Tryz.f210.name,by decide,Tryz.func210.trans (congrArg some (by kernel_rfl))⟩
 f21:=⟨Tryz.f211.name,by decide,Tryz.func211.trans (congrArg some (by kernel_rfl))⟩
 f22:=⟨Tryz.f212.name,by decide,Tryz.func212.trans (congrArg some (by kernel_rfl))⟩
 f23:=⟨Tryz.f213.name,by decide,Tryz.func213.trans (congrArg some (by kernel_rfl))⟩
 f24:=⟨Tryz.f214.name,by decide,Tryz.func214.trans (congrArg some (by kernel_rfl))⟩
 f25:=⟨Tryz.f215.name,by decide,Tryz.func215.trans (congrArg some (by kernel_rfl))⟩
 f26:=⟨Tryz.f216.name,by decide,Tryz.func216.trans (congrArg some (by kernel_rfl))⟩
 f27:=⟨Tryz.f217.name,by decide,Tryz.func217.trans (congrArg some (by kernel_rfl))⟩
 f28:=Tryz.func218.trans (congrArg some (by kernel_rfl))
 f29:=Tryz.func219.trans (congrArg some (by kernel_rfl))
 f46:=⟨Tryz.f280.name,by decide,Tryz.func280.trans (congrArg some (by kernel_rfl))⟩
 f47:=Tryz.func281.trans (congrArg some (by kernel_rfl))
 f48:=Tryz.func282.trans (congrArg some (by kernel_rfl))
 f49:=⟨Tryz.f283.name,by decide,Tryz.func283.trans (congrArg some (by kernel_rfl))⟩
 f50:=⟨Tryz.f284.name,by decide,Tryz.func284.trans (congrArg some (by kernel_rfl))⟩
 f57:=⟨Tryz.f343.name,by decide,Tryz.func343.trans (congrArg some (by kernel_rfl))⟩
 t0:=Tryz.underlying0
 a0:=Tryz.isAgg0
 z0:=Tryz.sizeOf0
 v0:=Tryz.zeroValue0
 t3:=Tryz.underlying3
 a3:=Tryz.isAgg3
 z3:=Tryz.sizeOf3
 v3:=Tryz.zeroValue3
 t4:=Tryz.underlying4
 a4:=Tryz.isAgg4
 z4:=Tryz.sizeOf4
 v4:=Tryz.zeroValue4
 t5:=Tryz.underlying5
 a5:=Tryz.isAgg5
 z5:=Tryz.sizeOf5
 v5:=Tryz.zeroValue5
 t9:=Tryz.underlying9
 a9:=Tryz.isAgg9
 z9:=Tryz.sizeOf9
 v9:=Tryz.zeroValue9
 t22:=Tryz.underlying33
 a22:=Tryz.isAgg33
 z22:=Tryz.sizeOf33
 v22:=Tryz.zeroValue33
 t25:=Tryz.underlying153
 a25:=Tryz.isAgg153
 z25:=Tryz.sizeOf153
 v25:=Tryz.zeroValue153
 t39:=Tryz.underlying283
 a39:=Tryz.isAgg283
 z39:=Tryz.sizeOf283
 v39:=Tryz.zeroValue283
 t45:=Tryz.underlying365
 a45:=Tryz.isAgg365
 z45:=Tryz.sizeOf365
 v45:=Tryz.zeroValue365
 t46:=Tryz.underlying366
 a46:=Tryz.isAgg366
 z46:=Tryz.sizeOf366
 v46:=Tryz.zeroValue366
 t50:=Tryz.underlying197
 a50:=Tryz.isAgg197
 z50:=Tryz.sizeOf197
 v50:=Tryz.zeroValue197
 t53:=Tryz.underlying372
 a53:=Tryz.isAgg372
 z53:=Tryz.sizeOf372
 v53:=Tryz.zeroValue372
 t55:=Tryz.underlying223
 a55:=Tryz.isAgg223
 z55:=Tryz.sizeOf223
 v55:=Tryz.zeroValue223
 t66:=Tryz.underlying438
 a66:=Tryz.isAgg438
 z66:=Tryz.sizeOf438
 v66:=Tryz.zeroValue438
 t70:=Tryz.underlying441
 a70:=Tryz.isAgg441
 z70:=Tryz.sizeOf441
 v70:=Tryz.zeroValue441
 t76:=Tryz.underlying478
 a76:=Tryz.isAgg478
 z76:=Tryz.sizeOf478
 v76:=Tryz.zeroValue478
 t77:=Tryz.underlying479
 a77:=Tryz.isAgg479
 z77:=Tryz.sizeOf479
 v77:=Tryz.zeroValue479}
end Go.Proofs
namespace Ln
def ltC(a b:Cf St):Prop:=a.1<b.1∨a.1=b.1∧qz a.2 b.2<0
theorem asl(a:Cf St):¬ltC a a:=by
 rintro(h|⟨_,h⟩)
 ·omega
 ·rw[Ik.2 rfl]at h;omega
theorem aoc{a b c:Cf St}(h:ltC a b)(k:ltC b c):ltC a c:=by
 rcases h with h|⟨h1,h2⟩<;>rcases k with k|⟨k1,k2⟩
 ·exact .inl (by omega)
 ·exact .inl (by omega)
 ·exact .inl (by omega)
 ·exact .inr ⟨by omega,KF h2 k2⟩
theorem Xf{α:Type}[DecidableEq α]:∀{l m:List α},l.Nodup→(∀x∈l,x∈m)→l.length≤m.length
 | [],m,_,_=>Nat.zero_le _
 |a ::l,m,h,hs=>by rw[List.nodup_cons]at h;have ha:a∈m:=hs a (by simp);have h1:=Xf (l:=l) (m:=m.erase a) h.2 fun x hx=>(List.mem_erase_of_ne (by rintro rfl;exact h.1 hx)).2 (hs x (by simp[hx]));have h2:=List.length_erase_of_mem ha;have h3:0<m.length:=List.length_pos_of_mem ha;simp only[List.length_cons];omega
section
variable{σ:Type}[DecidableEq σ]
structure Ui(S:Sys σ)(L bad:List (Cf σ)):Prop where
 nodup:bad.Nodup
 sub:∀x∈bad,x∈L
 no:∀x∈bad,¬Good S x
theorem Ui.nil(S:Sys σ)(L:List (Cf σ)):Ui S L []:=⟨by simp,by simp,by simp⟩
theorem Ui.len{S:Sys σ}{L bad:List (Cf σ)}(h:Ui S L bad):bad.length≤L.length:=Xf h.nodup h.sub
theorem Ui.add{S:Sys σ}{L bad:List (Cf σ)}{c:Cf σ}(h:Ui S L bad)(hc:c∈L)(hn:c∉bad)(hg:¬Good S c):Ui S L (bad ++ [c]):=by
 refine⟨?_,?_,?_⟩
 ·rw[List.nodup_append];refine⟨h.nodup,by simp,?_⟩;intro a ha b hb;simp at hb;rintro rfl;subst hb;exact hn ha
 ·intro x hx;rcases List.mem_append.1 hx with hx|hx
  ·exact h.sub x hx
  ·simp at hx;subst hx;exact hc
 ·intro x hx;rcases List.mem_append.1 hx with hx|hx
  ·exact h.no x hx
  ·simp at hx;subst hx;exact hg
end
end Ln
namespace Ln
open Go.Sx Go
theorem aA0(z:Cf St):List.drop 5 (eC z)=[]:=rfl
theorem ajn(X:Kn)(i:Nat)(os:List Op)(c:Cf St)(j:Nat):(aY X i os).step c j=if Cw os j c.1=true then(X.take (cm i (os.getD j default)) (os.getD j default) c.2).map (fun s=>(j,(c.1+2^j,s)))else none:=rfl
theorem awa(s:St):AV.beq (.agg (eS s)) (.agg (eS s))=true:=beq_refl _ (by simp[eS,AV.lits,AV.dU,Cv,I])
variable{C:bP}{X:Kn}(S:Std C X)
include S
end Ln
namespace Ln
open Go.Sx Go
variable{C:bP}{X:Kn}(S:Std C X)
include S
end Ln
namespace Ln
open Go.Sx Go
theorem _root_.Go.Sx.nW.rd{α:Type}{z:Nat}{enc:α→List AV}{c:AV}{l:List α}(g:nW z enc c l)(h:T ah)(nx:Key):Rd z c (aq enc l) l.length h nx:=by
 rcases g with⟨e,rfl⟩|e
 ·exact .inl ⟨e,rfl,rfl⟩
 ·exact .inr (.inl ⟨_,e⟩)
theorem axv(z:Cf St)(H:T ah):bA (aS 9999) (eC z) H=(eC z,H):=bF (xU.wU _)
variable{C:bP}{X:Kn}(S:Std C X)
include S
end Ln
namespace Ln
open Go.Sx Go
theorem aab{i:Nat}{s:St}(h:jL i s):s.kids.length≤3:=Nat.le_trans h (adW i)
variable{C:bP}{X:Kn}(S:Std C X)
include S
theorem Wn{i:Nat}(hi:i<3){os:List Op}(BK:yx i os=0){c:Cf St}(hs:jL i c.2):∀x∈(aY X i os).steps c,jL i x.2.2:=by intro x hx;obtain⟨k,c'⟩:=x;obtain⟨h1,_,_,h4⟩:=Il hx;have hk:k<os.length:=h1;have h4:X.take (cm i (os.getD k default)) (os.getD k default) c.2=some c'.2:=h4;rw[vq hk]at h4;have hco:=XH hi BK (pY hk);have:=S.ok.take (cm i os[k]) os[k] c.2 c'.2 (by rw[hco.fm];exact hs) hco.ar h4;rw[hco.fm]at this;exact this
end Ln
namespace Go.Sx
open Go
section
variable{z:Nat}{c:AV}{α:Type}{enc:α→List AV}{us:List α}{h:T ah}{nx:Key}
theorem Rd.ixS(F:Flat z enc)(g:Rd z c (aq enc us) us.length h nx){i:Nat}(hi:i<us.length){C:bP}{Q:cH}{ds:List Key}{av:List (Nat×Key×ah)}{L:List aN}{tm:T AV}{n2 k1 k2 d1 d2:Key}{a b:Nat}{gu:Option (Key×Bool)}(h1:ag k1 tm=some c)(h2:ag k2 tm=some (I i))
  (hg:cD gu tm=some true) (hg2:cD gu (aw d1 (some (IN z i c)) tm)=some true) :
  wpS C Q ⟨ds,[]⟩ (.L a ⟨some d1,.indexL z (.t k1) (.t k2),gu⟩ ::.L b ⟨some d2,.load true z (.t d1),gu⟩ ::L) av tm h n2=wpS C Q ⟨ds,[]⟩ L av (aw d2 (some (.agg (enc us[i]))) (aw d1 (some (IN z i c)) tm)) h n2:=by
 have hr:=F.rows us;have he:=F.at hi;have hl:=F.len us[i];have tx:z≤us.length*z-i*z:=by rw[←Nat.sub_mul];exact Nat.le_mul_of_pos_left z (by omega)
 have tk:List.take z (enc us[i])=enc us[i]:=Lm (by omega);rcases g with⟨_,_,e⟩|⟨f,rfl⟩|⟨b,k,rfl,hb,_,_⟩
 ·omega
 ·simp only[IN]at hg2;simp[h1,h2,hi,hr,tx,he,hl,tk,IN,hg];rw[he]at hg2;rw[hg2];simp[hl,tk]
 ·simp only[IN]at hg2;simp[h1,h2,hi,hr,tx,he,hl,tk,IN,hb,hg];rw[Nat.zero_add]at hg2;rw[hg2];simp[hb,hr,tx,he]
end
theorem Gr.add0{z:Nat}{c:AV}{l:List AV}{len:Nat}{h:T ah}{nx:Key}{ob:Option Key}(g:Gr z c l len h nx ob)(hl:len≤1048576):∃h',appendTo z c [] 0 h nx=.val c h' nx∧∀b:Key,ag b h'=ag b h:=by
 rcases g with⟨rfl,rfl,rfl,rfl⟩|⟨b,k,rfl,rfl,h2,h3,h4,hk⟩|⟨t,rfl,rfl,h2,h3⟩
 ·exact⟨h,by simp,fun _=>rfl⟩
 ·rcases hk with rfl|rfl
  ·exact⟨h,by simp[h2,hl],fun _=>rfl⟩
  ·refine⟨aw b (QZ l) h,by simp[h2,hl,h4],fun x=>?_⟩;by_cases e:x=b
   ·subst e;simp[h2]
   ·rw[aP _ _ _ _ e]
 ·exact⟨h,by simp,fun _=>rfl⟩
end Go.Sx
namespace Ln
open Go.Sx Go
variable{C:bP}{X:Kn}(S:Std C X)
include S
end Ln
namespace Ln
open Go.Sx Go
theorem _root_.Go.Sx.Qs.cut{h h' h2:T ah}{nx nx' n2:Key}{o8 o6:Option Key}(a:Qs h nx none h' nx' o8)(b:Qs h' nx' none h2 n2 o6):Qs h nx none h2 n2 o6:=by
 have n1:=a.n;refine⟨Nat.le_trans a.n b.n,fun x hx _=>?_,?_⟩
 ·rw[b.g x (by omega) (by simp)];exact a.g x hx (by simp)
 ·rcases b.o with e|⟨y,e,hy⟩
  ·exact .inl e
  ·exact .inr ⟨y,e,by omega⟩
theorem _root_.Go.Sx.Gr.aaF{z:Nat}{c:AV}{α:Type}{enc:α→List AV}(F:Flat z enc){us:List α}{h:T ah}{nx:Key}{ob:Option Key}(g:Gr z c (aq enc us) us.length h nx ob)(n:Nat):nW z enc (aS (n+1) c h).1 us∧∀b:Key,ob≠some b→ag b (aS (n+1) c h).2=ag b h:=by
 rcases g with⟨rfl,e1,e2,_⟩|⟨b,k,rfl,rfl,hb,_,hl,hk⟩|⟨t,rfl,rfl,_⟩
 ·exact⟨.inl ⟨rfl,zqr e2⟩,fun _ _=>rfl⟩
 ·rcases hk with rfl|rfl
  ·rw[yQ hb hl (F.FM us)];exact⟨.inr rfl,fun x hx=>aP _ _ _ _ (fun e=>hx (by rw[e]))⟩
  ·rw[o9 hb hl (F.FM us)];exact⟨.inr rfl,fun x hx=>aP _ _ _ _ (fun e=>hx (by rw[e]))⟩
 ·exact⟨.inr rfl,fun _ _=>rfl⟩
variable{C:bP}{X:Kn}(S:Std C X)
include S
end Ln
namespace Ln
open Go.Sx Go
variable{C:bP}{X:Kn}(S:Std C X)
include S
end Ln
namespace Ln
open Go.Sx Go
theorem _root_.Go.Sx.Rd.app{z:Nat}{c:AV}{α:Type}{enc:α→List AV}{us:List α}{h:T ah}{nx:Key}(F:Flat z enc)(g:Rd z c (aq enc us) us.length h nx){C:bP}{Q:cH}{L:List aC}{tm:T AV}{n2 k1 k3 d:Key}{s c':AV}{h':T ah}{n':Key}(ha:appendTo z s (aq enc us) us.length h n2=.val c' h' n')
  (h1:ag k1 tm=some c) (h3:ag k3 tm=some s):qy C Q (⟨some d,.append z (.t k3) (.t k1),none⟩ ::L) tm h n2=qy C Q L (aw d (some c') tm) h' n':=by
 have hr:=F.rows us;have Nu:List.take (us.length*z) (aq enc us)=aq enc us:=Lm (by omega);have hz:bA (aS 9999) (aq enc us) h=(aq enc us,h):=bF (F.FM _);rcases g with⟨rfl,e1,e2⟩|⟨f,rfl⟩|⟨b,kk,rfl,hb,_,_⟩
 ·have e0:us=[]:=zqr e2;subst e0;simp[-appendTo]at ha;simp[-appendTo,h1,h3,ha]
 ·simp[-appendTo,h1,h3,ha]
 ·simp[-appendTo,h1,h3,hb,hr,Nu,hz,ha]
theorem _root_.Go.Sx.Gr.own{z:Nat}{c:AV}{l:List AV}{len:Nat}{h:T ah}{nx:Key}{ob:Option Key}(g:Gr z c l len h nx ob){b:Key}{o n z':Nat}(e:c=.slice b o n z'):ob=some b:=by
 rcases g with⟨rfl,_⟩|⟨b',k,rfl,rfl,_⟩|⟨t,rfl,rfl,_⟩
 ·cases e
 ·cases e;rfl
 ·cases e
def jU(p:List Nat):List Int:=p.map fun k:Nat=>(k:Int)
variable{C:bP}{X:Kn}(S:Std C X)
include S
end Ln
namespace Ln
open Go.Sx Go
theorem _root_.Go.Sx.Rd.aaF{z:Nat}{c:AV}{α:Type}{enc:α→List AV}(F:Flat z enc){us:List α}{h:T ah}{nx n0:Key}(g:Rd z c (aq enc us) us.length h nx)(hn:∀b o n z',c=.slice b o n z'→n0.toNat≤b.toNat)(n:Nat) :
  nW z enc (aS (n+1) c h).1 us∧∀b:Key,b.toNat<n0.toNat→ag b (aS (n+1) c h).2=ag b h:=by
 rcases g with⟨rfl,e1,e2⟩|⟨f,rfl⟩|⟨b,k,rfl,hb,_,hl⟩
 ·exact⟨.inl ⟨rfl,zqr e2⟩,fun _ _=>rfl⟩
 ·exact⟨.inr rfl,fun _ _=>rfl⟩
 ·have h0:=hn b _ _ _ rfl;cases k with
  |part=>rw[yQ hb hl (F.FM us)];exact⟨.inr rfl,fun x hx=>aA (by omega)⟩
  |fix=>rw[o9 hb hl (F.FM us)];exact⟨.inr rfl,fun x hx=>aA (by omega)⟩
  |ro=>rw[ame hb hl (F.FM us)];exact⟨.inr rfl,fun x hx=>rfl⟩
  |rop=>rw[ahm hb hl (F.FM us)];exact⟨.inr rfl,fun x hx=>rfl⟩
variable{C:bP}{X:Kn}(S:Std C X)
include S
end Ln
namespace Ln
open Go.Sx Go
abbrev Ci:=Int×St
def eD(c:Ci):List AV:=[I c.1,I c.2.k,I c.2.n,.str 0 0,aV c.2.kids]
def toC(c:Ci):Cf St:=(c.1.toNat,c.2)
def ofC(c:Cf St):Ci:=((c.1:Int),c.2)
theorem aha(c:Cf St):toC (ofC c)=c:=by simp[toC,ofC]
theorem alH(c:Cf St):eD (ofC c)=eC c:=rfl
def Wm(a b:Ci):Prop:=a.1<b.1∨a.1=b.1∧qz a.2 b.2<0
theorem avv{a b c:Ci}(h:Wm a b)(k:Wm b c):Wm a c:=by
 rcases h with h|⟨h1,h2⟩<;>rcases k with k|⟨k1,k2⟩
 ·exact .inl (by omega)
 ·exact .inl (by omega)
 ·exact .inl (by omega)
 ·exact .inr ⟨by omega,KF h2 k2⟩
def GO(n:Nat)(l:List Ci):Prop:=∀(q:Nat) (hq:q<l.length),0≤l[q].1∧l[q].1<((2^n:Nat):Int)∧∀_:0<q,Wm l[q-1] l[q]
def KG(n:Nat)(l:List Ci)(j:Nat):Prop:=∀(q:Nat) (hq:q<l.length),q<j→0≤l[q].1∧l[q].1<((2^n:Nat):Int)∧∀_:0<q,Wm l[q-1] l[q]
theorem KG.zero(n:Nat)(l:List Ci):KG n l 0:=fun q hq h=>absurd h (by omega)
theorem KG.all{n:Nat}{l:List Ci}(h:KG n l l.length):GO n l:=fun q hq=>h q hq hq
theorem KG.step{n:Nat}{l:List Ci}{j:Nat}(h:KG n l j)(hj:j<l.length)(h1:0≤l[j].1)(h2:l[j].1<((2^n:Nat):Int))(h3:∀_:0<j,Wm l[j-1] l[j]):KG n l (j+1):=by
 intro q hq hqj;by_cases e:q=j
 ·subst e;exact⟨h1,h2,h3⟩
 ·exact h q hq (by omega)
theorem GO.pos{n:Nat}{l:List Ci}(h:GO n l):∀c∈l,0≤c.1:=by intro c hc;obtain⟨i,hi,rfl⟩:=List.getElem_of_mem hc;exact(h i hi).1
theorem GO.lt{n:Nat}{l:List Ci}(h:GO n l):∀c∈l.map toC,c.1<2^n:=by intro c hc;obtain⟨x,hx,rfl⟩:=NI.1 hc;obtain⟨i,hi,rfl⟩:=List.getElem_of_mem hx;have:=h i hi;show l[i].1.toNat<_;omega
theorem GO.up{n:Nat}{l:List Ci}(h:GO n l):∀(d i:Nat) (hj:i+d+1<l.length),Wm (l[i]'(by omega)) l[i+d+1]
 |0,i,hj=>by have:=(h (i+1) hj).2.2 (by omega);simpa using this
 |d+1,i,hj=>by
  have h1:=GO.up h d i (by omega);have h2:=(h (i+(d+1)+1) hj).2.2 (by omega);have e:i+(d+1)+1-1=i+d+1:=by omega
  simp only[e]at h2;exact avv h1 h2
def adL(S:Sys St)(c0:Cf St)(l:List (Cf St)):Prop:=c0∈l∧∀c∈l,S.acc c.1=false∧∀x∈S.steps c,x.2∈l
def cI(a b:Int):Int:=if a<b then -1 else if b<a then 1 else 0
def aa8(a b:Ci):Int:=if a.1<b.1 then -1 else if b.1<a.1 then 1 else qz a.2 b.2
theorem asi{a b:Ci}:aa8 a b<0↔Wm a b:=by
 unfold aa8 Wm;by_cases h:a.1<b.1
 ·simp[h]
 ·by_cases h2:b.1<a.1
  ·simp[h,h2];omega
  ·have:a.1=b.1:=by omega
   simp[h,h2,this]
theorem ahE{a b:Ci}:aa8 a b=0↔a=b:=by
 unfold aa8;by_cases h:a.1<b.1
 ·simp[h];rintro rfl;omega
 ·by_cases h2:b.1<a.1
  ·simp[h,h2];rintro rfl;omega
  ·have e:a.1=b.1:=by omega
   simp[h,h2];constructor
   ·intro q;exact Prod.ext e (Ik.1 q)
   ·rintro rfl;exact Ik.2 rfl
variable{C:bP}{X:Kn}(S:Std C X)
include S
theorem apb(a:Int){h:T ah}{nx:Key}:aJ C iF [I a] h nx (fun o h' nx'=>o=.ret (.bool false)∧h'=h∧nx'=nx):=by refine S.Fj.call ?_;simp[cmp_isNaN_int];simp[Dn];simp[Dp]
theorem aku(a b:Int){h:T ah}{nx:Key}:aJ C iR [I a,I b] h nx (fun o h' nx'=>o=.ret (I (cI a b))∧h'=h∧nx'=nx):=by
 have rn:=S.r iF;refine S.Bs.call ?_;simp[xf];simp[Ai];simp[Aj,rn];refine(apb S a).mono ?_;rintro o h1 bw ⟨rfl,rfl,rfl⟩;simp;simp[Ak,rn];refine(apb S b).mono ?_;rintro o h1 bw ⟨rfl,rfl,rfl⟩;simp;simp[Al];simp[Am];by_cases h1:a<b
 ·simp[pS,h1];simp[yo,cI,h1]
 ·simp[pS,h1];by_cases h2:b<a
  ·simp[nV,h2];simp[yp,cI,h1,h2]
  ·simp[nV,h2];simp[yq,cI,h1,h2]
omit S in
theorem asT{a b:Int}{j:Nat}(hj:j<2):List.take 1 (List.drop j [I a,I b])=[I (if j=0 then a else b)]:=by
 match j,hj with
 |0,_=>rfl
 |1,_=>rfl
def OrI(a b:Int)(h:T ah)(nx:Key)(m:Nat)(aD:T AV)(h':T ah)(nx':Key):Prop:=∃j:Nat,m=2-j∧j≤2∧ag (K 3) aD=some (I 0)∧ag (K 6) aD=some (.sl [I a,I b] 2 1 .any)∧ag (K 7) aD=some (I 2)∧ag (K 8) aD=some (I j)∧h'=h∧nx'=nx∧(0<j→a=0)∧(1<j→b=0)
theorem aCR(a b:Int){h:T ah}{nx:Key}:aJ C r8 [.sl [I a,I b] 2 1 .any] h nx (fun o h' nx'=>o=.ret (I (if a=0 then b else a))∧h'=h∧nx'=nx):=by
 refine S.M9.call ?_;simp[K1];simp[J6];simp[J7];simp[J8];refine W.fh (n:=2) (OrI a b h nx) ⟨0,by simp,by omega,by simp,by simp,by simp,by simp,rfl,rfl,by omega,by omega⟩ ?_;rintro m dc h1 bw ⟨j,rfl,hj,g3,g6,g7,g8,rfl,rfl,ha,hb⟩;refine W.of ?_;simp[J9];by_cases hj2:j<2
 ·have L1:(j:Int)<2:=by omega
  have tx:1≤2-j:=by omega
  have tg:=asT (a:=a) (b:=b) hj2;simp[B9,g7,g8,L1];simp[Ka,g6,g8,hj2,tx,tg];by_cases hz:(if j=0 then a else b)=0
  ·simp[Ca,g3,hz];simp[Kb,g8];rw[aO (by omega) (by omega)];refine⟨2-(j+1),by omega,j+1,rfl,by omega,by simp[g3],by simp[g6],by simp[g7],by simp,rfl,rfl,?_,?_⟩
   ·intro _;by_cases h0:j=0
    ·rw[if_pos h0]at hz;exact hz
    ·exact ha (by omega)
   ·intro _;rw[if_neg (by omega)]at hz;exact hz
  ·simp[Ca,g3,bq hz];simp[Kc];by_cases h0:j=0
   ·rw[if_pos h0]at hz;simp[h0,hz]
   ·have:=ha (by omega);simp[h0,this]
 ·have Jk:j=2:=by omega
  subst Jk;have h1:=ha (by omega);have h2:=hb (by omega);simp[B9,g7,g8];simp[Kd,g3,h1,h2]
theorem Tt{a b:Ci}(ha:a.2.kids.length≤3)(hb:b.2.kids.length≤3):Pur C fJ [.agg (eD a),.agg (eD b)] (·=.ret (I (aa8 a b))):=by
 intro h nx;have s1:=kTSu nx;have s2:=kTSu nx.succ;have s3:=kTSu nx.succ.succ;have rC:=S.r iR;have rV:=S.r jw;have rO:=S.r r8;have ac1:=du a.2.kids;have ac2:=du b.2.kids;have af1:∀n H,aS n (aV a.2.kids) H=(aV a.2.kids,H):=gx _;have af2:∀n H,aS n (aV b.2.kids) H=(aV b.2.kids,H):=gx _;obtain⟨a1,a2⟩:=a;obtain⟨b1,b2⟩:=b;refine S.C3.call ?_;simp[Ad];simp[BB,eD,ac1.1,ac2.1];have e1:=(E0 h nx (.cells (eD (a1,a2)) .fix)).trans (E0 _ nx.succ (.cells (eD (b1,b2)) .fix));have q1:ag nx (aw nx.succ (QZ (eD (b1,b2))) (aw nx (QZ (eD (a1,a2))) h))=QZ (eD (a1,a2)):=by rw[aA (by omega)];simp
 have q2:ag nx.succ (aw nx.succ (QZ (eD (b1,b2))) (aw nx (QZ (eD (a1,a2))) h))=QZ (eD (b1,b2)):=by simp
 simp only[eD]at e1 q1 q2;generalize aw nx.succ (QZ [I b1,I b2.k,I b2.n,.str 0 0,aV b2.kids]) (aw nx (QZ [I a1,I a2.k,I a2.n,.str 0 0,aV a2.kids]) h)=h1 at *;simp[BC,q1,q2,rC,af1,af2];refine(aku S a1 b1).mono ?_;rintro o h2 bu ⟨rfl,rfl,rfl⟩;have bs1:=awa a2;have bs2:=awa b2;simp[eS]at bs1 bs2;simp[q1,q2,bs1,bs2,rV,af1,af2];refine aJ.known (S.s_values_Compare a2 b2 ha hb _ _) ?_;have hz:aS 9999 (.slice nx.succ.succ 0 2 1) (aw nx.succ.succ (QZ [I (cI a1 b1),I (qz a2 b2)]) h2)=(.sl [I (cI a1 b1),I (qz a2 b2)] 2 1 .any,aw nx.succ.succ (some (.cells [I (cI a1 b1),I (qz a2 b2)] .ro)) (aw nx.succ.succ (QZ [I (cI a1 b1),I (qz a2 b2)]) h2)):=by refine o9 (n:=9998) (by simp) rfl ?_;intro y hy;simp at hy;rcases hy with rfl|rfl<;>exact c5 _ _
 simp[rO,hz];refine(aCR S (cI a1 b1) (qz a2 b2)).mono ?_;rintro o h2 bu ⟨rfl,rfl,rfl⟩;simp;refine⟨?_,?_⟩
 ·unfold cI aa8;by_cases h1:a1<b1
  ·simp[h1]
  ·by_cases h2:b1<a1
   ·simp[h1,h2]
   ·simp[h1,h2]
 ·exact⟨by have:=e1.n;omega,fun b hb=>by rw[aA (by omega)];exact e1.g b hb⟩
end Ln
namespace Ln
open Go.Sx Go
def vuF:Nat→Nat→List Nat
 |0,n=>[n]
 |k+1,n=>if n<128 then [n]else(128+n%128) ::vuF k (n / 128)
def vu(n:Nat):List Nat:=vuF 10 n
theorem alU{C:bP}{l:List aC}{R:cH}{tm:T AV}{h:T ah}{nx:Key}(hw:iT C (.ops l) R tm h nx):qy C R l tm h nx:=by simpa using hw
def eY(b:Nat):List AV:=[.int .u8 (.lit (b:Int))]
theorem Jc:Flat 1 eY where
 len _:=rfl
 wU x y hy:=by simp[eY]at hy;subst hy;exact c5 _ _
 cell x y hy:=by simp[eY]at hy;subst hy;rfl
 lits x:=rfl
structure WS(w:Key)(c:AV)(bs:List Nat)(h:T ah)(nx n0:Key):Prop where
 lo:n0.toNat≤w.toNat
 hi:w.toNat<nx.toNat
 n:n0.toNat≤nx.toNat
 at_:ag w h=QZ [c]
 app:App c (aq eY bs) bs.length 1 h nx n0
def XA(w:Key)(h:T ah)(nx:Key)(h':T ah):Prop:=∀b:Key,b.toNat<nx.toNat→b≠w→(∀B,ag b h=some B→B≠.tok∧∀l,B≠.cells l .part)→ag b h'=ag b h
theorem XA.refl(w:Key)(h:T ah)(nx:Key):XA w h nx h:=fun _ _ _ _=>rfl
theorem XA.trans{w:Key}{h h1 h2:T ah}{nx bw:Key}(a:XA w h nx h1)(hn:nx.toNat≤bw.toNat)(b:XA w h1 bw h2):XA w h nx h2:=fun k hk hw hB=>by have e:=a k hk hw hB;rw[b k (by omega) hw (by rw[e];exact hB),e]
theorem XA.new(w:Key)(h:T ah)(nx:Key)(B:Option ah):XA w h nx (aw nx B h):=fun _ hk _ _=>aA hk
theorem Ext.kp{h h':T ah}{nx nx':Key}(e:Ext h nx h' nx')(w:Key):XA w h nx h':=fun b hb _ _=>e.g b hb
theorem WS.add{w:Key}{c:AV}{bs:List Nat}{h:T ah}{nx n0:Key}(W:WS w c bs h nx n0)(new:List Nat)(hl:bs.length+new.length≤1048576) :
  ∃c' h' nx',appendTo 1 c (aq eY new) new.length h nx=.val c' h' nx'∧c'.aM=true∧c'.cells=[c']∧ag w h'=QZ [c]∧WS w c' (bs++new) (aw w (QZ [c']) h') nx' n0∧nx.toNat≤nx'.toNat∧(∀b:Key,b.toNat<n0.toNat→ag b (aw w (QZ [c']) h')=ag b h)∧XA w h nx (aw w (QZ [c']) h'):=by
 obtain⟨c',h',nx',a1,a2,a3,a4,a5⟩:=W.app.fu (new:=aq eY new) (m:=new.length) W.n (by rw[Jc.rows]) hl (Jc.aAo new);have hw:ag w h'=QZ [c]:=by rw[a5 w W.hi (fun B hB=>by rw[W.at_]at hB;cases hB;exact⟨by simp,by simp⟩)];exact W.at_
 have⟨x1,x2⟩:=a2.cell;refine⟨c',h',nx',a1,x1,x2,hw,⟨W.lo,by have:=W.hi;omega,by have:=W.n;omega,by rw[gTSm],?_⟩,a3,fun b hb=>by rw[aA (by have:=W.lo;omega)];exact a4 b hb,fun b hb hw2 hB=>by rw[aP _ _ _ _ hw2];exact a5 b hb hB⟩;have:=a2.set (k:=w) (B:=QZ [c']) (fun B hB=>by rw[hw]at hB;cases hB;exact⟨by simp,by simp⟩);rw[ju,DG];exact this
theorem WS.ext{w:Key}{c:AV}{bs:List Nat}{h h':T ah}{nx nx' n0:Key}(W:WS w c bs h nx n0)(e:Ext h nx h' nx'):WS w c bs h' nx' n0:=
 ⟨W.lo,by have:=W.hi;have:=e.n;omega,by have:=W.n;have:=e.n;omega,by rw[e.g w W.hi];exact W.at_,W.app.ext e⟩
def jr(w:Key)(bs:List Nat)(h:T ah)(nx n0:Key)(o:Out)(h':T ah)(nx':Key):Prop:=o=.ret (.tuple [])∧∃c',WS w c' bs h' nx' n0∧nx.toNat≤nx'.toNat∧(∀b:Key,b.toNat<n0.toNat→ag b h'=ag b h)∧XA w h nx h'
theorem wrap_u8(n:Nat):bD .u8 (n:Int)=((n%256:Nat):Int):=by rw[eK];simp[IntKind.wrap,IntKind.bits,IntKind.signed]
theorem avE(n:Nat):arith .or .u8 (.lit ((n%256:Nat):Int)) (.lit 128)=some (.lit ((128+n%128:Nat):Int)):=by
 have key:∀x:Fin 256,bD .u8 (.ofNat (Nat.lor (Q7 .u8 ((x.val:Nat):Int)) (Q7 .u8 128)))=((128+x.val%128:Nat):Int):=by decide +kernel
 have e:=key ⟨n%256,Nat.mod_lt _ (by omega)⟩;have e2:arith .or .u8 (.lit ((n%256:Nat):Int)) (.lit 128)=some (.lit (bD .u8 (.ofNat (Nat.lor (Q7 .u8 ((n%256:Nat):Int)) (Q7 .u8 128))))):=rfl;rw[e2,e];simp only;congr 3;omega
theorem aAp(orc:iV)(n:Nat)(k:Key)(tm:T AV)(h:T ah)(hk:ag k tm=some (.int .u64 (.lit (n:Int)))):lightOp orc (.bin .shr (.t k) (.v (.int .u64 (.lit 7)))) tm h=some (.int .u64 (.lit ((n / 128:Nat):Int))):=by simp only[lightOp,at_t,at_v,hk];rfl
theorem atx(orc:iV){k:Key}{v:AV}{tm:T AV}{h:T ah}(hk:ag k tm=some v):lightOp orc (.mov (.t k)) tm h=some v:=by simp[hk]
theorem avF{C:bP}{Q:cH}{tm:T AV}{h:T ah}{nx:Key}{n d:Nat}(hd:d=n / 128)(f1:ag (K 1) tm=some (.int .u64 (.lit (n:Int))))
  (hQ:Q .norm (aw (K 1) (some (.int .u64 (.lit (d:Int)))) (aw (K 19) (some (.int .u64 (.lit (d:Int)))) (aw (K 18) (some (.int .u64 (.lit (n:Int)))) tm))) h nx):iT C (.ops nN) Q tm h nx:=by
 subst hd;have e1:=atx C.orc (h:=h) f1;have e2:=aAp C.orc n (K 18) (aw (K 18) (some (.int .u64 (.lit (n:Int)))) tm) h (by simp);have e3:=atx C.orc (k:=K 19) (v:=.int .u64 (.lit ((n / 128:Nat):Int))) (tm:=aw (K 19) (some (.int .u64 (.lit ((n / 128:Nat):Int)))) (aw (K 18) (some (.int .u64 (.lit (n:Int)))) tm)) (h:=h) (by simp);generalize n / 128=d at e2 e3 hQ;simp only[sM,sP,sQ,sN,sO,nN,aFL,aAq,aAr,fo,aam,wants_none,Wt,aOp,okV,e1,e2,e3,putTm_some,aqJ];exact hQ
variable{C:bP}
def aty(w:Key)(bs:List Nat)(n:Nat)(h:T ah)(nx n0:Key)(k:Nat)(aD:T AV)(h':T ah)(nx':Key):Prop:=
 ∃(n':Nat) (bs':List Nat) (c':AV),k≤10∧ag (K 0) aD=some (.ptr w 0)∧ag (K 1) aD=some (.int .u64 (.lit (n':Int)))∧WS w c' bs' h' nx' n0∧n'*128^(10-k)<18446744073709551616∧bs'++vuF k n'=bs++vu n∧bs'.length≤bs.length+(10-k)∧
  nx.toNat≤nx'.toNat∧(∀b:Key,b.toNat<n0.toNat→ag b h'=ag b h)∧XA w h nx h'
theorem alu(S:Fn C fG mJ){w:Key}{c:AV}{bs:List Nat}{h:T ah}{nx n0:Key}(Ws:WS w c bs h nx n0){n:Nat}(hn:n<18446744073709551616)(hl:bs.length≤100000) :
  aJ C fG [.ptr w 0,.int .u64 (.lit (n:Int))] h nx (jr w (bs++vu n) h nx n0):=by
 refine S.call ?_;simp[mJ];refine W.fh (n:=10) (aty w bs n h nx n0) ?_ ?_
 ·exact⟨n,bs,c,by omega,by simp,by simp,Ws,by simpa using hn,rfl,by omega,fE _,fun _ _=>rfl,XA.refl _ _ _⟩
 ·rintro k dc h1 bw ⟨n',bs',c',hk,f0,f1,W1,cQ,hbs,hlen,hnx,hfr,hkp⟩;refine W.of ?_;simp[xX];have s1:=kTSu bw;by_cases hsm:n'<128
  ·have avG:(n':Int)<128:=by omega
   have hv:vuF k n'=[n']:=by cases k<;>simp[vuF,hsm]
   simp[nO,f1,avG];obtain⟨m,hm⟩:∃m,m=n'%256:=⟨_,rfl⟩;have h12:bD .u8 (n':Int)=(m:Int):=by rw[wrap_u8,hm]
   have hmn:m=n':=by omega
   obtain⟨c2,h2,bu,g,x1,x2,x3,W2,x5,x6,x7⟩:=(W1.ext (E0 h1 bw (.cells [.int .u8 (.lit (m:Int))] .fix))).add [m] (by simp;omega);have GL:aq eY [m]=[.int .u8 (.lit (m:Int))]:=iC _ _;rw[GL]at g;simp only[List.length_singleton]at g;have hz:∀H,bA (aS 9999) [AV.int .u8 (.lit (m:Int))] H=([AV.int .u8 (.lit (m:Int))],H):=fun H=>bF (by intro y hy;simp at hy;subst hy;exact c5 _ _);simp[-appendTo,xY,f0,f1,W1.at_,h12,hz,g,x1,x2,x3];refine⟨rfl,c2,by rw[←hbs,hv,←hmn];exact W2,by omega,fun b hb=>?_,(hkp.trans hnx (XA.new w h1 bw _)).trans (by omega) x7⟩;rw[x6 b hb,aA (by have:=W1.n;omega)];exact hfr b hb
  ·have avG:¬(n':Int)<128:=by omega
   cases k with
   |zero=>
    exfalso;have:(128:Nat)^(10-0)=1180591620717411303424:=by decide
    rw[this]at cQ;omega
   |succ k=>
    simp[nO,f1,avG];obtain⟨m,hm⟩:∃m,m=n'%256:=⟨_,rfl⟩;obtain⟨y,hy⟩:∃y,y=128+n'%128:=⟨_,rfl⟩;have h12:bD .u8 (n':Int)=(m:Int):=by rw[wrap_u8,hm]
    have h13:arith .or .u8 (.lit (m:Int)) (.lit 128)=some (.lit (y:Int)):=by rw[hm,avE,hy]
    obtain⟨c2,h2,bu,g,x1,x2,x3,W2,x5,x6,x7⟩:=(W1.ext (E0 h1 bw (.cells [.int .u8 (.lit (y:Int))] .fix))).add [y] (by simp;omega);have GL:aq eY [y]=[.int .u8 (.lit (y:Int))]:=iC _ _;rw[GL]at g;simp only[List.length_singleton]at g;have hz:∀H,bA (aS 9999) [AV.int .u8 (.lit (y:Int))] H=([AV.int .u8 (.lit (y:Int))],H):=fun H=>bF (by intro z hz;simp at hz;subst hz;exact c5 _ _);simp[-appendTo,-arith,xZ,f0,f1,W1.at_,h12,h13,hz,g,x1,x2,x3];refine alU (avF (n:=n') (d:=n' / 128) rfl (by simp[f1]) ?_);simp;refine⟨k,by omega,?_⟩;unfold aty;have hp:10-k=(10-(k+1))+1:=by omega
    refine⟨n' / 128,bs' ++ [y],c2,by omega,?_,?_,W2,?_,?_,?_,by omega,fun b hb=>?_,(hkp.trans hnx (XA.new w h1 bw _)).trans (by omega) x7⟩
    ·simp[f0]
    ·simp
    ·rw[hp,Nat.pow_succ];have:n' / 128*(128^(10-(k+1))*128)≤n'*128^(10-(k+1)):=by rw[Nat.mul_comm (128^_) 128,←Nat.mul_assoc];exact Nat.mul_le_mul_right _ (Nat.div_mul_le_self _ _)
     omega
    ·rw[←hbs,vuF,if_neg hsm,hy,List.append_assoc];rfl
    ·rw[DG,List.length_singleton];omega
    ·rw[x6 b hb,aA (by have:=W1.n;omega)];exact hfr b hb
theorem aiZ(n:Int):bD .u64 n=((n.emod 18446744073709551616).toNat:Int):=by rw[eK];simp only[IntKind.wrap,IntKind.bits,IntKind.signed];have e:n.emod 18446744073709551616=n%18446744073709551616:=rfl;rw[e];simp;omega
theorem aqK{q n0:Key}{h:T ah}{nx:Key}(hq:ag q h=QZ [])(lV:n0.toNat≤q.toNat)(hn:n0.toNat≤nx.toNat)(m:List Nat)(hl:m.length≤1048576) :
  ∃c' h' nx',appendTo 1 (.slice q 0 0 1) (aq eY m) m.length h nx=.val c' h' nx'∧nx.toNat≤nx'.toNat∧nW 1 eY (aS 9999 c' h').1 m∧∀b:Key,b.toNat<n0.toNat→ag b (aS 9999 c' h').2=ag b h:=by
 by_cases hm:m=[]
 ·subst hm;have hz:=o9 (n:=9998) (b:=q) (len:=0) (sz:=1) (l:=[]) (H:=aw q (QZ []) h) (by rw[gTSm]) rfl (by simp);refine⟨.slice q 0 0 1,aw q (QZ []) h,nx,by simp[hq],fE _,?_,fun b hb=>?_⟩
  ·rw[hz];exact .inr rfl
  ·rw[hz,aA (by omega),aA (by omega)]
 ·have hmp:0<m.length:=List.length_pos_iff.2 hm;have NY:¬m.length=0:=by omega
  have hr:=Jc.rows m;have KL:=Jc.aAo m;have hz:=yQ (n:=9998) (b:=nx) (len:=m.length) (sz:=1) (l:=aq eY m) (H:=aw nx (some (.cells (aq eY m) .part)) h) (by rw[gTSm]) hr (Jc.FM m);refine⟨.slice nx 0 m.length 1,aw nx (some (.cells (aq eY m) .part)) h,nx.succ,?_,by rw[kTSu];omega,?_,fun b hb=>?_⟩
  ·simp[hq,hl,KL,NY]
  ·rw[hz];exact .inr rfl
  ·rw[hz,aA (by omega),aA (by omega)]
theorem alW(S:Fn C fH mK){w:Key}{c:AV}{bs:List Nat}{h:T ah}{nx n0:Key}(Ws:WS w c bs h nx n0)(hl:bs.length≤1048576) :
  aJ C fH [.ptr w 0] h nx (fun o h' nx'=>(∃c',o=.ret c'∧nW 1 eY c' bs)∧Ext h nx h' nx'):=by
 have s1:=kTSu nx;refine S.call ?_;have DK:ag w (aw nx (QZ []) h)=QZ [c]:=by rw[aA Ws.hi];exact Ws.at_
 simp[mK];simp[x0];obtain⟨c',h',nx',g,hn,hR,hf⟩:=aqK (q:=nx) (n0:=nx) (h:=aw nx (QZ []) h) (nx:=nx.succ) (by rw[gTSm]) (fE _) (by omega) bs hl;have hE:Ext h nx (aS 9999 c' h').2 nx':=⟨by omega,fun b hb=>by rw[hf b hb,aA hb]⟩;rcases Ws.app.is with⟨rfl,e1,e2⟩|⟨b,rfl,hb,lV,cQ,hll⟩|⟨t,rfl,ht,lV,cQ⟩
 ·have:bs=[]:=zqr e2;subst this;simp only[ai0,List.length_nil]at g;simp[-appendTo,jk,DK,g];exact⟨hR,hE⟩
 ·have hb2:ag b (aw nx (QZ []) h)=some (.cells (aq eY bs) .part):=by rw[aA cQ];exact hb
  have hz:∀H,bA (aS 9999) (aq eY bs) H=(aq eY bs,H):=fun H=>bF (Jc.FM bs);have hle:bs.length≤(aq eY bs).length:=by rw[Jc.rows];omega
  have Nu:List.take bs.length (aq eY bs)=aq eY bs:=Lm (by rw[Jc.rows];omega);simp[-appendTo,jk,DK,hb2,hz,hle,Nu,g];exact⟨hR,hE⟩
 ·simp[-appendTo,jk,DK,g];exact⟨hR,hE⟩
end Ln
namespace Ln
open Go.Sx Go
abbrev lU(n:Nat):AV:=.int .u64 (.lit (n:Int))
def Qg(a b:Nat):Nat:=Nat.xor a b%18446744073709551616
def orU(a b:Nat):Nat:=Nat.lor a b%18446744073709551616
def agI(a b:Nat):Nat:=a*b%18446744073709551616
def adP(a k:Nat):Nat:=a*2^k%18446744073709551616
def UC(n:Int):Nat:=(n.emod 18446744073709551616).toNat
theorem OY(n:Int):bD .u64 n=((UC n:Nat):Int):=aiZ n
theorem ayb(a b:Nat):arith .mul .u64 (.lit (a:Int)) (.lit (b:Int))=some (.lit ((agI a b:Nat):Int)):=by show some (SI.lit (bD .u64 (Int.mul (a:Int) (b:Int))))=_;rw[OY];rfl
section
variable{C:bP}{Q:cH}{L:List aC}{tm:T AV}{h:T ah}{nx d x y:Key}
theorem tU{o:BinOp}{a b:PX}{v:AV}(hl:lightOp C.orc (.bin o a b) tm h=some v):qy C Q (⟨some d,.bin o a b,none⟩ ::L) tm h nx=qy C Q L (aw d (some v) tm) h nx:=by simp only[sM,sP,sQ,sN,sO,aam,wants_none,Wt,aOp,okV,hl,putTm_some]
theorem Xz(a b:Nat)(h1:ag x tm=some (lU a))(h2:ag y tm=some (lU b)):qy C Q (⟨some d,.bin .xor (.t x) (.t y),none⟩ ::L) tm h nx=qy C Q L (aw d (some (lU (Qg a b))) tm) h nx:=
 tU (by simp only[lightOp,at_t,h1,h2];rfl)
theorem av3(a b:Nat)(h1:ag x tm=some (lU a))(h2:ag y tm=some (lU b)):qy C Q (⟨some d,.bin .or (.t x) (.t y),none⟩ ::L) tm h nx=qy C Q L (aw d (some (lU (orU a b))) tm) h nx:=
 tU (by simp only[lightOp,at_t,h1,h2];rfl)
theorem apc(a:Nat)(h1:ag x tm=some (lU a)):qy C Q (⟨some d,.bin .mul (.t x) (.v (.int .u64 (.lit 11400714819323198485))),none⟩ ::L) tm h nx=qy C Q L (aw d (some (lU (agI a 11400714819323198485))) tm) h nx:=
 tU (by simp only[lightOp,at_t,at_v,h1];show(match arith .mul .u64 (.lit (a:Int)) (.lit ((11400714819323198485:Nat):Int))with|some r=>some (AV.int .u64 r)|none=>none)=_;rw[ayb])
theorem ams(a:Nat)(h1:ag x tm=some (lU a)):qy C Q (⟨some d,.bin .shl (.t x) (.v (.int .u64 (.lit 8))),none⟩ ::L) tm h nx=qy C Q L (aw d (some (lU (adP a 8))) tm) h nx:=
 tU (by simp only[lightOp,at_t,at_v,h1];show some (AV.int .u64 (.lit (bD .u64 (Int.mul (a:Int) (.ofNat (Nat.pow 2 8))))))=_;rw[OY];rfl)
theorem akv(a:Nat)(h1:ag x tm=some (lU a)):qy C Q (⟨some d,.bin .shr (.t x) (.v (.int .u64 (.lit 32))),none⟩ ::L) tm h nx=qy C Q L (aw d (some (lU (a / 4294967296))) tm) h nx:=
 tU (by simp only[lightOp,at_t,at_v,h1];rfl)
end
def Nb(s w:Nat):Nat:=Qg (agI (Qg s w) 11400714819323198485) (agI (Qg s w) 11400714819323198485 / 4294967296)
variable{C:bP}{X:Kn}(S:Std C X)(H:O0 C)
include S H
theorem Zb(s w:Nat){h:T ah}{nx:Key}:aJ C gp [lU s,lU w] h nx (fun o h' nx'=>o=.ret (lU (Nb s w))∧h'=h∧nx'=nx):=by refine H.Tn.call ?_;simp[Tp];simp[PT];simp[PU,↓Xz s w,↓apc (Qg s w)];simp[PV,↓akv (agI (Qg s w) 11400714819323198485),↓Xz (agI (Qg s w) 11400714819323198485) (agI (Qg s w) 11400714819323198485 / 4294967296)];rfl
end Ln
namespace Ln
open Go.Sx Go
variable{C:bP}{X:Kn}(S:Std C X)
include S
end Ln
namespace Ln
open Go.Sx Go
def YQ(os:List Op)(k d q:Nat):Bool:=!(d.testBit q&&before (os.getD k default) (os.getD q default)) && !(!d.testBit q&&decide (0≤(os.getD q default).e)&&before (os.getD q default) (os.getD k default))
def TV(os:List Op)(k d:Nat):Bool:=!d.testBit k&&(List.range os.length).all (YQ os k d)
theorem aim{os:List Op}(hb:∀o∈os,before o o=false){k d q:Nat}(hk:k<os.length):YQ os k d q=axO os k d q:=by
 unfold YQ axO;by_cases e:q=k
 ·subst e;have:=hb _ (LA hk);rw[vq hk,this];simp
 ·have:(q==k)=false:=by simpa using e
  rw[this,Bool.false_or];cases d.testBit q<;>cases before (os.getD k default) (os.getD q default)<;>cases before (os.getD q default) (os.getD k default)<;>cases decide (0≤(os.getD q default).e)<;>rfl
theorem arp{os:List Op}(hb:∀o∈os,before o o=false){k d:Nat}(hk:k<os.length):TV os k d=Cw os k d:=by have:Cw os k d=(!d.testBit k&&(List.range os.length).all (axO os k d)):=rfl;rw[this];unfold TV;congr 1;rw[Bool.eq_iff_iff,sF,sF];exact⟨fun h q hq=>by rw[←aim hb hk];exact h q hq,fun h q hq=>by rw[aim hb hk];exact h q hq⟩
theorem ain{d k:Nat}(hd:d<65536):bD .i64 ((Q7 .i64 ((d.div (2^k):Nat):Int) &&& Q7 .i64 1:Nat):Int)=if d.testBit k=true then 1 else 0:=by
 have h1:d.div (2^k)≤d:=Nat.div_le_self _ _;have h2:Q7 .i64 ((d.div (2^k):Nat):Int)=d.div (2^k):=uq (by omega);have h3:Q7 .i64 1=1:=by decide
 rw[h2,h3,Nat.and_one_is_mod,aO (by omega) (by omega),Nat.testBit_eq_decide_div_mod_eq];show(((d / 2^k)%2:Nat):Int)=_;by_cases h:d / 2^k%2=1
 ·simp[h]
 ·have:d / 2^k%2=0:=by omega
  simp[this]
def TiI(X:Kn)(os:List Op)(cells:List AV)(cO:AV)(k d:Nat)(bj:Key)(h:T ah)(nx:Key)(m:Nat)(aD:T AV)(h':T ah)(nx':Key):Prop:=∃j:Nat,m=os.length-j∧j≤os.length∧ag (K 0) aD=some (.ptr bj 0)∧ag (K 1) aD=some (I k)∧ag (K 2) aD=some (I d)∧ag (K 18) aD=some cO∧ag (K 19) aD=some (I os.length)∧ag (K 20) aD=some (I j)∧ag bj h'=QZ cells∧Ext h nx h' nx'∧∀q,q<j→YQ os k d q=true
variable{C:bP}{X:Kn}(S:Std C X)
include S
theorem ajB{i:Nat}{os:List Op}(ho:os.length≤16){cO:AV}(hc:nW 10 eO cO os){s0:St}{en k d:Nat}(hk:k<os.length)(hd:d<65536){h:T ah}{nx bj:Key}(hb:ag bj h=QZ (jB X i cO s0 en))(FL:bj.toNat<nx.toNat) :
  aJ C eQ [.ptr bj 0,I k,I d] h nx (fun o h' nx'=>o=.ret (.bool (TV os k d))∧Ext h nx h' nx'):=by
 have rB:=S.r dX;have Vk:cO=.sl (aq eO os) os.length 10 .any:=by
  rcases hc with⟨_,rfl⟩|e
  ·simp at hk
  ·exact e
 subst Vk;have hr:=gV.rows os;have eck:=gV.at hk;have tk:10≤os.length*10-k*10:=by omega
 have DW:k≤64:=by omega
 refine S.sj.call ?_;simp[mv];simp[qt];have ab:=ain (k:=k) hd;cases ajC:d.testBit k with
 |true=>
  rw[ajC,if_pos rfl]at ab;have:TV os k d=false:=by unfold TV;rw[ajC];rfl
  simp[jC,NS,DW,ab];simp[qu];exact⟨this,Ext.refl _ _⟩
 |false=>
  rw[ajC,if_neg (by simp)]at ab;have KL:TV os k d=(List.range os.length).all (YQ os k d):=by unfold TV;rw[ajC];rfl
  simp[jC,NS,DW,ab];simp[qv,hb,jB];refine W.fh (n:=os.length) (TiI X os (jB X i (.sl (aq eO os) os.length 10 .any) s0 en) (.sl (aq eO os) os.length 10 .any) k d bj h nx) ⟨0,by simp,by omega,by simp,by simp,by simp,by simp,by simp,by simp,by simpa[jB]using hb,Ext.refl _ _,fun q hq=>absurd hq (by omega)⟩ ?_;rintro m dc h2 bu ⟨j,rfl,hj,g0,g1,g2,g18,g19,g20,bj2,e2,hq⟩;have n2:=e2.n;have s2:=kTSu bu;refine W.of ?_;simp[qw];by_cases da:j<os.length
  ·have L1:(j:Int)<os.length:=by omega
   have ecj:=gV.at da;have tj:10≤os.length*10-j*10:=by omega
   have j64:j≤64:=by omega
   have hoq:YQ os k d j=(!(d.testBit j&&before os[k] os[j]) && !(!d.testBit j&&decide (0≤os[j].e)&&before os[j] os[k])):=by unfold YQ;rw[vq da,vq hk]
   have hac:(eO os[j]).all AV.aM=true:=sF.2 (gV.cell _);have abj:=ain (k:=j) hd;simp[jD,g19,g20,L1];simp[qx,g18,g20,da,hr,tj,ecj,ajo,aaO,hac];have e3:=E0 h2 bu (.cells (eO os[j]) .fix);have bo3:ag bu (aw bu (QZ (eO os[j])) h2)=QZ (eO os[j]):=by simp
   have bj3:ag bj (aw bu (QZ (eO os[j])) h2)=QZ (jB X i (.sl (aq eO os) os.length 10 .any) s0 en):=by rw[e3.g bj (by omega)];exact bj2
   have UE:=e2.trans e3;generalize aw bu (QZ (eO os[j])) h2=h3 at *;have fail:YQ os k d j=false→∀h' nx',Ext h nx h' nx'→(TV os k d=false∧Ext h nx h' nx'):=fun hf h' nx' e'=>⟨by rw[KL,ass da hf],e'⟩;have next:∀(tm2:T AV) (h':T ah) (nx':Key),ag (K 0) tm2=some (.ptr bj 0)→ag (K 1) tm2=some (I k)→ag (K 2) tm2=some (I d)→ag (K 18) tm2=some (.sl (aq eO os) os.length 10 .any)→ag (K 19) tm2=some (I os.length)→ag (K 20) tm2=some (I j)→ag bj h'=QZ (jB X i (.sl (aq eO os) os.length 10 .any) s0 en)→Ext h nx h' nx'→YQ os k d j=true→
     qy C (aW (fun tm h' nx'=>∃m,m<os.length-j∧TiI X os (jB X i (.sl (aq eO os) os.length 10 .any) s0 en) (.sl (aq eO os) os.length 10 .any) k d bj h nx m tm h' nx') (aG 0 (aW (iT C (.seq (.ops je) .ret) (fQ [.tmp (K 6)] fun o h' nx'=>o=.ret (.bool (TV os k d))∧Ext h nx h' nx')) (fQ [.tmp (K 6)] fun o h' nx'=>o=.ret (.bool (TV os k d))∧Ext h nx h' nx')))) jE tm2 h' nx':=by
    intro tm2 h' nx' q0 q1 q2 q18 q19 q20 b' e' pB;simp[jE,q20];rw[aO (by omega) (by omega)];exact⟨os.length-(j+1),by omega,j+1,rfl,by omega,by simp[q0],by simp[q1],by simp[q2],by simp[q18],by simp[q19],by simp,b',e',ast hq pB⟩
   cases hbj:d.testBit j with
   |true=>
    rw[hbj,if_pos rfl]at abj;rw[hbj]at hoq;simp[jF,g2,NS,j64,abj];simp[gi,g0,g1,bj3,jB,bo3,hk,hr,tk,eck,aaO,ajo,rB,atT];refine(Lb S os[k] os[j] _ _).mono ?_;rintro o h4 kK ⟨rfl,e4⟩;have bj4:ag bj h4=QZ (jB X i (.sl (aq eO os) os.length 10 .any) s0 en):=by rw[e4.g bj (by omega)];exact bj3
    cases Gg:before os[k] os[j]with
    |true=>rw[Gg]at hoq;simp;simp[jG];exact fail (by rw[hoq];rfl) _ _ (UE.trans e4)
    |false=>rw[Gg]at hoq;simp;refine next _ _ _ ?_ ?_ ?_ ?_ ?_ ?_ bj4 (UE.trans e4) (by rw[hoq];rfl)<;>simp[g0,g1,g2,g18,g19,g20]
   |false=>
    rw[hbj,if_neg (by simp)]at abj;rw[hbj]at hoq;simp[jF,g2,NS,j64,abj];by_cases he:os[j].e<0
    ·have he2:¬0≤os[j].e:=by omega
     simp[he2]at hoq;have e2':(eO os[j])[2]?=some (I os[j].e):=rfl;simp[gi,g0,g1,bo3,e2',he];refine next _ _ _ ?_ ?_ ?_ ?_ ?_ ?_ bj3 UE hoq<;>simp[g0,g1,g2,g18,g19,g20]
    ·have he2:0≤os[j].e:=by omega
     simp[he2]at hoq;have e2':(eO os[j])[2]?=some (I os[j].e):=rfl;simp[gi,g0,g1,bj3,jB,bo3,hk,hr,tk,eck,aaO,ajo,rB,atT,e2',he];refine(Lb S os[j] os[k] _ _).mono ?_;rintro o h4 kK ⟨rfl,e4⟩;have bj4:ag bj h4=QZ (jB X i (.sl (aq eO os) os.length 10 .any) s0 en):=by rw[e4.g bj (by omega)];exact bj3
     cases Gg:before os[j] os[k]with
     |true=>rw[Gg]at hoq;simp;simp[jG];exact fail (by rw[hoq];rfl) _ _ (UE.trans e4)
     |false=>rw[Gg]at hoq;simp;refine next _ _ _ ?_ ?_ ?_ ?_ ?_ ?_ bj4 (UE.trans e4) (by rw[hoq];rfl)<;>simp[g0,g1,g2,g18,g19,g20]
  ·have Jk:j=os.length:=by omega
   subst Jk;have fin:TV os k d=true:=by rw[KL];exact aoI hq
   simp[jD,g19,g20];simp[je];exact⟨fin,e2⟩
end Ln
namespace Go.Sx
def aiC(ds:List Key):List Xu:=ds.map Xu.coll
abbrev qo:=Ex→List Key→T AV→T ah→Key→Prop
def sD(af:mB)(ds:List Key):mB:={af with dfs:=aiC ds++af.dfs}
def aC9(Q:qo)(af:mB)(k:List de)(cs:List mB)(m:AM):Prop:=∃e ds aD h' nx' fr,Q e ds aD h' nx'∧Aft (sD af ds) k e aD fr∧m=⟨fr,cs,h',nx'⟩
def VI(C:bP)(x:de)(Q:qo)(ds:List Key)(tm:T AV)(h:T ah)(nx:Key):Prop:=
 ∀(af:mB) (k:List de) (cs:List mB),af.mode=.run→af.vm=none→Ev C (aC9 Q af k cs) ⟨{sD af ds with tm:=tm,todo:=x ::k},cs,h,nx⟩
abbrev V(C:bP)(c:aK):qo→List Key→T AV→T ah→Key→Prop:=VI C (.code c)
section
variable{C:bP}{Q Q':qo}{ds:List Key}{tm:T AV}{h:T ah}{nx:Key}
theorem VI.mono{x:de}(hw:VI C x Q ds tm h nx)(hq:∀e ds tm h nx,Q e ds tm h nx→Q' e ds tm h nx):VI C x Q' ds tm h nx:=by intro af k cs h1 h2;refine(hw af k cs h1 h2).mono ?_;rintro m ⟨e,Ce,aD,h',nx',fr,q,a,t⟩;exact⟨e,Ce,aD,h',nx',fr,hq _ _ _ _ _ q,a,t⟩
theorem V.acO{c:aK}(hw:W C c (fun e tm h nx=>Q e ds tm h nx) tm h nx):V C c Q ds tm h nx:=by intro af k cs h1 h2;refine(hw (sD af ds) k cs h1 trivial).mono ?_;rintro m ⟨e,aD,h',nx',fr,q,a,t⟩;exact⟨e,ds,aD,h',nx',fr,q,a,t⟩
def Zu(Wp:List Key→T AV→T ah→Key→Prop)(Q:qo):qo:=fun e ds tm h nx=>match e with
 |.norm=>Wp ds tm h nx
 |e=>Q e ds tm h nx
def xh(id:Nat)(Q:qo):qo:=fun e ds tm h nx=>match e with
 |.exit j=>if j=id then Q .norm ds tm h nx else Q (.exit j) ds tm h nx
 |e=>Q e ds tm h nx
theorem V.seq{a b:aK}(hw:V C a (Zu (V C b Q) Q) ds tm h nx):V C (.seq a b) Q ds tm h nx:=by
 intro af k cs h1 h2;refine .step (m':=⟨{sD af ds with tm:=tm,todo:=.code a ::.code b ::k},cs,h,nx⟩) (bz h1 rfl) ((hw af (.code b ::k) cs h1 h2).bind ?_);rintro m ⟨e,Ce,aD,h',nx',fr,q,ha,rfl⟩;cases e with
 |norm=>cases ha;exact q af k cs h1 h2
 |ret=>exact .now ⟨.ret,Ce,aD,h',nx',fr,q,ha,rfl⟩
 |exit id=>obtain⟨k2,e1,e2⟩:=ha;exact .now ⟨.exit id,Ce,aD,h',nx',fr,q,⟨k2,e1,e2⟩,rfl⟩
 |pan a=>exact .now ⟨.pan a,Ce,aD,h',nx',fr,q,ha,rfl⟩
theorem V.cond{x:PX}{a b:aK}{t:Bool}(hx:x.at tm=some (.bool t))(hw:V C (if t then a else b) Q ds tm h nx):V C (.cond x a b) Q ds tm h nx:=by intro af k cs h1 h2;refine .step (m':=⟨{sD af ds with tm:=tm,todo:=.code (if t then a else b) ::k},cs,h,nx⟩) (bz h1 ?_) (hw af k cs h1 h2);simp only[b9,hx];cases t<;>rfl
theorem V.block{id:Nat}{c:aK}(hw:V C c (xh id Q) ds tm h nx):V C (.block id c) Q ds tm h nx:=by
 intro af k cs h1 h2;refine .step (m':=⟨{sD af ds with tm:=tm,todo:=.code c ::.inBlock id ::k},cs,h,nx⟩) (bz h1 rfl) ((hw af (.inBlock id ::k) cs h1 h2).bind ?_);rintro m ⟨e,Ce,aD,h',nx',fr,q,ha,rfl⟩;cases e with
 |norm=>cases ha;exact .step (m':=⟨{sD af Ce with tm:=aD,todo:=k},cs,h',nx'⟩) (bz h1 rfl) (.now ⟨.norm,Ce,aD,h',nx',_,q,rfl,rfl⟩)
 |ret=>exact .now ⟨.ret,Ce,aD,h',nx',fr,q,ha,rfl⟩
 |exit j=>
  obtain⟨k2,e1,rfl⟩:=ha;by_cases hj:j=id
  ·subst hj;simp only[xh,if_true]at q;refine .step (m':=⟨{sD af Ce with tm:=aD,todo:=k},cs,h',nx'⟩) (bz h1 ?_) (.now ⟨.norm,Ce,aD,h',nx',_,q,rfl,rfl⟩);simp only[b9,e1,mG,beqN_eq,decide_true,cond_true]
  ·simp only[xh,if_neg hj]at q;refine .now ⟨.exit j,Ce,aD,h',nx',_,q,⟨k2,?_,rfl⟩,rfl⟩;rw[e1];simp only[mG,beqN_eq,show ¬id=j from fun e=>hj e.symm,decide_false,cond_false]
 |pan a=>exact .now ⟨.pan a,Ce,aD,h',nx',fr,q,ha,rfl⟩
theorem V.fh{c:aK}(Inv:Nat→List Key→T AV→T ah→Key→Prop){n:Nat}(hi:Inv n ds tm h nx)
  (hw:∀n ds tm h nx,Inv n ds tm h nx→V C c (Zu (fun ds tm h nx=>∃m,m<n∧Inv m ds tm h nx) Q) ds tm h nx):V C (.loop c) Q ds tm h nx:=by
 have key:∀(n:Nat) (ds:List Key) (tm:T AV) (h:T ah) (nx:Key),Inv n ds tm h nx→VI C (.inLoop c) Q ds tm h nx:=by
  intro n
  induction n using Nat.strongRecOn with
  |_ n ih=>
   intro ds tm h nx hi af k cs h1 h2;refine .step (m':=⟨{sD af ds with tm:=tm,todo:=.code c ::.inLoop c ::k},cs,h,nx⟩) (bz h1 rfl) ((hw n ds tm h nx hi af (.inLoop c ::k) cs h1 h2).bind ?_);rintro m ⟨e,Ce,aD,h',nx',fr,q,ha,rfl⟩;cases e with
   |norm=>cases ha;obtain⟨m,hm,him⟩:=q;exact ih m hm Ce aD h' nx' him af k cs h1 h2
   |ret=>exact .now ⟨.ret,Ce,aD,h',nx',fr,q,ha,rfl⟩
   |exit id=>obtain⟨k2,e1,e2⟩:=ha;exact .now ⟨.exit id,Ce,aD,h',nx',fr,q,⟨k2,e1,e2⟩,rfl⟩
   |pan a=>exact .now ⟨.pan a,Ce,aD,h',nx',fr,q,ha,rfl⟩
 intro af k cs h1 h2;refine .step (m':=⟨{sD af ds with tm:=tm,todo:=.code c ::.inLoop c ::k},cs,h,nx⟩) (bz h1 rfl) ((hw n ds tm h nx hi af (.inLoop c ::k) cs h1 h2).bind ?_);rintro m ⟨e,Ce,aD,h',nx',fr,q,ha,rfl⟩;cases e with
 |norm=>cases ha;obtain⟨m,hm,him⟩:=q;exact key m Ce aD h' nx' him af k cs h1 h2
 |ret=>exact .now ⟨.ret,Ce,aD,h',nx',fr,q,ha,rfl⟩
 |exit id=>obtain⟨k2,e1,e2⟩:=ha;exact .now ⟨.exit id,Ce,aD,h',nx',fr,q,⟨k2,e1,e2⟩,rfl⟩
 |pan a=>exact .now ⟨.pan a,Ce,aD,h',nx',fr,q,ha,rfl⟩
def aLc(Q:qo):Option aK→List Key→T AV→T ah→Key→Prop
 |none,ds,tm,h,nx=>Q .norm ds tm h nx
 |some .ret,ds,tm,h,nx=>Q .ret ds tm h nx
 |some (.exit i),ds,tm,h,nx=>Q (.exit i) ds tm h nx
 |some _,_,_,_,_=>False
def aiv(Q:qo)(d l:Key)(fn:Nat)(tm:T AV)(res:List RV)(ps:List Key)(a b:aK)(ds:List Key):Out→T ah→Key→Prop:=fun o h' nx'=>∃v,o=.ret v∧∃st pd,ag l h'=some (.loop st pd fn tm res ps a b d)∧st≠.busy∧aLc Q pd (d ::ds) tm (aw l (some (.loop .exhausted pd fn tm res ps a b d)) h') nx'
noncomputable def qp(fn:Nat)(tm:T AV)(res:List RV)(ps:List Key)(a b:aK)(h:T ah)(nx:Key):T ah:=aw nx.succ (some (.loop .ready none fn tm res ps a b nx)) (aw nx (some (.dfs false)) h)
theorem V.rangeF{f:PX}{ps:List Key}{a b:aK}{g:Nat}{first cap:List AV}(hf:f.at tm=some (.fn g first cap))(hs:∀l h nx,C.sum g l h nx=none)
  (hc:∀fn res,aJ C g (first ++ .yld nx.succ ::cap) (qp fn tm res ps a b h nx) nx.succ.succ (aiv Q nx nx.succ fn tm res ps a b ds)):V C (.rangeF f ps a b) Q ds tm h nx:=by
 intro af k cs h1 h2;rcases hc af.fn af.res with⟨v,h',nx',e,_⟩|⟨_,p,hp,eM⟩
 ·rw[hs]at e;cases e
 ·refine .step (m':=⟨ai g p (first ++ .yld nx.succ ::cap),{sD af (nx ::ds)with tm:=tm,todo:=.inRF nx.succ ::k} ::cs,qp af.fn tm af.res ps a b h nx,nx.succ.succ⟩) (bz h1 ?_) ((eM _).bind ?_)
  ·have hp':(bif Nat.beq (Key.fP 12 g).toNat g then ag (Key.fP 12 g) C.fns else none)=some p:=hp;have hr:(sD af ds).vm=none:=h2;simp only[b9,hf,hr,sTCe,GH,hp',DD];have N9:(sD af (nx ::ds)).vm=none:=h2;rw[N9];rfl
  ·rintro m2 ⟨o,h',nx',I6,h3,⟨v,rfl,st,pd,hl,fj,hq⟩,hfn,hdf,⟨hd,MI,l,WA,rfl,rfl⟩,rfl⟩;have e1:iI C ⟨I6,{sD af (nx ::ds)with tm:=tm,todo:=.inRF nx.succ ::k} ::cs,h3,nx'⟩=.next ⟨{sD af (nx ::ds)with tm:=tm,todo:=.endRF nx.succ ::k},cs,(cw (C.ma g) l h3).2,nx'⟩:=by unfold iI;simp only[MI];unfold AU;simp only[hd,MI,WA,hfn,yZ];unfold L6;simp only[hdf,cond_false,cY]
   refine .step e1 ?_;refine .step (m':=⟨{sD af (nx ::ds)with tm:=tm,todo:=(pd.map de.code).toList++k},cs,aw nx.succ (some (.loop .exhausted pd af.fn tm af.res ps a b nx)) (cw (C.ma g) l h3).2,nx'⟩) (bz h1 ?_) ?_
   ·cases st with
    |busy=>exact absurd rfl fj
    |_=>simp only[b9,hl,sTCe];cases pd<;>rfl
   ·cases pd with
    |none=>exact .now ⟨.norm,_,_,_,_,_,hq,rfl,rfl⟩
    |some c=>
     cases c with
     |ret=>exact .now ⟨.ret,_,_,_,_,_,hq,⟨k,rfl⟩,rfl⟩
     |exit i=>exact .now ⟨.exit i,_,_,_,_,_,hq,⟨k,rfl,rfl⟩,rfl⟩
     |_=>exact hq.elim
end
noncomputable def P7(C:bP):aK→qo→List Key→T AV→T ah→Key→Prop
 |.seq a b,Q,ds,tm,h,nx=>P7 C a (Zu (P7 C b Q) Q) ds tm h nx
 |.cond x a b,Q,ds,tm,h,nx=>match x.at tm with
  |some (.bool t)=>(t=true→P7 C a Q ds tm h nx)∧(t=false→P7 C b Q ds tm h nx)
  |_=>False
 |.block id c,Q,ds,tm,h,nx=>P7 C c (xh id Q) ds tm h nx
 |.loop c,Q,ds,tm,h,nx=>V C (.loop c) Q ds tm h nx
 |.rangeF f ps a b,Q,ds,tm,h,nx=>V C (.rangeF f ps a b) Q ds tm h nx
 |.skip,Q,ds,tm,h,nx=>Q .norm ds tm h nx
 |.exit id,Q,ds,tm,h,nx=>Q (.exit id) ds tm h nx
 |.ret,Q,ds,tm,h,nx=>Q .ret ds tm h nx
 |.ops l,Q,ds,tm,h,nx=>qy C (fun e tm h nx=>Q e ds tm h nx) l tm h nx
 |.staged l d,Q,ds,tm,h,nx=>wpS C (fun e tm h nx=>Q e ds tm h nx) d l [] tm h nx
 |.both _ _ _ _,_,_,_,_,_=>False
section
variable{C:bP}
theorem uV:∀{c:aK} {Q:qo} {ds:List Key} {tm:T AV} {h:T ah} {nx:Key},P7 C c Q ds tm h nx→V C c Q ds tm h nx
 |.seq a b,Q,ds,tm,h,nx,hw=>by
  have hw:P7 C a (Zu (P7 C b Q) Q) ds tm h nx:=hw;refine V.seq ((uV hw).mono fun e ds tm h nx hq=>?_);cases e with
  |norm=>exact uV hq
  |_=>exact hq
 |.cond x a b,Q,ds,tm,h,nx,hw=>by
  unfold P7 at hw;split at hw
  ·rename_i t hx;refine V.cond hx ?_;cases t with
   |true=>exact uV (hw.1 rfl)
   |false=>exact uV (hw.2 rfl)
  ·exact hw.elim
 |.block id c,Q,ds,tm,h,nx,hw=>by have hw:P7 C c (xh id Q) ds tm h nx:=hw;exact V.block (uV hw)
 |.loop c,Q,ds,tm,h,nx,hw=>hw
 |.rangeF f ps a b,Q,ds,tm,h,nx,hw=>hw
 |.skip,Q,ds,tm,h,nx,hw=>V.acO (W.skip hw)
 |.exit id,Q,ds,tm,h,nx,hw=>V.acO (W.exit hw)
 |.ret,Q,ds,tm,h,nx,hw=>V.acO (W.ret hw)
 |.ops l,Q,ds,tm,h,nx,hw=>V.acO (W.ops (Dc hw))
 |.staged l d,Q,ds,tm,h,nx,hw=>V.acO (W.staged (uJ hw))
 |.both _ _ _ _,_,_,_,_,_,hw=>hw.elim
variable(Q:qo)(ds:List Key)(tm:T AV)(h:T ah)(nx:Key)
@[simp] theorem aEZ(a b:aK):P7 C (.seq a b) Q ds tm h nx=P7 C a (Zu (P7 C b Q) Q) ds tm h nx:=yC Iff.rfl
@[simp] theorem aDa(x:PX)(a b:aK):P7 C (.cond x a b) Q ds tm h nx=(match x.at tm with
  |some (.bool t)=>(t=true→P7 C a Q ds tm h nx)∧(t=false→P7 C b Q ds tm h nx)
  |_=>False):=yC Iff.rfl
@[simp] theorem azS(id:Nat)(c:aK):P7 C (.block id c) Q ds tm h nx=P7 C c (xh id Q) ds tm h nx:=yC Iff.rfl
@[simp] theorem aDb(c:aK):P7 C (.loop c) Q ds tm h nx=V C (.loop c) Q ds tm h nx:=yC Iff.rfl
@[simp] theorem ayo(f:PX)(ps:List Key)(a b:aK):P7 C (.rangeF f ps a b) Q ds tm h nx=V C (.rangeF f ps a b) Q ds tm h nx:=yC Iff.rfl
@[simp] theorem aDc:P7 C .skip Q ds tm h nx=Q .norm ds tm h nx:=yC Iff.rfl
@[simp] theorem aDd(id:Nat):P7 C (.exit id) Q ds tm h nx=Q (.exit id) ds tm h nx:=yC Iff.rfl
@[simp] theorem aE0:P7 C .ret Q ds tm h nx=Q .ret ds tm h nx:=yC Iff.rfl
def atD(Q:qo)(ds:List Key):cH:=fun e tm h nx=>Q e ds tm h nx
@[simp] theorem aLd(e:Ex):atD Q ds e tm h nx=Q e ds tm h nx:=yC Iff.rfl
@[simp] theorem aE1(l:List aC):P7 C (.ops l) Q ds tm h nx=qy C (atD Q ds) l tm h nx:=yC Iff.rfl
@[simp] theorem ayp(l:List aN)(d:SD):P7 C (.staged l d) Q ds tm h nx=wpS C (atD Q ds) d l [] tm h nx:=yC Iff.rfl
@[simp] theorem azT(Wp:List Key→T AV→T ah→Key→Prop):Zu Wp Q .norm ds tm h nx=Wp ds tm h nx:=yC Iff.rfl
@[simp] theorem aDe(Wp:List Key→T AV→T ah→Key→Prop):Zu Wp Q .ret ds tm h nx=Q .ret ds tm h nx:=yC Iff.rfl
@[simp] theorem azU(Wp:List Key→T AV→T ah→Key→Prop)(i:Nat):Zu Wp Q (.exit i) ds tm h nx=Q (.exit i) ds tm h nx:=yC Iff.rfl
@[simp] theorem aDf(Wp:List Key→T AV→T ah→Key→Prop)(a:AV):Zu Wp Q (.pan a) ds tm h nx=Q (.pan a) ds tm h nx:=yC Iff.rfl
@[simp] theorem au3(j:Nat):xh j Q .norm ds tm h nx=Q .norm ds tm h nx:=yC Iff.rfl
@[simp] theorem ayq(j:Nat):xh j Q .ret ds tm h nx=Q .ret ds tm h nx:=yC Iff.rfl
@[simp] theorem au4(j i:Nat):xh j Q (.exit i) ds tm h nx=if i=j then Q .norm ds tm h nx else Q (.exit i) ds tm h nx:=yC Iff.rfl
@[simp] theorem ayr(j:Nat)(a:AV):xh j Q (.pan a) ds tm h nx=Q (.pan a) ds tm h nx:=yC Iff.rfl
end
def aoN(res:List RV)(R:Out→T ah→Key→Prop):qo:=fun e ds tm h nx=>match e with
 |.norm|.ret=>ds.Nodup∧(∀b∈ds,ag b h=some (.dfs false))∧∀h2:T ah,(∀b,b∉ds→ag b h2=ag b h)→∃l,resultsA h2 tm res=some l∧R (.ret (nM (bA (aS 9999) l h2).1)) (bA (aS 9999) l h2).2 nx
 |_=>False
theorem P8{C:bP}{S:AM→Prop}:∀(ds:List Key) (fr:mB) (cs:List mB) (h:T ah) (nx:Key),ds.Nodup→(∀b∈ds,ag b h=some (.dfs false))→fr.mode=.ret→fr.dfs=aiC ds→
  (∀h2:T ah,(∀b,b∉ds→ag b h2=ag b h)→Ev C S ⟨{fr with dfs:=[]},cs,h2,nx⟩)→Ev C S ⟨fr,cs,h,nx⟩
 | [],fr,cs,h,nx,_,_,_,hd,hk=>by
  have:=hk h (fun _ _=>rfl);have e:({fr with dfs:=[]}:mB)=fr:=by cases fr;cases hd;rfl
  rw[e]at this;exact this
 |b ::ds,fr,cs,h,nx,hn,hb,hm,hd,hk=>by
  rw[List.nodup_cons]at hn;refine .step (m':=⟨{fr with dfs:=aiC ds},cs,aw b (some (.dfs true)) h,nx⟩) ?_ (P8 ds _ cs _ nx hn.2 (fun c hc=>?_) hm rfl fun h2 h3=>?_)
  ·have hd:fr.dfs=.coll b ::aiC ds:=hd;unfold iI;simp only[hm];unfold AU;simp only[hd,hb b (by simp),sTCe,hm]
  ·rw[aP _ _ _ _ (fun e=>hn.1 (by rw[←e];exact hc))];exact hb c (by simp[hc])
  ·refine hk h2 fun c hc=>?_;simp only[GP,not_or]at hc;rw[h3 c hc.2,aP _ _ _ _ hc.1]
theorem aJ.aK8{C:bP}{f:Nat}{p:fq}{l:List AV}{h:T ah}{nx:Key}{R:Out→T ah→Key→Prop}(hs:C.sum f l h nx=none)(hp:HA C f=some p)(hr:C.ma f=false)(hw:V C p.body (aoN p.res R) [] (ic l (K 0) .nil) h nx):aJ C f l h nx R:=by
 refine .inr ⟨hs,p,hp,fun cs=>(hw (ai f p l) [] cs rfl rfl).bind ?_⟩;have fin:∀(aD:T AV) (t:List de) (ds:List Key) (h':T ah) (nx':Key),ds.Nodup→(∀b∈ds,ag b h'=some (.dfs false))→(∀h2:T ah,(∀b,b∉ds→ag b h2=ag b h')→∃l,resultsA h2 aD p.res=some l∧R (.ret (nM (bA (aS 9999) l h2).1)) (bA (aS 9999) l h2).2 nx')→
   Ev C (aCG C f R cs) ⟨{sD (ai f p l) ds with tm:=aD,todo:=t,mode:=.ret},cs,h',nx'⟩:=by
  intro aD t ds h' nx' q1 q2 q3;refine P8 ds _ cs h' nx' q1 q2 rfl (List.append_nil _) fun h2 h3=>?_;obtain⟨l1,hl,hR⟩:=q3 h2 h3;refine .now ⟨_,_,nx',_,h2,hR,rfl,rfl,⟨rfl,rfl,l1,hl,?_,?_⟩,rfl⟩<;>rw[hr]<;>rfl
 rintro m ⟨e,ds,aD,h',nx',fr,q,ha,rfl⟩;cases e with
 |norm=>cases ha;exact .step (m':=⟨{sD (ai f p l) ds with tm:=aD,todo:=[],mode:=.ret},cs,h',nx'⟩) (bz rfl rfl) (fin _ _ _ _ _ q.1 q.2.1 q.2.2)
 |ret=>obtain⟨t',rfl⟩:=ha;exact .step (m':=⟨{sD (ai f p l) ds with tm:=aD,todo:=.code .ret ::t',mode:=.ret},cs,h',nx'⟩) (bz rfl rfl) (fin _ _ _ _ _ q.1 q.2.1 q.2.2)
 |exit id=>exact q.elim
 |pan a=>exact q.elim
theorem CI.mono{C:bP}{l:Key}{args:List AV}{h:T ah}{nx:Key}{R R':Out→T ah→Key→Prop}(hy:CI C l args h nx R)(hr:∀o h nx,R o h nx→R' o h nx):CI C l args h nx R':=by
 obtain⟨fn,tm,res,ps,a,b,d,hl,dc,hz,hw⟩:=hy;refine⟨fn,tm,res,ps,a,b,d,hl,dc,hz,hw.mono ?_⟩;rintro e tm2 h2 bu ⟨he,p,hp,hw2⟩;refine⟨he,p,hp,hw2.mono ?_⟩;rintro e3 Eu h3 dZ ⟨hp3,q⟩;refine⟨hp3,?_⟩;cases e3 with
 |norm=>exact hr _ _ _ q
 |ret=>exact hr _ _ _ q
 |exit i=>exact hr _ _ _ q
 |pan a=>exact q
end Go.Sx
namespace Ln
open Go.Sx Go
theorem Tr(os:List Op)(q:Nat):∀n:Nat,(im os n).testBit q=(decide (q<n)&&decide (0≤(os.getD q default).e))
 |0=>by simp[im]
 |n+1=>by
  unfold im;have ih:=Tr os q n;by_cases he:0≤(os.getD n default).e
  ·rw[if_pos he,Nat.testBit_or,ih,Nat.testBit_two_pow];by_cases e:n=q
   ·subst e;simp;simpa using he
   ·by_cases hq:q<n
    ·simp[hq,show q<n+1 by omega,e]
    ·simp[hq,show ¬q<n+1 by omega,e]
  ·rw[if_neg he,ih];by_cases e:q=n
   ·subst e;simp;simpa using he
   ·by_cases hq:q<n
    ·simp[hq,show q<n+1 by omega]
    ·simp[hq,show ¬q<n+1 by omega]
theorem arn(os:List Op)(d:Nat):(d &&& im os os.length=im os os.length)↔FP os d=true:=by
 unfold FP;rw[sF];constructor
 ·intro h q hq;have hq:=List.mem_range.1 hq;have h2:=congrArg (fun x=>Nat.testBit x q) h;simp only[Nat.testBit_and,Tr,hq,decide_true,Bool.true_and]at h2;cases h3:decide (0≤(os.getD q default).e)with
  |false=>rfl
  |true=>rw[h3,Bool.and_true]at h2;rw[h2];rfl
 ·intro h;apply Nat.eq_of_testBit_eq;intro q;rw[Nat.testBit_and,Tr];by_cases hq:q<os.length
  ·have:=h q (List.mem_range.2 hq);cases h3:decide (0≤(os.getD q default).e)with
   |false=>simp
   |true=>rw[h3]at this;simp at this;simp[hq,this]
  ·simp[hq]
variable{C:bP}{X:Kn}(S:Std C X)
include S
theorem ahq{i:Nat}{os:List Op}(ho:os.length≤16){cO:AV}{s0:St}{c:Cf St}(hd:c.1<65536){h:T ah}{nx bj:Key}(hb:ag bj h=QZ (jB X i cO s0 (im os os.length)))(FL:bj.toNat<nx.toNat) :
  aJ C cq [.ptr bj 0,.agg (eC c)] h nx (fun o h' nx'=>o=.ret (.bool (FP os c.1))∧Ext h nx h' nx'):=by
 refine S.ql.call ?_;simp[kR];simp[oe,Te,ED];have e0:=E0 h nx (.cells (eC c) .fix);have bc:ag nx (aw nx (QZ (eC c)) h)=QZ (eC c):=by simp
 have bj1:ag bj (aw nx (QZ (eC c)) h)=QZ (jB X i cO s0 (im os os.length)):=by rw[e0.g bj FL];exact hb
 generalize aw nx (QZ (eC c)) h=h1 at *;have elt:=Yr os os.length;have p16:=zC (j:=os.length) ho;have hl1:Q7 .i64 (c.1:Int)=c.1:=uq (by omega);have WA:Q7 .i64 ((im os os.length:Nat):Int)=im os os.length:=uq (by omega);have hle:c.1 &&& im os os.length≤c.1:=Nat.and_le_left;have hw:bD .i64 ((c.1 &&& im os os.length:Nat):Int)=((c.1 &&& im os os.length:Nat):Int):=aO (by omega) (by omega);have ec0:(eC c)[0]?=some (I c.1):=rfl;simp[og,bc,bj1,jB,ec0,hl1,WA,hw];refine⟨?_,e0⟩;rw[Bool.eq_iff_iff,beq_iff_eq,←arn];omega
theorem ajz{bj:Key}{c:Cf St}{h:T ah}{nx:Key}:aJ C fD [.ptr bj 0,.agg (eC c)] h nx (fun o h' nx'=>o=.ret (.fn bZ [] [.ptr nx 0,.ptr nx.succ 0])∧ag nx h'=QZ [.ptr bj 0]∧ag nx.succ h'=QZ (eC c)∧nx'=nx.succ.succ∧Ext h nx h' nx'):=by have s1:=kTSu nx;have s2:=kTSu nx.succ;refine S.tv.call ?_;simp[nU];simp[rQ,Te,ED];simp[rX];exact(E0 h nx _).trans (E0 _ nx.succ _)
structure aw5(C:bP)(X:Kn)(i:Nat)(os:List Op)(cO:AV)(s0:St)(bj b2 b3 lk:Key)(c:Cf St)(Inv:Nat→T ah→Key→Prop)(R:Out→T ah→Key→Prop):Prop where
 cv:∀k h nx h' nx',Inv k h nx→Ext h nx h' nx'→Inv k h' nx'
 has:∀k h nx,Inv k h nx→ag bj h=QZ (jB X i cO s0 (im os os.length))∧ag b2 h=QZ [.ptr bj 0]∧ag b3 h=QZ (eC c)∧bj.toNat<nx.toNat∧b2.toNat<nx.toNat∧b3.toNat<nx.toNat
 skip:∀k h nx,k<os.length→(aY X i os).step c k=none→Inv k h nx→Inv (k+1) h nx
 yld:∀k x h nx,k<os.length→(aY X i os).step c k=some (k,x)→Inv k h nx→CI C lk [I k,.agg (eC x)] h nx (fun o h' nx'=>(o=.ret (.bool true)∧Inv (k+1) h' nx')∨(o=.ret (.bool false)∧R (.ret (.tuple [])) h' nx'))
 fin:∀h nx,Inv os.length h nx→R (.ret (.tuple [])) h nx
def S1I(os:List Op)(b2 b3 lk:Key)(Inv:Nat→T ah→Key→Prop)(m:Nat)(aD:T AV)(h':T ah)(nx':Key):Prop:=∃k:Nat,m=os.length-k∧k≤os.length∧ag (K 0) aD=some (.yld lk)∧ag (K 1) aD=some (.ptr b2 0)∧ag (K 2) aD=some (.ptr b3 0)∧ag (K 11) aD=some (I os.length)∧ag (K 12) aD=some (I k)∧Inv k h' nx'
theorem ajA{i:Nat}(hi:i<3){os:List Op}(BK:yx i os=0)(wK:∀o∈os,before o o=false)(ho:os.length≤16){cO:AV}(hc:nW 10 eO cO os){s0:St}{bj b2 b3 lk:Key}{c:Cf St}(hd:c.1<65536)(hs:jL i c.2){Inv:Nat→T ah→Key→Prop}{R:Out→T ah→Key→Prop}(A:aw5 C X i os cO s0 bj b2 b3 lk c Inv R){h:T ah}{nx:Key}(h0:Inv 0 h nx) :
  aJ C bZ [.yld lk,.ptr b2 0,.ptr b3 0] h nx R:=by
 have rT:=S.r eQ;have rP:=S.r cU;refine S.jd.call ?_;simp[kj];obtain⟨bj0,b20,b30,_⟩:=A.has _ _ _ h0;have start:∀n:Nat,n=os.length→W C (.loop iv) (aG 0 (fQ [] R)) (aw (K 12) (some (I 0)) (aw (K 11) (some (I n)) (aw (K 10) (some cO) (aw (K 9) (some (.ptr bj 2)) (aw (K 8) (some (.ptr bj 0)) (aw (K 7) (some (.ptr bj 0)) (aw (K 2) (some (.ptr b3 0)) (aw (K 1) (some (.ptr b2 0)) (aw (K 0) (some (.yld lk)) .nil))))))))) h nx:=by
  rintro _ rfl;refine W.fh (n:=os.length) (S1I os b2 b3 lk Inv) ⟨0,by simp,by omega,by simp,by simp,by simp,by simp,by simp,h0⟩ ?_;rintro m dc h1 bw ⟨k,rfl,hk,g0,g1,g2,g11,g12,h1k⟩;obtain⟨bj1,b21,b31,ltj,lt2,lt3⟩:=A.has _ _ _ h1k;refine W.of ?_;simp[iv];by_cases UB:k<os.length
  ·have hki:(k:Int)<os.length:=by omega
   have ec0:(eC c)[0]?=some (I c.1):=rfl;simp[iw,g11,g12,hki];simp[nj,g12];simp[nq,g1,g2,b21,b31,ec0,rT];refine(ajB S ho hc UB hd bj1 ltj).mono ?_;rintro o h2 bu ⟨rfl,e2⟩;rw[arp wK UB];have n2:=e2.n;have h2k:=A.cv _ _ _ _ _ h1k e2;obtain⟨bj2,b22,b32,aIX,aRt,aRu⟩:=A.has _ _ _ h2k;have next:∀(tm2:T AV) (h':T ah) (nx':Key),ag (K 0) tm2=some (.yld lk)→ag (K 1) tm2=some (.ptr b2 0)→ag (K 2) tm2=some (.ptr b3 0)→ag (K 11) tm2=some (I os.length)→ag (K 12) tm2=some (I k)→Inv (k+1) h' nx'→
     qy C (aW (fun tm h nx=>∃m,m<os.length-k∧S1I os b2 b3 lk Inv m tm h nx) (aG 0 (fQ [] R))) iy tm2 h' nx':=by
    intro tm2 h' nx' q0 q1 q2 q11 q12 hI;simp[iy,q12];rw[aO (by omega) (by omega)];exact⟨os.length-(k+1),by omega,k+1,rfl,by omega,by simp[q0],by simp[q1],by simp[q2],by simp[q11],by simp,hI⟩
   have fj:(aY X i os).step c k=if Cw os k c.1=true then(X.take (cm i os[k]) os[k] c.2).map (fun s=>(k,(c.1+2^k,s)))else none:=by rw[ajn,vq UB]
   cases lf:Cw os k c.1 with
   |false=>rw[lf]at fj;simp;refine next _ _ _ ?_ ?_ ?_ ?_ ?_ (A.skip _ _ _ UB (by rw[fj];rfl) h2k)<;>simp[g0,g1,g2,g11,g12]
   |true=>
    rw[lf,if_pos rfl]at fj;have hco:=XH hi BK (pY UB);have tk:List.take 4 (eC c).tail=eS c.2:=rfl;have ajC:c.1.testBit k=false:=Ra X i os k c.1 lf;simp;simp[ns,g1,g2,b22,b32,ED,tk,rP,Cx];refine(aa0 S hc hco hs bj2 aIX).mono ?_;rintro o h3 dZ ⟨⟨u,rfl,hu⟩,e3⟩;have n3:=e3.n;have s3:=kTSu dZ;simp[CB,lenS,aaN];have e4:=E0 h3 dZ (.cells (eS u) .fix);have b5:ag dZ (aw dZ (QZ (eS u)) h3)=QZ (eS u):=by simp
    generalize aw dZ (QZ (eS u)) h3=h4 at *;have h4k:=A.cv _ _ _ _ _ h2k (e3.trans e4);obtain⟨bj4,b24,b34,aRw,aRx,aRy⟩:=A.has _ _ _ h4k;cases ht:X.take (cm i os[k]) os[k] c.2 with
    |none=>rw[ht]at fj;simp[iz];refine next _ _ _ ?_ ?_ ?_ ?_ ?_ (A.skip _ _ _ UB fj h4k)<;>simp[g0,g1,g2,g11,g12]
    |some v=>
     rw[ht]at fj;have:=hu v ht;subst this;have hsh:NS .i64 k=true:=by unfold NS;exact Nat.ble_eq_true_of_le (by omega)
     have hp2:2^k≤65536:=zC (by omega);have hw:bD .i64 ((2^k:Nat):Int)=((2^k:Nat):Int):=by obtain⟨z,hz,hzl⟩:∃z:Nat,z=2^k∧z≤65536:=⟨_,rfl,hp2⟩;rw[←hz];exact aO (by omega) (by omega)
     have hl1:Q7 .i64 ((2^k:Nat):Int)=2^k:=uq hp2;have WA:Q7 .i64 (c.1:Int)=c.1:=uq (by omega);have hor:=RI k c.1 ajC;have hw2:bD .i64 ((c.1 ||| 2^k:Nat):Int)=((c.1+2^k:Nat):Int):=by obtain⟨z,hz,hzl⟩:∃z:Nat,z=c.1+2^k∧z≤200000:=⟨_,rfl,by omega⟩;rw[hor,←hz];exact aO (by omega) (by omega)
     simp[iz,g0,g2,b34,ec0,b5,lenS,zv,hsh,-Int.natCast_pow,-Int.natCast_add,hw,hl1,WA,hw2];refine(A.yld k (c.1+2^k,u) _ _ UB fj h4k).mono ?_;rintro o h5 Z8 (⟨rfl,h5k⟩|⟨rfl,hR⟩)
     ·simp;refine next _ _ _ ?_ ?_ ?_ ?_ ?_ h5k<;>simp[g0,g1,g2,g11,g12]
     ·simp;exact hR
  ·have hke:k=os.length:=by omega
   subst hke;simp[iw,g11,g12];exact A.fin _ _ h1k
 rcases id hc with⟨e0,e1⟩|e0
 ·have hl0:os.length=0:=by rw[e1];rfl
  have:=start 0 hl0.symm;simp[iA,b20,bj0,jB,e0];simpa[e0]using this
 ·have:=start os.length rfl;simp[iA,b20,bj0,jB,e0];simpa[e0]using this
end Ln
namespace Go.Sx
theorem V.aCB{C:bP}{c:aK}{j:Nat}{Q:qo}{ds:List Key}{tm:T AV}{h:T ah}{nx:Key}(hw:W C (.loop c) (aG j (atD Q ds)) tm h nx):V C (.loop c) (xh j Q) ds tm h nx:=
 V.acO (hw.mono fun e tm h nx hq=>by cases e<;>exact hq)
end Go.Sx
namespace Ln
open Go.Sx Go
variable{C:bP}{X:Kn}(S:Std C X)
include S
structure RfA(X:Kn)(i:Nat)(os:List Op)(cO c3:AV)(b8 b10 bj:Key)(tm:T AV)(h:T ah)(nx:Key):Prop where
 k8:ag (K 8) tm=some (.ptr b8 0)
 cJ:ag (K 10) tm=some (.ptr b10 0)
 dd:ag (K 11) tm=some (.ptr bj 0)
 v8:ag b8 h=QZ [c3]
 v10:ag b10 h=QZ [I 0]
 vj:ag bj h=QZ (jB X i cO (bJ i) (im os os.length))
 lt:b8.toNat<nx.toNat∧b10.toNat<nx.toNat∧bj.toNat<nx.toNat
omit S in
theorem RfA.ext{i:Nat}{os:List Op}{cO c3:AV}{b8 b10 bj:Key}{tm aD:T AV}{h h':T ah}{nx nx':Key}(A:RfA X i os cO c3 b8 b10 bj tm h nx)(e:Ext h nx h' nx')(h8:ag (K 8) aD=ag (K 8) tm)(h10:ag (K 10) aD=ag (K 10) tm)(h11:ag (K 11) aD=ag (K 11) tm):RfA X i os cO c3 b8 b10 bj aD h' nx':=by have n:=e.n;have lt:=A.lt;exact⟨h8.trans A.k8,h10.trans A.cJ,h11.trans A.dd,(e.g b8 lt.1).trans A.v8,(e.g b10 lt.2.1).trans A.v10,(e.g bj lt.2.2).trans A.vj,by omega⟩
end Ln
namespace Go.Sx
theorem Fn.callV{C:bP}{f:Nat}{p:fq}(S:Fn C f p){l:List AV}{h:T ah}{nx:Key}{R:Out→T ah→Key→Prop}(hw:P7 C p.body (aoN p.res R) [] (ic l (K 0) .nil) h nx):aJ C f l h nx R:=
 aJ.aK8 (S.off _ _ _) S.get S.ma (uV hw)
theorem CI.intro{C:bP}{l:Key}{args:List AV}{h:T ah}{nx:Key}{R:Out→T ah→Key→Prop}{fn:Nat}{tm dc:T AV}{res:List RV}{ps:List Key}{a b:aK}{d:Key}(M:T AV→T ah→Key→Prop)(hl:ag l h=some (.loop .ready none fn tm res ps a b d))(hz:asI ps args tm=some dc)
  (ha:iT C a (fun e tm2 h2 bu=>e=.norm∧M tm2 h2 bu) dc h nx) (hb:∀tm2 h2 bu,M tm2 h2 bu→ag l h2=some (.loop .ready none fn tm res ps a b d)∧iT C b (K9 R l fn tm res ps a b d) tm2 (aw l (some (.loop .busy none fn tm res ps a b d)) h2) bu):CI C l args h nx R:=by
 refine⟨fn,tm,res,ps,a,b,d,⟨_,hl⟩,dc,hz,(mR ha).mono ?_⟩;rintro e tm2 h2 bu ⟨he,hm⟩;exact⟨he,none,(hb _ _ _ hm).1,mR (hb _ _ _ hm).2⟩
section
variable(R:Out→T ah→Key→Prop)(l:Key)(fn:Nat)(tm tm2:T AV)(res:List RV)(ps:List Key)(a b:aK)(d:Key)(h:T ah)(nx:Key)
@[simp] theorem au2:K9 R l fn tm res ps a b d .norm tm2 h nx=((∃p,ag l h=some (.loop .busy p fn tm res ps a b d))∧R (.ret (.bool true)) (aw l (some (.loop .ready none fn tm res ps a b d)) h) nx):=yC Iff.rfl
@[simp] theorem ayl:K9 R l fn tm res ps a b d .ret tm2 h nx=((∃p,ag l h=some (.loop .busy p fn tm res ps a b d))∧R (.ret (.bool false)) (aw l (some (.loop .done (some .ret) fn tm res ps a b d)) h) nx):=yC Iff.rfl
end
structure lX(n0:Key)(ds:List Key)(h:T ah)(nx:Key):Prop where
 nodup:ds.Nodup
 get:∀b∈ds,ag b h=some (.dfs false)
 ge:∀b∈ds,n0.toNat≤b.toNat
 lt:∀b∈ds,b.toNat<nx.toNat
theorem lX.nil(n0:Key)(h:T ah)(nx:Key):lX n0 [] h nx:=⟨by simp,by simp,by simp,by simp⟩
theorem lX.cv{n0:Key}{ds:List Key}{h h':T ah}{nx nx':Key}(A:lX n0 ds h nx)(hn:nx.toNat≤nx'.toNat)(hg:∀b,b.toNat<nx.toNat→ag b h=some (.dfs false)→ag b h'=some (.dfs false)):lX n0 ds h' nx':=
 ⟨A.nodup,fun b hb=>hg b (A.lt b hb) (A.get b hb),A.ge,fun b hb=>by have:=A.lt b hb;omega⟩
theorem lX.ext{n0:Key}{ds:List Key}{h h':T ah}{nx nx':Key}(A:lX n0 ds h nx)(e:Ext h nx h' nx'):lX n0 ds h' nx':=A.cv e.n fun b hb hg=>(e.g b hb).trans hg
theorem lX.cons{n0 d:Key}{ds:List Key}{h:T ah}{nx:Key}(A:lX n0 ds h nx)(hd:d∉ds)(hg:ag d h=some (.dfs false))(P9:n0.toNat≤d.toNat)(cQ:d.toNat<nx.toNat):lX n0 (d ::ds) h nx:=by
 refine⟨List.nodup_cons.2 ⟨hd,A.nodup⟩,?_,?_,?_⟩
 ·intro b hb;rcases GP.1 hb with rfl|hb
  ·exact hg
  ·exact A.get b hb
 ·intro b hb;rcases GP.1 hb with rfl|hb
  ·exact P9
  ·exact A.ge b hb
 ·intro b hb;rcases GP.1 hb with rfl|hb
  ·exact cQ
  ·exact A.lt b hb
end Go.Sx
namespace Ln
open Go.Sx Go
structure RfB(X:Kn)(i:Nat)(os:List Op)(cO c3:AV)(b8 b10 bj b15 n0:Key)(h0:T ah)(ds:List Key)(tm:T AV)(h:T ah)(nx:Key):Prop where
 a:RfA X i os cO c3 b8 b10 bj tm h nx
 dA:ag (K 15) tm=some (.ptr b15 0)
 v15:ag b15 h=QZ [.fn Ld [] [.ptr b8 0]]
 lt:b15.toNat<nx.toNat
 d:lX n0 ds h nx
 e:Ext h0 n0 h nx
 ge:n0.toNat≤b10.toNat
theorem RfB.ext{X:Kn}{i:Nat}{os:List Op}{cO c3:AV}{b8 b10 bj b15 n0:Key}{h0:T ah}{ds:List Key}{tm aD:T AV}{h h':T ah}{nx nx':Key}(A:RfB X i os cO c3 b8 b10 bj b15 n0 h0 ds tm h nx)(e:Ext h nx h' nx')(h8:ag (K 8) aD=ag (K 8) tm)(h10:ag (K 10) aD=ag (K 10) tm)(h11:ag (K 11) aD=ag (K 11) tm)(h15:ag (K 15) aD=ag (K 15) tm) :
  RfB X i os cO c3 b8 b10 bj b15 n0 h0 ds aD h' nx':=
 ⟨A.a.ext e h8 h10 h11,h15.trans A.dA,(e.g b15 A.lt).trans A.v15,by have:=e.n;have:=A.lt;omega,A.d.ext e,A.e.trans e,A.ge⟩
def aym(S:Sys St)(L:List (Cf St))(c:Cf St)(k:Nat):Prop:=∀x∈S.j6 c k,x.2∈L
variable{C:bP}{X:Kn}(S:Std C X)
include S
omit S in
theorem RfB.put{i:Nat}{os:List Op}{cO c3:AV}{b8 b10 bj b15 n0 lk:Key}{h0:T ah}{ds:List Key}{tm:T AV}{h:T ah}{nx:Key}{v:Option ah}(A:RfB X i os cO c3 b8 b10 bj b15 n0 h0 ds tm h nx)(h1:∀l k,ag lk h≠some (.cells l k))(h2:ag lk h≠some (.dfs false))(P9:n0.toNat≤lk.toNat) :
  RfB X i os cO c3 b8 b10 bj b15 n0 h0 ds tm (aw lk v h) nx:=by
 have hc:∀b l k,ag b h=some (.cells l k)→ag b (aw lk v h)=some (.cells l k):=fun b l k hb=>by rw[aP _ _ _ _ (by rintro rfl;exact h1 l k hb)];exact hb
 refine⟨⟨A.a.k8,A.a.cJ,A.a.dd,hc _ _ _ A.a.v8,hc _ _ _ A.a.v10,hc _ _ _ A.a.vj,A.a.lt⟩,A.dA,hc _ _ _ A.v15,A.lt,A.d.cv (fE _) fun b _ hg=>?_,A.e.put P9,A.ge⟩;rw[aP _ _ _ _ (by rintro rfl;exact h2 hg)];exact hg
omit S in
theorem aym.succ{Sy:Sys St}{L:List (Cf St)}{c:Cf St}{k:Nat}(h:aym Sy L c k)(hk:∀x,Sy.step c k=some x→x.2∈L):aym Sy L c (k+1):=by
 intro x hx;rw[j7,List.mem_append]at hx;rcases hx with hx|hx
 ·exact h x hx
 ·cases hs:Sy.step c k with
  |none=>rw[hs]at hx;simp at hx
  |some y=>rw[hs]at hx;simp at hx;subst hx;exact hk _ hs
end Ln
namespace Ln
open Go.Sx Go
def Ob:List Nat→Nat
 | []=>0
 |b ::t=>orU (adP (Ob t) 8) (UC b)
def nw(l:List Nat):Nat:=(l.length+7) / 8
def seg(l:List Nat)(k:Nat):List Nat:=(l.drop (8*k)).take 8
def word(l:List Nat)(k:Nat):Nat:=Ob (seg l k)
theorem amq{l:List Nat}{i:Nat}(hi:i<l.length):List.take 1 (List.drop i (aq eY l))=[.int .u8 (.lit ((l[i]:Nat):Int))]:=by have:=Jc.at hi;rw[Nat.mul_one]at this;exact this
theorem aqW{l:List Nat}{i:Nat}(hi:i<l.length):(aq eY l)[i]?=some (.int .u8 (.lit ((l[i]:Nat):Int))):=by
 have h1:∀(l:List Nat),aq eY l=l.map fun b:Nat=>AV.int .u8 (.lit (b:Int)):=fun l=>by
  induction l with
  |nil=>rfl
  |cons a l ih=>rw[dg,ih];rfl
 rw[h1,List.getElem?_map,pY hi];rfl
theorem ajh{s:List Nat}{j:Nat}(hj:j<s.length):Ob (s.drop j)=orU (adP (Ob (s.drop (j+1))) 8) (UC (s[j]:Nat)):=by rw[zqt hj];rfl
variable{C:bP}{X:Kn}(S:Std C X)(H:O0 C)
include H
theorem WL{c:AV}{l:List Nat}(hc:nW 1 eY c l){h:T ah}{nx:Key}:aJ C iZ [c] h nx (fun o h' nx'=>o=.ret (.fn dw [] [.ptr nx 0])∧ag nx h'=QZ [c]∧nx'=nx.succ∧Ext h nx h' nx'):=by have s1:=kTSu nx;have kc:=hc.cell;refine H.Jp.call ?_;simp[Hp];simp[Hq,kc.1,kc.2];simp[Hr];exact E0 h nx _
structure Grp(C:bP)(c:AV)(l:List Nat)(b1 lk:Key)(Inv:Nat→T ah→Key→Prop)(R:Out→T ah→Key→Prop):Prop where
 has:∀k h nx,Inv k h nx→ag b1 h=QZ [c]
 yld:∀k h nx,k<nw l→Inv k h nx→CI C lk [lU (word l k)] h nx (fun o h' nx'=>o=.ret (.bool true)∧Inv (k+1) h' nx')
 fin:∀h nx,Inv (nw l) h nx→R (.ret (.tuple [])) h nx
structure GrA(b1 lk:Key)(a:Nat)(tm:T AV):Prop where
 g0:ag (K 0) tm=some (.yld lk)
 g1:ag (K 1) tm=some (.ptr b1 0)
 g3:ag (K 3) tm=some (I (a:Int))
def GrI(l:List Nat)(b1 lk:Key)(Inv:Nat→T ah→Key→Prop)(m:Nat)(aD:T AV)(h':T ah)(nx':Key):Prop:=∃k a:Nat,m=nw l-k∧k≤nw l∧a=8*k∧GrA b1 lk a aD∧Inv k h' nx'
def GrJ(s:List Nat)(b1 lk:Key)(a:Nat)(h:T ah)(nx:Key)(m:Nat)(aD:T AV)(h':T ah)(nx':Key):Prop:=m≤s.length∧GrA b1 lk a aD∧ag (K 4) aD=some (lU (Ob (s.drop m)))∧ag (K 5) aD=some (I ((a:Int)+(m:Int)-1))∧h'=h∧nx'=nx
theorem av1{l:List Nat}(hl:l.length≤1000000){b1 lk:Key}{k a:Nat}(DK:a=8*k)(hk:a<l.length){c:AV}(hc:c=.sl (aq eY l) l.length 1 .any){h:T ah}{nx:Key}(hb:ag b1 h=QZ [c]){Q:cH}{m:Nat}{tm:T AV}(A:GrJ (seg l k) b1 lk a h nx m tm h nx)
  (gJ:∀aD,GrA b1 lk a aD→ag (K 4) aD=some (lU (word l k))→Q .norm aD h nx) :
  W C (.loop qU) (aG 2 Q) tm h nx:=by
 have hs:(seg l k).length≤8:=by unfold seg;rw[UD];omega
 refine W.fh (GrJ (seg l k) b1 lk a h nx) A ?_;rintro m dc h2 bu ⟨hm,⟨g0,g1,g3⟩,g4,g5,rfl,rfl⟩;refine W.of ?_;simp[qU];cases m with
 |zero=>
  have cQ:(a:Int)-1<(a:Int):=by omega
  simp at g5;simp[qV,g3,g5,cQ];refine gJ _ ⟨by simp[g0],by simp[g1],by simp[g3]⟩ (by simp[g4,word])
 |succ j=>
  have hjs:j<(seg l k).length:=by omega
  have hsl:(seg l k).length=min 8 (l.length-8*k):=by unfold seg;rw[UD,List.length_drop]
  have hi:a+j<l.length:=by omega
  have hsj:(seg l k)[j]=l[a+j]:=by
   have h1:(seg l k)[j]?=some l[a+j]:=by unfold seg;rw[List.getElem?_take,if_pos (by omega),List.getElem?_drop,←DK,pY hi]
   rw[pY hjs]at h1;exact Option.some.inj h1
  have g5':ag (K 5) dc=some (I ((a+j:Nat):Int)):=by
   rw[g5];have:(a:Int)+((j+1:Nat):Int)-1=((a+j:Nat):Int):=by omega
   rw[this]
  have hle:¬a+j<a:=by omega
  have hws:=ajh hjs;rw[hsj]at hws;have hx:=aqW hi;have h1l:1≤(aq eY l).length-(a+j):=by rw[Jc.rows];omega
  have hy:=amq hi;generalize hwo:Ob (List.drop (j+1) (seg l k))=w0 at *;generalize UJ:l[a+j]=b0 at *;generalize hii:a+j=ii at *;have hcu:bD .u64 (b0:Int)=((UC b0:Nat):Int):=OY _;have hwi:bD .i64 ((ii:Int)-1)=(ii:Int)-1:=aO (by omega) (by omega);simp[qV,g3,g5',hle];simp[A7,g1,g4,g5',hb,hc,hi,hx,hy,h1l,hcu,↓ams w0,↓av3 (adP w0 8) (UC b0)];simp[A8,g5',hwi];refine⟨j,by omega,by omega,⟨by simp[g0],by simp[g1],by simp[g3]⟩,by simp[hws],?_,rfl,rfl⟩;simp;omega
theorem av4{l:List Nat}(hl:l.length≤1000000){b1 lk:Key}{a s:Nat}(hk:a<l.length)(hs:s=min 8 (l.length-a)){c:AV}(hc:c=.sl (aq eY l) l.length 1 .any){h:T ah}{nx:Key}(hb:ag b1 h=QZ [c]){Q:cH}{tm:T AV}(G:GrA b1 lk a tm)
  (hQ:∀aD,GrA b1 lk a aD→ag (K 4) aD=ag (K 4) tm→ag (K 5) aD=some (I ((a:Int)+(s:Int)-1))→Q .norm aD h nx):iT C (.ops lg) Q tm h nx:=by
 obtain⟨g0,g1,g3⟩:=G;have hw8:bD .i64 ((a:Int)+8)=(a:Int)+8:=aO (by omega) (by omega);have hws:bD .i64 ((a:Int)+(s:Int)-1)=(a:Int)+(s:Int)-1:=aO (by omega) (by omega);by_cases h8:(l.length:Int)<(a:Int)+8
 ·have e:(l.length:Int)-1=(a:Int)+(s:Int)-1:=by omega
  simp[lg,g1,g3,hb,hc,hw8,h8,e,hws];exact hQ _ ⟨by simp[g0],by simp[g1],by simp[g3]⟩ (by simp) (by simp)
 ·have e:(a:Int)+8-1=(a:Int)+(s:Int)-1:=by omega
  simp[lg,g1,g3,hb,hc,hw8,h8,e,hws];exact hQ _ ⟨by simp[g0],by simp[g1],by simp[g3]⟩ (by simp) (by simp)
theorem S9{c:AV}{l:List Nat}(hc:nW 1 eY c l)(hl:l.length≤1000000){b1 lk:Key}{Inv:Nat→T ah→Key→Prop}{R:Out→T ah→Key→Prop}(A:Grp C c l b1 lk Inv R){h:T ah}{nx:Key}(h0:Inv 0 h nx) :
  aJ C dw [.yld lk,.ptr b1 0] h nx R:=by
 refine H.mM.call ?_;simp[zG];simp[A9];refine W.fh (n:=nw l) (GrI l b1 lk Inv) ⟨0,0,by simp,by omega,rfl,⟨by simp,by simp,by simp⟩,h0⟩ ?_;rintro m dc h1 bw ⟨k,a,rfl,hk,DK,⟨g0,g1,g3⟩,hI⟩;have hb:=A.has _ _ _ hI;refine W.of ?_;simp[Ba];by_cases Nv:k<nw l
 ·have UB:a<l.length:=by unfold nw at Nv;omega
  have SZ:c=.sl (aq eY l) l.length 1 .any:=by
   rcases hc with⟨_,e⟩|e
   ·rw[e]at UB;simp at UB
   ·exact e
  have hsl:(seg l k).length=min 8 (l.length-a):=by unfold seg;rw[UD,List.length_drop,DK]
  have hw8:bD .i64 ((a:Int)+8)=(a:Int)+8:=aO (by omega) (by omega);simp[lj,g1,g3,hb,SZ,UB];simp[Bb];refine alU (av4 (C:=C) H hl (b1:=b1) (lk:=lk) UB hsl SZ hb ⟨by simp[g0],by simp[g1],by simp[g3]⟩ (fun tm2 G2 p4 p5=>?_));simp at p4;simp;refine av1 H hl DK UB SZ hb (m:=(seg l k).length) ⟨fE _,G2,?_,p5,rfl,rfl⟩ (fun Eu G3 r4=>?_)
  ·rw[p4,List.drop_length];rfl
  ·obtain⟨r0,r1,r3⟩:=G3;simp[Bc,r0,r4];refine(A.yld k _ _ Nv hI).mono ?_;rintro o h4 kK ⟨rfl,hI4⟩;simp;simp[Bd,r3,hw8];exact⟨nw l-(k+1),by omega,k+1,a+8,rfl,by omega,by omega,⟨by simp[r0],by simp[r1],by simp⟩,hI4⟩
 ·have hke:k=nw l:=by omega
  subst hke;have hnl:¬a<l.length:=by rw[DK];unfold nw;omega
  rcases id hc with⟨e0,e1⟩|e0
  ·subst e1;have hn0:¬(a:Int)<0:=by omega
   simp[lj,g1,g3,hb,e0,hn0];exact A.fin _ _ hI
  ·simp[lj,g1,g3,hb,e0,hnl];exact A.fin _ _ hI
end Ln
