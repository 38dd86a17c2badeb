/- A part of the proof. No condition. -/
import Derived.Test.YtecbfpngkfdkoaaGreatP10
import Derived.Test.YtecbfpngkfdkoaaGreatP22
import Derived.Test.YtecbfpngkfdkoaaGreatP34
import Derived.Test.YtecbfpngkfdkoaaGreatP15
import Derived.Test.YtecbfpngkfdkoaaGreatP6
import Derived.Shelf.SlSortCmp.NoneTotal
import Derived.Test.YtecbfpngkfdkoaaGreatProg
import Derived.Shelf.SlLaysF0
import Derived.Test.YtecbfpngkfdkoaaGreatP16
import Derived.Test.YtecbfpngkfdkoaaGreatP11
set_option linter.unusedSimpArgs false
set_option linter.unusedVariables false
set_option linter.unusedSectionVars false
namespace Ln
open Go.Sx Go Go.Proofs
def aeR:FW:=⟨12,Unit,fun _=>[],fun _=>vM,fun _ _ _=>rfl⟩
theorem aj2:jJ Tryz.prog .nil aeR:=⟨⟨_,iO (n:=12) (by decide)⟩,fun _=>Wt⟩
def Y4:FW:=⟨23,Unit,fun _=>[],fun _=>.bool true,fun _ _ _=>rfl⟩
theorem aeS:jJ Tryz.prog .nil Y4:=⟨⟨_,iO (n:=23) (by decide)⟩,fun _=>anJ⟩
def fI:List FW:=[X0,Nl,Ry,X1,Nn,Rz,TQ,TR,Ai,KB,Ik,N2,Y5,Y6,Y7,TS,aeR,Y4,ahp,RC,amv,amx]
theorem asS:∀F∈fI,jJ Tryz.prog .nil F:=by
 intro F h;unfold fI at h;simp only[CR,List.not_mem_nil,or_false]at h;rcases h with rfl|rfl|rfl|rfl|rfl|rfl|rfl|rfl|rfl|rfl|rfl|rfl|rfl|rfl|rfl|rfl|rfl|rfl|rfl|rfl|rfl|rfl
 ·exact C5
 ·exact nL
 ·exact Ah
 ·exact ad3
 ·exact X2
 ·exact aay
 ·exact GV
 ·exact ab5
 ·exact RD
 ·exact VL
 ·exact Y8
 ·exact Y9
 ·exact yW
 ·exact aeT
 ·exact aeU
 ·exact vq
 ·exact aj2
 ·exact aeS
 ·exact amm
 ·exact amt
 ·exact amw
 ·exact amy
theorem ej:fI.Pairwise fun a b=>a.f≠b.f:=by have h:(fI.map (·.f)).Pairwise (·≠·):=of_decide_eq_true (by kernel_rfl);exact List.pairwise_map.1 h
def ab6(f:Nat):Bool:=Nat.beq f 86||Nat.beq f 60||Nat.beq f 175
noncomputable def CL:bH:=aoG asA Xq ab6 fI
theorem aDx{f:Nat}(h:(fI.map (·.f)).contains f=false):∀l h nx,CL.sum f l h nx=none:=by refine O5 fun F hF e=>?_;have:(fI.map (·.f)).contains f=true:=List.contains_iff_mem.2 (M4.2 ⟨F,hF,e⟩);rw[h]at this;cases this
theorem qT{f:Nat}{p:fN}(hp:IS Tryz.prog f=some p)(hg:GX CL f=some (fx f):=by kernel_rfl)(ho:(fI.map (·.f)).contains f=false:=by kernel_rfl)(hr:ab6 f=false:=by kernel_rfl):Fn CL f p:=⟨by rw[hg,avp hp],aDx ho,hr⟩
theorem ayR{f:Nat}{p:fN}(hp:IS Tryz.prog f=some p)(hg:GX CL f=some (fx f):=by kernel_rfl)(ho:(fI.map (·.f)).contains f=false:=by kernel_rfl)(hr:ab6 f=true:=by kernel_rfl):FnR CL f p:=⟨by rw[hg,avp hp],aDx ho,hr⟩
theorem aj3:X0∈fI:=by simp[fI]
theorem ab7:Nl∈fI:=by simp[fI]
theorem aeV:Ry∈fI:=by simp[fI]
theorem aj4:X1∈fI:=by simp[fI]
theorem ab8:Nn∈fI:=by simp[fI]
theorem aeW:Rz∈fI:=by simp[fI]
theorem aeX:TQ∈fI:=by simp[fI]
theorem aeY:TR∈fI:=by simp[fI]
theorem Bu:Ai∈fI:=by simp[fI]
theorem DB:KB∈fI:=by simp[fI]
theorem O6:Ik∈fI:=by simp[fI]
theorem ab9:N2∈fI:=by simp[fI]
theorem aj5:Y5∈fI:=by simp[fI]
theorem aj6:Y6∈fI:=by simp[fI]
theorem aj7:Y7∈fI:=by simp[fI]
theorem aeZ:TS∈fI:=by simp[fI]
theorem aoH:aeR∈fI:=by simp[fI]
theorem aj8:Y4∈fI:=by simp[fI]
theorem Cp:Std CL K0 where
 orc:=rfl
 raw _:=rfl
 ok:=at0
 yX:=qT IH
 mZ:=ayR xV
 GW:=qT P9
 AJ:=qT Ks
 Mw:=qT VC
 Ey:=qT NV
 Cm:=qT Mo
 IT:=qT TC
 BS:=qT Mp
 Hv:=ayR Qa
 G9:=qT Qc
 Mg:=qT VD
 Jc:=qT TD
 B7:=qT Mq
 Cn:=qT Mr
 Hw:=qT Qd
 AL:=qT Ku
 Co:=qT AH
 qG:=qT Bs
 qJ:=qT Bt
 sR:=qT Dw
 sU:=qT Dx
 jD:=qT zO
 so:=qT Cl
 vC:=qT EZ
 GY:=qT Qe
 BM:=qT Ms
 GZ:=qT Qf
 iF:=qT pO
 fm:=qT kh
 s_InitP i hi h nx:=bE aeX ej ⟨i,hi⟩ h nx
 s_CanP c s bs hs ha h nx:=bE aj3 ej ⟨c,s,bs,hs,ha⟩ h nx
 s_HoldsP c s bs r hs ha h nx:=bE ab7 ej ⟨⟨c,s,bs,hs,ha⟩,r⟩ h nx
 s_NextP c s bs r hs ha h nx:=bE aeV ej ⟨⟨c,s,bs,hs,ha⟩,r⟩ h nx
 s_InitR i hi h nx:=bE aeY ej ⟨i,hi⟩ h nx
 s_CanR c s bs hs ha h nx:=bE aj4 ej ⟨c,s,bs,hs,ha⟩ h nx
 s_HoldsR c s bs r hs ha h nx:=bE ab8 ej ⟨⟨c,s,bs,hs,ha⟩,r⟩ h nx
 s_NextR c s bs r hs ha h nx:=bE aeW ej ⟨⟨c,s,bs,hs,ha⟩,r⟩ h nx
 s_parser_Decl i hi h nx:=by
  match i,hi with
  |0,_=>exact bE Bu ej (.inl ⟨0,by decide⟩:QJ ⊕ QY) h nx
  |1,_=>exact bE Bu ej (.inl ⟨1,by decide⟩:QJ ⊕ QY) h nx
  |2,_=>exact bE Bu ej (.inl ⟨2,by decide⟩:QJ ⊕ QY) h nx
 s_ref09_Decl i hi h nx:=by
  match i,hi with
  |0,_=>exact bE DB ej (⟨0,by decide⟩:QJ) h nx
  |1,_=>exact bE DB ej (⟨1,by decide⟩:QJ) h nx
  |2,_=>exact bE DB ej (⟨2,by decide⟩:QJ) h nx
 s_values_Valid u h nx:=by have e:=bE O6 ej (⟨⟨u.k,u.n,[]⟩,Nat.zero_le _⟩:QK) h nx;simp only[Ik,aDy]at e;exact e
 s_values_Compare s t hs ht h nx:=bE aj5 ej ⟨s,t,hs,ht⟩ h nx
 s_ref10_Valid u h nx:=bE ab9 ej u h nx
 s_ref10_Compare s t hs ht h nx:=bE aj6 ej ⟨s,t,hs,ht⟩ h nx
 s_Equal s t hs ht h nx:=bE aj7 ej ⟨s,t,hs,ht⟩ h nx
 s_Clone s hs h nx:=bE aeZ ej ⟨s,hs⟩ h nx
 s_Module h nx:=bE aoH ej () h nx
 s_lives h nx:=bE aj8 ej () h nx
theorem aDz{ρ:Nat→Int}(w0:W0)(hL:jI Tryz.prog .nil w0):Ctx Tryz.prog ρ w0 CL:=ayQ Xn aoh mix asS Xq ab6 w0 hL
end Ln
namespace Go.Sx
open Go Go.RowKit Go.Sort
section
variable{α:Type}[Inhabited α]{k:Nat}{eA:α→List AV}{eV:α→List Value}
omit [Inhabited α] in
theorem Xl(F:Flat k eA){l:List α}{i r:Nat}(hi:i<l.length)(hr:r<k):(ak eA l)[i*k+r]?=(eA l[i])[r]?:=by rw[←F.at hi,List.getElem?_take_of_lt hr,List.getElem?_drop]
theorem ayx{w:World}{c off m:Nat}{d:Array α}{os:Array Obj}{arr:Array Value}{elem:TypeId}{fz:Nat×Nat}(h:w.heap[c]?=some (.cells arr elem fz)) :
  (Go.Proofs.sortWorldK eV k w c off m d os).heap[c]?=some (.cells (putCells id off (flatK eV k d) arr) elem fz):=by
 have hc:c<w.heap.size:=(Array.getElem?_eq_some_iff.1 h).1;simp only[Go.Proofs.sortWorldK,grow,putRowK,putRow,mapBlock,Go.Sort.ahead,Array.getElem?_append,Array.size_modify,hc,if_true,Array.getElem?_modify,h,Option.map_some,onCells]
theorem Mh{w:World}{c off m:Nat}{d:Array α}{os:Array Obj}{c':Nat}(cp:c'≠c)(h:c'<w.heap.size) :
  (Go.Proofs.sortWorldK eV k w c off m d os).heap[c']?=w.heap[c']?:=by
 simp only[Go.Proofs.sortWorldK,grow,putRowK,putRow,mapBlock,Go.Sort.ahead,Array.getElem?_append,Array.size_modify,h,if_true,Array.getElem?_modify,Ne.symm cp,if_false]
theorem ahP{w:World}{c off m:Nat}{d:Array α}{os:Array Obj}:w.heap.size≤(Go.Proofs.sortWorldK eV k w c off m d os).heap.size:=by simp[Go.Proofs.sortWorldK,grow,putRowK,putRow,mapBlock,Go.Sort.ahead]
theorem abx{w:World}{B c off m:Nat}{d:Array α}{os:Array Obj}(hB:B≤c)(hw:B≤w.heap.size):Below B w (Go.Proofs.sortWorldK eV k w c off m d os):=
 ⟨rfl,rfl,rfl,ahP,fun i hi=>Mh (by omega) (by omega)⟩
theorem Tv{W w':World}(hb:Below W.heap.size W w')(hd:W.drawn≤w'.drawn):∃q os',w'=grow (W.drewN q) os':=by
 refine⟨w'.drawn-W.drawn,w'.heap.extract W.heap.size w'.heap.size,?_⟩;obtain⟨h1,h2,h3,h4,h5⟩:=hb;have he:w'.heap=W.heap++w'.heap.extract W.heap.size w'.heap.size:=by
  apply Array.ext_getElem?;intro i;rw[Array.getElem?_append];split
  ·rename_i hi;exact h5 i hi
  ·rename_i hi;rw[Array.getElem?_extract];by_cases hi2:i<w'.heap.size
   ·rw[if_pos (by omega)];congr 1;omega
   ·rw[if_neg (by omega),Z8 (by omega)]
 cases w' with
 |mk heap tape drawn os output=>simp only[grow,World.drewN]at *;subst h1 h2 h3;congr 1;omega
end
section
variable{P:Program}{ρ:Nat→Int}{heap0:T ai}{C:bH}{α:Type}[Inhabited α]{k:Nat}{eA:α→List AV}{eV:α→List Value}
theorem asr{R:Go.Shelf.Ren}(hX:∀w0:W0,jI P heap0 w0→Ctx P ρ w0 C){cf:α→α→Int}{g:Nat}{nx0:Key}(hn:P.globals.size≤nx0.toNat)
  (hc:∀x y,aB C g [.agg (eA x),.agg (eA y)] heap0 nx0 fun o _ _=>o=.ret (.int .i64 (.lit (cf x y))))
  {w0:W0} (hL:jI P heap0 w0) {w:World} {μ:Mu} {G:Key→Option ai} {nx:Nat} (hM:bB P ρ w0 μ G nx w) {c off n:Nat} (tU:∀x,ax ρ μ (eA x) (eV x)) (hkf:∀x,AV.Bb (eA x)=true) (tT:w0.heap.size≤c) (M9:∀i,μ.fz c i=none) (C0:c<w.heap.size) :
  Go.Proofs.CmpLays P g #[] eV k cf c off n w:=by
 intro m os dk _ x y;have hb:Below w0.heap.size w0.toWorld (Go.Proofs.sortWorldK eV k w c off m dk os):=hM.below.trans (abx tT hM.below.size);have hL1:jI P heap0 ⟨Go.Proofs.sortWorldK eV k w c off m dk os,μ.fz⟩:=hL.an4 hb hM.zle;have hz:∀c' i v,μ.fz c' i=some v→∃arr elem f,(Go.Proofs.sortWorldK eV k w c off m dk os).heap[c']?=some (.cells arr elem f)∧arr[i]?=some v:=by
  intro c' i v h1;obtain⟨arr,elem,f,h2,h3⟩:=hM.XM _ _ _ h1;refine⟨arr,elem,f,?_,h3⟩;have cp:c'≠c:=by rintro rfl;rw[M9]at h1;cases h1
  rw[Mh cp (Array.getElem?_eq_some_iff.1 h2).1];exact h2
 have hM1:=Ih (ρ:=ρ) (w0:=⟨Go.Proofs.sortWorldK eV k w c off m dk os,μ.fz⟩) hL1 hz (nx:=nx0.toNat) hn;have hr:∀x,ax ρ (gMu P heap0 μ.fz) (eA x) (eV x):=fun x=>ax.kf (μ:=μ) (μ':=gMu P heap0 μ.fz) (fun _ _ _ h=>h) (tU x) (hkf x);have ha:ax ρ (gMu P heap0 μ.fz) [.agg (eA x),.agg (eA y)] (#[Value.agg (eV x).toArray,.agg (eV y).toArray] ++ #[]).toList:=
  .cons _ _ _ _ (.agg _ _ (by simpa using hr x)) (.cons _ _ _ _ (.agg _ _ (by simpa using hr y)) .nil)
 refine(Ha (hX _ hL1) hM1 (fun _ _ h=>h) ha (fun o _ _ h=>⟨_,h⟩) (hc x y)).mono ?_;rintro e w' ⟨v,h',nx',u,μ2,G2,hr,rfl,hv,_,hM2,_⟩;cases hr;refine⟨?_,Tv hM2.below hM2.dr⟩;cases hv with
 |int _ _ n h=>rw[←h];rfl
def aeG(arr:Array Value)(o k j:Nat):List Value:=(arr.toList.drop (o+j*k)).take k
theorem aby{arr:Array Value}{o k j r:Nat}(hr:r<k):(aeG arr o k j)[r]?=arr[o+j*k+r]?:=by unfold aeG;rw[List.getElem?_take_of_lt hr,List.getElem?_drop];simp
theorem holds_of{w:World}{c off n:Nat}[Inhabited (_root_.Fin n)]{arr:Array Value}{elem:TypeId}(ho:w.heap[c]?=some (.cells arr elem (0,0)))(hs:∀i,i<n*k→∃v,arr[off+i]?=some v) :
  HoldsK (fun j:_root_.Fin n=>aeG arr off k j) k w c off (List.finRange n).toArray:=by
 intro j hj;rw[size_flatK]at hj;have hlen:j<n*k:=by simpa using hj
 have hk:0<k:=by
  rcases Nat.eq_zero_or_pos k with e|e
  ·subst e;simp at hlen
  ·exact e
 have hq:j / k<n:=Nat.div_lt_of_lt_mul (by rw[Nat.mul_comm];exact hlen);have hr:j%k<k:=Nat.mod_lt _ hk;obtain⟨v,hv⟩:=hs j hlen;refine⟨?_,?_⟩
 ·simp only[World.cell?,ho,hv,Option.isSome_none,WA,if_false,id];rw[get_flatK _ _ _ _ hj];have e1:(List.finRange n).toArray[j / k]! = ⟨j / k,hq⟩:=by simp[hq]
  have e2:off+j / k*k+j%k=off+j:=by rw[Nat.add_assoc,Nat.div_add_mod' j k]
  rw[e1,List.getElem!_eq_getElem?_getD,aby hr,e2,hv];rfl
 ·simp[World.frozen?,ho]
theorem ajM{β:Type}{enc:β→List AV}(hX:∀w0:W0,jI P heap0 w0→Ctx P ρ w0 C){R:Go.Shelf.Ren}(L:Go.Proofs.SlLaysF0.n6 P R)(aE:∀w,(isAgg (R.t 24)).run P w=.ok true w)(zE:∀w,(Go.sizeOf (R.t 24)).run P w=.ok k w)(F:Flat k enc)(hkf:∀x,AV.Bb (enc x)=true){cf:β→β→Int}(hO:SWO (Go.Proofs.ltOf cf))
  (hT:∀x y,Go.Proofs.ltOf cf x y=false→Go.Proofs.ltOf cf y x=false→x=y) {g:Nat} (eg:∀args w,(callFunc g args).run P w=.ok (.enter g args) w) {nx0:Key} (hn:P.globals.size≤nx0.toNat)
  {us:List β} (QD:us.Nodup) (hc:∀x∈us,∀y∈us,aB C g [.agg (enc x),.agg (enc y)] heap0 nx0 fun o _ _=>o=.ret (.int .i64 (.lit (cf x y)))) (hz:us.length<4611686018427387904)
  {w0:W0} (hL:jI P heap0 w0) {H:T ai} {nx b:Key} (hb:ag b H=some (.cells (ak enc us) .fix)) :
  Lb P ρ w0 (R.f 6) [.slice b 0 us.length k,.fn g [] []] H nx (.tuple []) (au b (some (.cells (ak enc (us.mergeSort fun x y=>!(Go.Proofs.ltOf cf) y x)) .fix)) H) nx:=by
 intro args w μ G hM hH ha;obtain⟨args⟩:=args;have ha:ax ρ μ [.slice b 0 us.length k,.fn g [] []] args:=ha;cases ha with
 |cons _ _ v1 r1 h1 hr1=>
 cases hr1 with
 |cons _ _ v2 r2 h2 NA=>
 cases NA;cases h2 with
 |fn _ _ _ vs ws hvs hws=>
 obtain⟨vs⟩:=vs;obtain⟨ws⟩:=ws;have hvs:ax ρ μ [] vs:=hvs;have hws:ax ρ μ [] ws:=hws;cases hvs;cases hws;cases h1 with
 |slice _ _ _ _ cap l a hl Bh hle an5=>
 have hG:=hH _ _ hb;obtain⟨l',o,Rx,ho,hB⟩:=hM.wa _ _ hG;rw[hl]at Rx;cases Rx;cases hB with
 |cells _ _ _ arr elem fz zS xL aB1 aLq an6=>
 have aLr:=aLq (by simp);subst aLr;have an6:=an6 (by simp);have tT:w0.heap.size≤l.c:=by
  rcases hM.own _ _ _ hG hl with h|h
  ·exact h.elim
  ·exact h
 have hfr:∀i,μ.fz l.c i=none:=fun i=>hM.fzf b _ l 0 hG hl rfl i (Nat.zero_le _);have ayy:=hM.Aj _ _ hl;have avk:=F.rows us;by_cases h0:us=[]
 ·subst h0;refine(Go.Proofs.AnyF.slices_SortFunc_none L (some a) cap (.func (.func g) #[] #[]) w).mono ?_;rintro e w' ⟨rfl,rfl⟩;refine⟨_,μ,G,rfl,.tuple _ _ .nil,μ.le_refl,hM,?_,⟨fun _ _ _=>rfl,fun _ _=>rfl,fun b' h' _=>?_,gi _⟩⟩
  ·intro b' B' h';by_cases e:b'=b
   ·subst e;rw[gTSm]at h';cases h';simpa using hG
   ·rw[aD _ _ _ _ e]at h';exact hH _ _ h'
  ·have e:b'≠b:=by rintro rfl;rw[hb]at h';cases h'
   rw[aD _ _ _ _ e];exact h'
 ·have SM:0<us.length:=List.length_pos_iff.2 h0;have an5:a=⟨l.c,l.base,none⟩:=by
   rcases an5 with h|h
   ·omega
   ·exact h
  subst an5
  let eA:_root_.Fin us.length→List AV:=fun j=>enc us[j]
  let eV:_root_.Fin us.length→List Value:=fun j=>aeG arr l.base k j
  let cg:_root_.Fin us.length→_root_.Fin us.length→Int:=fun i j=>cf us[i] us[j]
  haveI:Inhabited (_root_.Fin us.length):=⟨⟨0,SM⟩⟩
  have FA:Flat k eA:=⟨fun x=>F.len _,fun x=>F.zD _,fun x=>F.cell _,fun x=>F.lits _⟩;have an7:∀i,i<us.length*k→∃v,arr[l.base+i]?=some v:=fun i hi=>by obtain⟨v,hv,_⟩:=zS i _ (zC (by rw[avk];exact hi));exact⟨v,hv⟩
  have ZT:∀(j:_root_.Fin us.length) r,r<k→j.1*k+r<us.length*k:=fun j r hr=>by have:=Nat.mul_le_mul_right k (show j.1+1≤us.length from j.2);rw[Nat.add_mul,Nat.one_mul]at this;omega
  have avl:∀j,(eV j).length=k:=fun j=>by
   show(aeG arr l.base k j).length=k;unfold aeG;rw[zqy,List.length_drop,Nat.min_eq_left];rcases Nat.eq_zero_or_pos k with e|e
   ·omega
   ·obtain⟨v,hv⟩:=an7 _ (ZT j (k-1) (by omega));have:=(Array.getElem?_eq_some_iff.1 hv).1;simp;omega
  have tU:∀x,ax ρ μ (eA x) (eV x):=fun x=>by
   refine ax.Rf (by rw[avl];exact F.len _) fun r a ha=>?_;have hr:r<k:=by have:=(List.getElem?_eq_some_iff.1 ha).1;rw[show(eA x).length=k from F.len _]at this;exact this
   have hg:=Xl F (l:=us) (i:=x.1) x.2 hr;obtain⟨v,hv,hvr⟩:=zS _ a (hg.trans ha);refine⟨v,?_,hvr⟩;show(aeG arr l.base k x)[r]?=some v;rw[aby hr,Nat.add_assoc];exact hv
  have aLs:∀x,∀v∈eV x,v.oneCell'=true:=fun x=>C9 (tU x) (xM.2 (F.cell _));have hOg:SWO (Go.Proofs.ltOf cg):=⟨fun x=>hO.irrefl _,fun x y z=>hO.trans _ _ _,fun x y z=>hO.ntrans _ _ _⟩;have hTg:∀x y,Go.Proofs.ltOf cg x y=false→Go.Proofs.ltOf cg y x=false→x=y:=fun x y h1 h2=>by
   have e:=hT _ _ h1 h2;rw[List.nodup_iff_pairwise_ne,List.pairwise_iff_getElem]at QD;rcases Nat.lt_trichotomy x.1 y.1 with h|h|h
   ·exact absurd e (QD _ _ x.2 y.2 h)
   ·exact Fin.ext h
   ·exact absurd e.symm (QD _ _ y.2 x.2 h)
  have aLt:(List.finRange us.length).length=us.length:=List.length_finRange;have hH1:HoldsK eV k w l.c l.base (List.finRange us.length).toArray:=holds_of ho an7;have aLu:(List.finRange us.length).toArray.size=us.length:=by simp
  have key:=Go.Proofs.AnyQ.slices_SortFunc_total L k aE zE eV avl aLs cg hOg g #[] l.c l.base cap (List.finRange us.length).toArray w eg
   (asr (R:=R) (eA:=eA) hX hn (fun x y=>hc _ (UG _) _ (UG _)) hL hM tU (fun x=>hkf _) tT hfr ayy) hH1 ayy (by simpa using hz) hTg
  rw[aLu]at key;refine(show Calls P (R.f 6) #[.slice (some ⟨l.c,l.base,none⟩) us.length cap,.func (.func g) #[] #[]] w _ from key).mono ?_;rintro e w' ⟨rfl,n,os,rfl⟩;have hlen:((List.finRange us.length).mergeSort fun x y=>!(Go.Proofs.ltOf cg) y x).length=us.length:=by rw[List.length_mergeSort,aLt]
  have NT:ak enc (us.mergeSort fun x y=>!(Go.Proofs.ltOf cf) y x)=ak eA ((List.finRange us.length).mergeSort fun x y=>!(Go.Proofs.ltOf cg) y x):=by
   have e:=List.map_mergeSort (r:=fun x y:_root_.Fin us.length=>!(Go.Proofs.ltOf cg) y x) (s:=fun x y:β=>!(Go.Proofs.ltOf cf) y x) (f:=fun j=>us[j]) (l:=List.finRange us.length) (fun a _ b _=>rfl);have e2:(List.finRange us.length).map (fun j=>us[j])=us:=by apply List.ext_getElem (by simp);intro i h1 h2;simp
   rw[e2]at e;rw[←e];simp only[ak,List.flatMap_map];rfl
  rw[NT];simp only[List.toList_toArray]at *;generalize hsd:((List.finRange us.length).mergeSort fun x y=>!(Go.Proofs.ltOf cg) y x)=sd at hlen ⊢;have hH2:HoldsK eV k (Go.Proofs.sortWorldK eV k w l.c l.base n sd.toArray os) l.c l.base sd.toArray:=Go.Proofs.holdsK_sortWorldK_c eV k w l.c l.base (List.finRange us.length).toArray sd.toArray n os hH1 ayy (by simpa using hlen);have arX:=ayx (eV:=eV) (k:=k) (off:=l.base) (m:=n) (d:=sd.toArray) (os:=os) ho;have aC2:∀b' B' l',b'≠b→G b'=some B'→μ b'=some l'→(Go.Proofs.sortWorldK eV k w l.c l.base n sd.toArray os).heap[l'.c]?=w.heap[l'.c]?:=fun b' B' l' cp hg hm=>Mh (hM.sep _ _ _ _ _ _ hg hG hm hl cp) (hM.Aj _ _ hm);have an8:=FA.rows sd;have hsr:(ak eA sd).length=(ak enc us).length:=by rw[an8,avk,hlen]
  refine⟨_,μ,qU G b (some (.cells (ak eA sd) .fix)),rfl,.tuple _ _ .nil,μ.le_refl,?_,?_,⟨fun b' h' _=>?_,fun _ _=>rfl,fun b' h' _=>?_,gi _⟩⟩
  ·refine⟨?_,?_,?_,?_,hM.PT,hM.new,hM.below.trans (abx tT hM.below.size),?_,?_,hM.zle,hM.fzo,?_,?_⟩
   ·intro b' B' hg;by_cases e:b'=b
    ·subst e;rw[fK]at hg;cases hg;refine⟨l,_,hl,arX,.cells _ _ _ _ _ _ ?_ ?_ ?_ (fun _=>rfl) ?_⟩
     ·intro i x hx;have hi:i<sd.length*k:=by rw[←an8];exact(List.getElem?_eq_some_iff.1 hx).1
      have hj:=(hH2 i (by rw[size_flatK];simpa using hi)).1;simp only[World.cell?,arX,Option.isSome_none,WA,if_false,id]at hj;refine⟨_,hj,?_⟩;have hk:0<k:=by
       rcases Nat.eq_zero_or_pos k with e|e
       ·subst e;simp at hi
       ·exact e
      have hq:i / k<sd.length:=Nat.div_lt_of_lt_mul (by rw[Nat.mul_comm];exact hi);have hr:i%k<k:=Nat.mod_lt _ hk;rw[get_flatK _ _ _ _ (by simpa using hi)];have e1:sd.toArray[i / k]! = sd[i / k]:=by simp[hq]
      have EY:=Xl FA hq hr;rw[Nat.div_add_mod' i k,hx]at EY;obtain⟨v,hv,tU⟩:=(tU sd[i / k]).get _ _ EY.symm;rw[e1,List.getElem!_eq_getElem?_getD,hv];exact tU
     ·simpa[putCells]using xL
     ·rw[hsr];exact aB1
     ·intro _;rw[hsr];exact an6
    ·rw[bN _ _ e]at hg;obtain⟨l2,o2,h3,h4,h5⟩:=hM.wa _ _ hg;exact⟨l2,o2,h3,by rw[aC2 _ _ _ e hg h3];exact h4,h5⟩
   ·intro b1 b2 B1 B2 l1 l2 g1 g2 m1 m2 cp;have:∀b' B',qU G b (some (.cells (ak eA sd) .fix)) b'=some B'→∃B'',G b'=some B'':=by
     intro b' B' h';by_cases e:b'=b
     ·subst e;exact⟨_,hG⟩
     ·rw[bN _ _ e]at h';exact⟨_,h'⟩
    obtain⟨x1,y1⟩:=this _ _ g1;obtain⟨x2,y2⟩:=this _ _ g2;exact hM.sep _ _ _ _ _ _ y1 y2 m1 m2 cp
   ·intro b' l2 hm;exact Ou (hM.Aj _ _ hm) ahP
   ·intro b' B' l2 hg hm;by_cases e:b'=b
    ·subst e;rw[hl]at hm;cases hm;exact .inr tT
    ·rw[bN _ _ e]at hg;exact hM.own _ _ _ hg hm
   ·intro c' i v hv;have cp:c'≠l.c:=by rintro rfl;rw[hfr]at hv;cases hv
    obtain⟨aLv,el,f,h3,h4⟩:=hM.XM _ _ _ hv;exact⟨aLv,el,f,by rw[Mh cp (Array.getElem?_eq_some_iff.1 h3).1];exact h3,h4⟩
   ·intro b' B' l2 n2 hg hm vk i hi;by_cases e:b'=b
    ·subst e;rw[hl]at hm;cases hm;exact hfr i
    ·rw[bN _ _ e]at hg;exact hM.fzf _ _ _ _ hg hm vk i hi
   ·intro b' L2 l2 hg hm;by_cases e:b'=b
    ·subst e;rw[fK]at hg;cases hg
    ·rw[bN _ _ e]at hg;rw[aC2 _ _ _ e hg hm];exact hM.rof _ _ _ hg hm
   ·show w0.drawn≤w.drawn+n;have:=hM.dr;omega
  ·intro b' B' h';by_cases e:b'=b
   ·subst e;rw[gTSm]at h';rw[fK];exact h'
   ·rw[aD _ _ _ _ e]at h';rw[bN _ _ e];exact hH _ _ h'
  ·have e:b'≠b:=by rintro rfl;rw[hb]at h';cases h'
   rw[bN _ _ e]
  ·have e:b'≠b:=by rintro rfl;rw[hb]at h';cases h'
   rw[aD _ _ _ _ e];exact h'
end
end Go.Sx
namespace Go.Proofs
open Go.Shelf
def Tryz.laysS_ren:Go.Shelf.Ren:=⟨fun|6=>63|15=>136|14=>135|28=>218|29=>219|20=>210|21=>211|22=>212|23=>213|24=>214|25=>215|26=>216|27=>217|46=>280|47=>281|48=>282|49=>283|50=>284|57=>343|n=>n,fun|22=>33|24=>145|25=>153|3=>3|39=>283|0=>0|53=>372|55=>223|4=>4|46=>366|45=>365|50=>197|5=>5|9=>9|66=>438|70=>441|76=>478|77=>479|n=>n,fun|n=>n⟩
theorem Tryz.laysS:Go.Proofs.SlLaysF0.n6 Tryz.prog Tryz.laysS_ren:={
 mixed:=by kernel_rfl
 f6:=⟨Tryz.f63.name,by decide,Tryz.func63.trans (congrArg some (by kernel_rfl))⟩
 f14:=⟨Tryz.f135.name,by decide,Tryz.func135.trans (congrArg some (by kernel_rfl))⟩
 f15:=Tryz.func136.trans (congrArg some (by kernel_rfl))
 f20:=⟨Tryz.f210.name,by decide,Tryz.func210.trans (congrArg some (by kernel_rfl))⟩
 f21:=⟨Tryz.f211.name,by decide,Tryz.func211.trans (congrArg some (by kernel_rfl))⟩
 f22:=⟨Tryz.f212.name,by decide,Tryz.func212.trans (congrArg some (by kernel_rfl))⟩
 f23:=⟨Tryz.f213.name,by decide,Tryz.func213.trans (congrArg some (by kernel_rfl))⟩
 f24:=⟨Tryz.f214.name,by decide,Tryz.func214.trans (congrArg some (by kernel_rfl))⟩
 f25:=⟨Tryz.f215.name,by decide,Tryz.func215.trans (congrArg some (by kernel_rfl))⟩
 f26:=⟨Tryz.f216.name,by decide,Tryz.func216.trans (congrArg some (by kernel_rfl))⟩
 f27:=⟨Tryz.f217.name,by decide,Tryz.func217.trans (congrArg some (by kernel_rfl))⟩
 f28:=Tryz.func218.trans (congrArg some (by kernel_rfl))
 f29:=Tryz.func219.trans (congrArg some (by kernel_rfl))
 f46:=⟨Tryz.f280.name,by decide,Tryz.func280.trans (congrArg some (by kernel_rfl))⟩
 f47:=Tryz.func281.trans (congrArg some (by kernel_rfl))
 f48:=Tryz.func282.trans (congrArg some (by kernel_rfl))
 f49:=⟨Tryz.f283.name,by decide,Tryz.func283.trans (congrArg some (by kernel_rfl))⟩
 f50:=⟨Tryz.f284.name,by decide,Tryz.func284.trans (congrArg some (by kernel_rfl))⟩
 f57:=⟨Tryz.f343.name,by decide,Tryz.func343.trans (congrArg some (by kernel_rfl))⟩
 t0:=Tryz.underlying0
 a0:=Tryz.isAgg0
 z0:=Tryz.sizeOf0
 v0:=Tryz.zeroValue0
 t3:=Tryz.underlying3
 a3:=Tryz.isAgg3
 z3:=Tryz.sizeOf3
 v3:=Tryz.zeroValue3
 t4:=Tryz.underlying4
 a4:=Tryz.isAgg4
 z4:=Tryz.sizeOf4
 v4:=Tryz.zeroValue4
 t5:=Tryz.underlying5
 a5:=Tryz.isAgg5
 z5:=Tryz.sizeOf5
 v5:=Tryz.zeroValue5
 t9:=Tryz.underlying9
 a9:=Tryz.isAgg9
 z9:=Tryz.sizeOf9
 v9:=Tryz.zeroValue9
 t22:=Tryz.underlying33
 a22:=Tryz.isAgg33
 z22:=Tryz.sizeOf33
 v22:=Tryz.zeroValue33
 t25:=Tryz.underlying153
 a25:=Tryz.isAgg153
 z25:=Tryz.sizeOf153
 v25:=Tryz.zeroValue153
 t39:=Tryz.underlying283
 a39:=Tryz.isAgg283
 z39:=Tryz.sizeOf283
 v39:=Tryz.zeroValue283
 t45:=Tryz.underlying365
 a45:=Tryz.isAgg365
 z45:=Tryz.sizeOf365
 v45:=Tryz.zeroValue365
 t46:=Tryz.underlying366
 a46:=Tryz.isAgg366
 z46:=Tryz.sizeOf366
 v46:=Tryz.zeroValue366
 t50:=Tryz.underlying197
 a50:=Tryz.isAgg197
 z50:=Tryz.sizeOf197
 v50:=Tryz.zeroValue197
 t53:=Tryz.underlying372
 a53:=Tryz.isAgg372
 z53:=Tryz.sizeOf372
 v53:=Tryz.zeroValue372
 t55:=Tryz.underlying223
 a55:=Tryz.isAgg223
 z55:=Tryz.sizeOf223
 v55:=Tryz.zeroValue223
 t66:=Tryz.underlying438
 a66:=Tryz.isAgg438
 z66:=Tryz.sizeOf438
 v66:=Tryz.zeroValue438
 t70:=Tryz.underlying441
 a70:=Tryz.isAgg441
 z70:=Tryz.sizeOf441
 v70:=Tryz.zeroValue441
 t76:=Tryz.underlying478
 a76:=Tryz.isAgg478
 z76:=Tryz.sizeOf478
 v76:=Tryz.zeroValue478
 t77:=Tryz.underlying479
 a77:=Tryz.isAgg479
 z77:=Tryz.sizeOf479
 v77:=Tryz.zeroValue479}
end Go.Proofs
namespace Ln
def ltC(a b:Cf St):Prop:=a.1<b.1∨a.1=b.1∧qS a.2 b.2<0
theorem asY(a:Cf St):¬ltC a a:=by
 rintro(h|⟨_,h⟩)
 ·omega
 ·rw[H4.2 rfl]at h;omega
theorem aoL{a b c:Cf St}(h:ltC a b)(k:ltC b c):ltC a c:=by
 rcases h with h|⟨h1,h2⟩<;>rcases k with k|⟨k1,k2⟩
 ·exact .inl (by omega)
 ·exact .inl (by omega)
 ·exact .inl (by omega)
 ·exact .inr ⟨by omega,J4 h2 k2⟩
theorem Xz{α:Type}[DecidableEq α]:∀{l m:List α},l.Nodup→(∀x∈l,x∈m)→l.length≤m.length
 | [],m,_,_=>Nat.zero_le _
 |a ::l,m,h,hs=>by rw[List.nodup_cons]at h;have ha:a∈m:=hs a (by simp);have h1:=Xz (l:=l) (m:=m.erase a) h.2 fun x hx=>(List.mem_erase_of_ne (by rintro rfl;exact h.1 hx)).2 (hs x (by simp[hx]));have h2:=List.length_erase_of_mem ha;have h3:0<m.length:=List.length_pos_of_mem ha;simp only[List.length_cons];omega
section
variable{σ:Type}[DecidableEq σ]
structure Um(S:Sys σ)(L bad:List (Cf σ)):Prop where
 nodup:bad.Nodup
 sub:∀x∈bad,x∈L
 no:∀x∈bad,¬Good S x
theorem Um.nil(S:Sys σ)(L:List (Cf σ)):Um S L []:=⟨by simp,by simp,by simp⟩
theorem Um.len{S:Sys σ}{L bad:List (Cf σ)}(h:Um S L bad):bad.length≤L.length:=Xz h.nodup h.sub
theorem Um.add{S:Sys σ}{L bad:List (Cf σ)}{c:Cf σ}(h:Um S L bad)(hc:c∈L)(hn:c∉bad)(hg:¬Good S c):Um S L (bad ++ [c]):=by
 refine⟨?_,?_,?_⟩
 ·rw[List.nodup_append];refine⟨h.nodup,by simp,?_⟩;intro a ha b hb;simp at hb;rintro rfl;subst hb;exact hn ha
 ·intro x hx;rcases List.mem_append.1 hx with hx|hx
  ·exact h.sub x hx
  ·simp at hx;subst hx;exact hc
 ·intro x hx;rcases List.mem_append.1 hx with hx|hx
  ·exact h.no x hx
  ·simp at hx;subst hx;exact hg
end
end Ln
namespace Ln
open Go.Sx Go
theorem aCm(z:Cf St):List.drop 5 (eC z)=[]:=rfl
theorem ajr(X:Kn)(i:Nat)(os:List Op)(c:Cf St)(j:Nat):(ba X i os).step c j=if PG os j c.1=true then(X.take (cm i (os.getD j default)) (os.getD j default) c.2).map (fun s=>(j,(c.1+2^j,s)))else none:=rfl
theorem aw9(s:St):AV.beq (.agg (eS s)) (.agg (eS s))=true:=beq_refl _ (by simp[eS,AV.lits,AV.dA,xY,I])
variable{C:bH}{X:Kn}(S:Std C X)
include S
end Ln
namespace Ln
open Go.Sx Go
variable{C:bH}{X:Kn}(S:Std C X)
include S
end Ln
namespace Ln
open Go.Sx Go
theorem _root_.Go.Sx.qf.rd{α:Type}{z:Nat}{enc:α→List AV}{c:AV}{l:List α}(g:qf z enc c l)(h:T ai)(nx:Key):Rd z c (ak enc l) l.length h nx:=by
 rcases g with⟨e,rfl⟩|e
 ·exact .inl ⟨e,rfl,rfl⟩
 ·exact .inr (.inl ⟨_,e⟩)
theorem ayG(z:Cf St)(H:T ai):aY (aO 9999) (eC z) H=(eC z,H):=bw (xc.zD _)
variable{C:bH}{X:Kn}(S:Std C X)
include S
end Ln
namespace Ln
open Go.Sx Go
theorem aao{i:Nat}{s:St}(h:kx i s):s.kids.length≤3:=Nat.le_trans h (XX i)
variable{C:bH}{X:Kn}(S:Std C X)
include S
theorem WK{i:Nat}(hi:i<3){os:List Op}(C3:yv i os=0){c:Cf St}(hs:kx i c.2):∀x∈(ba X i os).steps c,kx i x.2.2:=by intro x hx;obtain⟨k,c'⟩:=x;obtain⟨h1,_,_,h4⟩:=Nd hx;have hk:k<os.length:=h1;have h4:X.take (cm i (os.getD k default)) (os.getD k default) c.2=some c'.2:=h4;rw[FO hk]at h4;have hco:=ahf hi C3 (zC hk);have:=S.ok.take (cm i os[k]) os[k] c.2 c'.2 (by rw[hco.fZ];exact hs) hco.ar h4;rw[hco.fZ]at this;exact this
end Ln
namespace Go.Sx
open Go
section
variable{z:Nat}{c:AV}{α:Type}{enc:α→List AV}{us:List α}{h:T ai}{nx:Key}
theorem Rd.ixS(F:Flat z enc)(g:Rd z c (ak enc us) us.length h nx){i:Nat}(hi:i<us.length){C:bH}{Q:cJ}{ds:List Key}{pend:List (Nat×Key×ai)}{L:List aH}{tm:T AV}{n2 k1 k2 d1 d2:Key}{a b:Nat}{gu:Option (Key×Bool)}(h1:ag k1 tm=some c)(h2:ag k2 tm=some (I i))
  (hg:cz gu tm=some true) (hg2:cz gu (au d1 (some (IB z i c)) tm)=some true) :
  wpS C Q ⟨ds,[]⟩ (.L a ⟨some d1,.indexL z (.t k1) (.t k2),gu⟩ ::.L b ⟨some d2,.load true z (.t d1),gu⟩ ::L) pend tm h n2=wpS C Q ⟨ds,[]⟩ L pend (au d2 (some (.agg (enc us[i]))) (au d1 (some (IB z i c)) tm)) h n2:=by
 have hr:=F.rows us;have he:=F.at hi;have hl:=F.len us[i];have tx:z≤us.length*z-i*z:=by rw[←Nat.sub_mul];exact Nat.le_mul_of_pos_left z (by omega)
 have tk:List.take z (enc us[i])=enc us[i]:=PH (by omega);rcases g with⟨_,_,e⟩|⟨f,rfl⟩|⟨b,k,rfl,hb,_,_⟩
 ·omega
 ·simp only[IB]at hg2;simp[h1,h2,hi,hr,tx,he,hl,tk,IB,hg];rw[he]at hg2;rw[hg2];simp[hl,tk]
 ·simp only[IB]at hg2;simp[h1,h2,hi,hr,tx,he,hl,tk,IB,hb,hg];rw[Nat.zero_add]at hg2;rw[hg2];simp[hb,hr,tx,he]
end
theorem Gr.add0{z:Nat}{c:AV}{l:List AV}{len:Nat}{h:T ai}{nx:Key}{ob:Option Key}(g:Gr z c l len h nx ob)(hl:len≤1048576):∃h',appendTo z c [] 0 h nx=.val c h' nx∧∀b:Key,ag b h'=ag b h:=by
 rcases g with⟨rfl,rfl,rfl,rfl⟩|⟨b,k,rfl,rfl,h2,h3,h4,hk⟩|⟨t,rfl,rfl,h2,h3⟩
 ·exact⟨h,by simp,fun _=>rfl⟩
 ·rcases hk with rfl|rfl
  ·exact⟨h,by simp[h2,hl],fun _=>rfl⟩
  ·refine⟨au b (Qz l) h,by simp[h2,hl,h4],fun x=>?_⟩;by_cases e:x=b
   ·subst e;simp[h2]
   ·rw[aD _ _ _ _ e]
 ·exact⟨h,by simp,fun _=>rfl⟩
end Go.Sx
namespace Ln
open Go.Sx Go
variable{C:bH}{X:Kn}(S:Std C X)
include S
end Ln
namespace Ln
open Go.Sx Go
theorem _root_.Go.Sx.CZ.cut{h h' h2:T ai}{nx nx' n2:Key}{o8 o6:Option Key}(a:CZ h nx none h' nx' o8)(b:CZ h' nx' none h2 n2 o6):CZ h nx none h2 n2 o6:=by
 have n1:=a.n;refine⟨Nat.le_trans a.n b.n,fun x hx _=>?_,?_⟩
 ·rw[b.g x (by omega) (by simp)];exact a.g x hx (by simp)
 ·rcases b.o with e|⟨y,e,hy⟩
  ·exact .inl e
  ·exact .inr ⟨y,e,by omega⟩
theorem _root_.Go.Sx.Rd.frm{z:Nat}{c:AV}{l:List AV}{len:Nat}{h h':T ai}{nx nx':Key}{ob:Option Key}(g:Rd z c l len h nx)(e:CZ h nx none h' nx' ob):Rd z c l len h' nx':=
 g.ext ⟨e.n,fun b hb=>e.g b hb (by simp)⟩
theorem _root_.Go.Sx.Gr.aaM{z:Nat}{c:AV}{α:Type}{enc:α→List AV}(F:Flat z enc){us:List α}{h:T ai}{nx:Key}{ob:Option Key}(g:Gr z c (ak enc us) us.length h nx ob)(n:Nat):qf z enc (aO (n+1) c h).1 us∧∀b:Key,ob≠some b→ag b (aO (n+1) c h).2=ag b h:=by
 rcases g with⟨rfl,e1,e2,_⟩|⟨b,k,rfl,rfl,hb,_,hl,hk⟩|⟨t,rfl,rfl,_⟩
 ·exact⟨.inl ⟨rfl,zqr e2⟩,fun _ _=>rfl⟩
 ·rcases hk with rfl|rfl
  ·rw[pD hb hl (F.FB us)];exact⟨.inr rfl,fun x hx=>aD _ _ _ _ (fun e=>hx (by rw[e]))⟩
  ·rw[mg hb hl (F.FB us)];exact⟨.inr rfl,fun x hx=>aD _ _ _ _ (fun e=>hx (by rw[e]))⟩
 ·exact⟨.inr rfl,fun _ _=>rfl⟩
variable{C:bH}{X:Kn}(S:Std C X)
include S
end Ln
namespace Ln
open Go.Sx Go
variable{C:bH}{X:Kn}(S:Std C X)
include S
end Ln
namespace Ln
open Go.Sx Go
theorem _root_.Go.Sx.Rd.app{z:Nat}{c:AV}{α:Type}{enc:α→List AV}{us:List α}{h:T ai}{nx:Key}(F:Flat z enc)(g:Rd z c (ak enc us) us.length h nx){C:bH}{Q:cJ}{L:List ay}{tm:T AV}{n2 k1 k3 d:Key}{s c':AV}{h':T ai}{n':Key}(ha:appendTo z s (ak enc us) us.length h n2=.val c' h' n')
  (h1:ag k1 tm=some c) (h3:ag k3 tm=some s):qg C Q (⟨some d,.append z (.t k3) (.t k1),none⟩ ::L) tm h n2=qg C Q L (au d (some c') tm) h' n':=by
 have hr:=F.rows us;have WT:List.take (us.length*z) (ak enc us)=ak enc us:=PH (by omega);have hz:aY (aO 9999) (ak enc us) h=(ak enc us,h):=bw (F.FB _);rcases g with⟨rfl,e1,e2⟩|⟨f,rfl⟩|⟨b,kk,rfl,hb,_,_⟩
 ·have e0:us=[]:=zqr e2;subst e0;simp[-appendTo]at ha;simp[-appendTo,h1,h3,ha]
 ·simp[-appendTo,h1,h3,ha]
 ·simp[-appendTo,h1,h3,hb,hr,WT,hz,ha]
theorem _root_.Go.Sx.Gr.own{z:Nat}{c:AV}{l:List AV}{len:Nat}{h:T ai}{nx:Key}{ob:Option Key}(g:Gr z c l len h nx ob){b:Key}{o n z':Nat}(e:c=.slice b o n z'):ob=some b:=by
 rcases g with⟨rfl,_⟩|⟨b',k,rfl,rfl,_⟩|⟨t,rfl,rfl,_⟩
 ·cases e
 ·cases e;rfl
 ·cases e
def A9(p:List Nat):List Int:=p.map fun k:Nat=>(k:Int)
variable{C:bH}{X:Kn}(S:Std C X)
include S
end Ln
namespace Ln
open Go.Sx Go
theorem _root_.Go.Sx.Rd.aaM{z:Nat}{c:AV}{α:Type}{enc:α→List AV}(F:Flat z enc){us:List α}{h:T ai}{nx n0:Key}(g:Rd z c (ak enc us) us.length h nx)(hn:∀b o n z',c=.slice b o n z'→n0.toNat≤b.toNat)(n:Nat) :
  qf z enc (aO (n+1) c h).1 us∧∀b:Key,b.toNat<n0.toNat→ag b (aO (n+1) c h).2=ag b h:=by
 rcases g with⟨rfl,e1,e2⟩|⟨f,rfl⟩|⟨b,k,rfl,hb,_,hl⟩
 ·exact⟨.inl ⟨rfl,zqr e2⟩,fun _ _=>rfl⟩
 ·exact⟨.inr rfl,fun _ _=>rfl⟩
 ·have h0:=hn b _ _ _ rfl;cases k with
  |part=>rw[pD hb hl (F.FB us)];exact⟨.inr rfl,fun x hx=>aw (by omega)⟩
  |fix=>rw[mg hb hl (F.FB us)];exact⟨.inr rfl,fun x hx=>aw (by omega)⟩
  |ro=>rw[amS hb hl (F.FB us)];exact⟨.inr rfl,fun x hx=>rfl⟩
  |rop=>rw[ahD hb hl (F.FB us)];exact⟨.inr rfl,fun x hx=>rfl⟩
variable{C:bH}{X:Kn}(S:Std C X)
include S
end Ln
namespace Ln
open Go.Sx Go
abbrev Ci:=Int×St
def eD(c:Ci):List AV:=[I c.1,I c.2.k,I c.2.n,.str 0 0,aC c.2.kids]
def toC(c:Ci):Cf St:=(c.1.toNat,c.2)
def ofC(c:Cf St):Ci:=((c.1:Int),c.2)
theorem ahe(c:Cf St):toC (ofC c)=c:=by simp[toC,ofC]
theorem alK(c:Cf St):eD (ofC c)=eC c:=rfl
def WJ(a b:Ci):Prop:=a.1<b.1∨a.1=b.1∧qS a.2 b.2<0
theorem awg{a b c:Ci}(h:WJ a b)(k:WJ b c):WJ a c:=by
 rcases h with h|⟨h1,h2⟩<;>rcases k with k|⟨k1,k2⟩
 ·exact .inl (by omega)
 ·exact .inl (by omega)
 ·exact .inl (by omega)
 ·exact .inr ⟨by omega,J4 h2 k2⟩
def FN(n:Nat)(l:List Ci):Prop:=∀(q:Nat) (hq:q<l.length),0≤l[q].1∧l[q].1<((2^n:Nat):Int)∧∀_:0<q,WJ l[q-1] l[q]
def J5(n:Nat)(l:List Ci)(j:Nat):Prop:=∀(q:Nat) (hq:q<l.length),q<j→0≤l[q].1∧l[q].1<((2^n:Nat):Int)∧∀_:0<q,WJ l[q-1] l[q]
theorem J5.zero(n:Nat)(l:List Ci):J5 n l 0:=fun q hq h=>absurd h (by omega)
theorem J5.all{n:Nat}{l:List Ci}(h:J5 n l l.length):FN n l:=fun q hq=>h q hq hq
theorem J5.step{n:Nat}{l:List Ci}{j:Nat}(h:J5 n l j)(hj:j<l.length)(h1:0≤l[j].1)(h2:l[j].1<((2^n:Nat):Int))(h3:∀_:0<j,WJ l[j-1] l[j]):J5 n l (j+1):=by
 intro q hq hqj;by_cases e:q=j
 ·subst e;exact⟨h1,h2,h3⟩
 ·exact h q hq (by omega)
theorem FN.pos{n:Nat}{l:List Ci}(h:FN n l):∀c∈l,0≤c.1:=by intro c hc;obtain⟨i,hi,rfl⟩:=List.getElem_of_mem hc;exact(h i hi).1
theorem FN.lt{n:Nat}{l:List Ci}(h:FN n l):∀c∈l.map toC,c.1<2^n:=by intro c hc;obtain⟨x,hx,rfl⟩:=M4.1 hc;obtain⟨i,hi,rfl⟩:=List.getElem_of_mem hx;have:=h i hi;show l[i].1.toNat<_;omega
theorem FN.up{n:Nat}{l:List Ci}(h:FN n l):∀(d i:Nat) (hj:i+d+1<l.length),WJ (l[i]'(by omega)) l[i+d+1]
 |0,i,hj=>by have:=(h (i+1) hj).2.2 (by omega);simpa using this
 |d+1,i,hj=>by
  have h1:=FN.up h d i (by omega);have h2:=(h (i+(d+1)+1) hj).2.2 (by omega);have e:i+(d+1)+1-1=i+d+1:=by omega
  simp only[e]at h2;exact awg h1 h2
def adT(S:Sys St)(c0:Cf St)(l:List (Cf St)):Prop:=c0∈l∧∀c∈l,S.acc c.1=false∧∀x∈S.steps c,x.2∈l
def cI(a b:Int):Int:=if a<b then -1 else if b<a then 1 else 0
def abv(a b:Ci):Int:=if a.1<b.1 then -1 else if b.1<a.1 then 1 else qS a.2 b.2
theorem asW{a b:Ci}:abv a b<0↔WJ a b:=by
 unfold abv WJ;by_cases h:a.1<b.1
 ·simp[h]
 ·by_cases h2:b.1<a.1
  ·simp[h,h2];omega
  ·have:a.1=b.1:=by omega
   simp[h,h2,this]
theorem ahO{a b:Ci}:abv a b=0↔a=b:=by
 unfold abv;by_cases h:a.1<b.1
 ·simp[h];rintro rfl;omega
 ·by_cases h2:b.1<a.1
  ·simp[h,h2];rintro rfl;omega
  ·have e:a.1=b.1:=by omega
   simp[h,h2];constructor
   ·intro q;exact Prod.ext e (H4.1 q)
   ·rintro rfl;exact H4.2 rfl
variable{C:bH}{X:Kn}(S:Std C X)
include S
theorem apJ(a:Int){h:T ai}{nx:Key}:aB C je [I a] h nx (fun o h' nx'=>o=.ret (.bool false)∧h'=h∧nx'=nx):=by refine S.Ey.call ?_;simp[cmp_isNaN_int];simp[CI];simp[CJ]
theorem akv(a b:Int){h:T ai}{nx:Key}:aB C jo [I a,I b] h nx (fun o h' nx'=>o=.ret (I (cI a b))∧h'=h∧nx'=nx):=by
 have rn:=S.r je;refine S.AJ.call ?_;simp[wL];simp[zm];simp[zn,rn];refine(apJ S a).mono ?_;rintro o h1 bW ⟨rfl,rfl,rfl⟩;simp;simp[zo,rn];refine(apJ S b).mono ?_;rintro o h1 bW ⟨rfl,rfl,rfl⟩;simp;simp[zp];simp[zq];by_cases h1:a<b
 ·simp[qs,h1];simp[xF,cI,h1]
 ·simp[qs,h1];by_cases h2:b<a
  ·simp[pB,h2];simp[xG,cI,h1,h2]
  ·simp[pB,h2];simp[xH,cI,h1,h2]
omit S in
theorem att{a b:Int}{j:Nat}(hj:j<2):List.take 1 (List.drop j [I a,I b])=[I (if j=0 then a else b)]:=by
 match j,hj with
 |0,_=>rfl
 |1,_=>rfl
def OrI(a b:Int)(h:T ai)(nx:Key)(m:Nat)(aA:T AV)(h':T ai)(nx':Key):Prop:=∃j:Nat,m=2-j∧j≤2∧ag (K 3) aA=some (I 0)∧ag (K 6) aA=some (.sl [I a,I b] 2 1 .any)∧ag (K 7) aA=some (I 2)∧ag (K 8) aA=some (I j)∧h'=h∧nx'=nx∧(0<j→a=0)∧(1<j→b=0)
theorem aEb(a b:Int){h:T ai}{nx:Key}:aB C sm [.sl [I a,I b] 2 1 .any] h nx (fun o h' nx'=>o=.ret (I (if a=0 then b else a))∧h'=h∧nx'=nx):=by
 refine S.Mw.call ?_;simp[Kt];simp[Jz];simp[JA];simp[JB];refine W.iM (n:=2) (OrI a b h nx) ⟨0,by simp,by omega,by simp,by simp,by simp,by simp,rfl,rfl,by omega,by omega⟩ ?_;rintro m gh h1 bW ⟨j,rfl,hj,g3,g6,g7,g8,rfl,rfl,ha,hb⟩;refine W.of ?_;simp[JC];by_cases hj2:j<2
 ·have PF:(j:Int)<2:=by omega
  have tx:1≤2-j:=by omega
  have tg:=att (a:=a) (b:=b) hj2;simp[Bv,g7,g8,PF];simp[JD,g6,g8,hj2,tx,tg];by_cases hz:(if j=0 then a else b)=0
  ·simp[Bw,g3,hz];simp[JE,g8];rw[aS (by omega) (by omega)];refine⟨2-(j+1),by omega,j+1,rfl,by omega,by simp[g3],by simp[g6],by simp[g7],by simp,rfl,rfl,?_,?_⟩
   ·intro _;by_cases h0:j=0
    ·rw[if_pos h0]at hz;exact hz
    ·exact ha (by omega)
   ·intro _;rw[if_neg (by omega)]at hz;exact hz
  ·simp[Bw,g3,bq hz];simp[JF];by_cases h0:j=0
   ·rw[if_pos h0]at hz;simp[h0,hz]
   ·have:=ha (by omega);simp[h0,this]
 ·have PC:j=2:=by omega
  subst PC;have h1:=ha (by omega);have h2:=hb (by omega);simp[Bv,g7,g8];simp[JG,g3,h1,h2]
theorem Tu{a b:Ci}(ha:a.2.kids.length≤3)(hb:b.2.kids.length≤3):Pur C fR [.agg (eD a),.agg (eD b)] (·=.ret (I (abv a b))):=by
 intro h nx;have s1:=kTSu nx;have s2:=kTSu nx.succ;have s3:=kTSu nx.succ.succ;have rC:=S.r jo;have rV:=S.r jS;have rO:=S.r sm;have ac1:=cG a.2.kids;have ac2:=cG b.2.kids;have af1:∀n H,aO n (aC a.2.kids) H=(aC a.2.kids,H):=dY _;have af2:∀n H,aO n (aC b.2.kids) H=(aC b.2.kids,H):=dY _;obtain⟨a1,a2⟩:=a;obtain⟨b1,b2⟩:=b;refine S.Co.call ?_;simp[zb];simp[AW,eD,ac1.1,ac2.1];have e1:=(E0 h nx (.cells (eD (a1,a2)) .fix)).trans (E0 _ nx.succ (.cells (eD (b1,b2)) .fix));have q1:ag nx (au nx.succ (Qz (eD (b1,b2))) (au nx (Qz (eD (a1,a2))) h))=Qz (eD (a1,a2)):=by rw[aw (by omega)];simp
 have q2:ag nx.succ (au nx.succ (Qz (eD (b1,b2))) (au nx (Qz (eD (a1,a2))) h))=Qz (eD (b1,b2)):=by simp
 simp only[eD]at e1 q1 q2;generalize au nx.succ (Qz [I b1,I b2.k,I b2.n,.str 0 0,aC b2.kids]) (au nx (Qz [I a1,I a2.k,I a2.n,.str 0 0,aC a2.kids]) h)=h1 at *;simp[AX,q1,q2,rC,af1,af2];refine(akv S a1 b1).mono ?_;rintro o h2 aZ ⟨rfl,rfl,rfl⟩;have bs1:=aw9 a2;have bs2:=aw9 b2;simp[eS]at bs1 bs2;simp[q1,q2,bs1,bs2,rV,af1,af2];refine aB.known (S.s_values_Compare a2 b2 ha hb _ _) ?_;have hz:aO 9999 (.slice nx.succ.succ 0 2 1) (au nx.succ.succ (Qz [I (cI a1 b1),I (qS a2 b2)]) h2)=(.sl [I (cI a1 b1),I (qS a2 b2)] 2 1 .any,au nx.succ.succ (some (.cells [I (cI a1 b1),I (qS a2 b2)] .ro)) (au nx.succ.succ (Qz [I (cI a1 b1),I (qS a2 b2)]) h2)):=by refine mg (n:=9998) (by simp) rfl ?_;intro y hy;simp at hy;rcases hy with rfl|rfl<;>exact cX _ _
 simp[rO,hz];refine(aEb S (cI a1 b1) (qS a2 b2)).mono ?_;rintro o h2 aZ ⟨rfl,rfl,rfl⟩;simp;refine⟨?_,?_⟩
 ·unfold cI abv;by_cases h1:a1<b1
  ·simp[h1]
  ·by_cases h2:b1<a1
   ·simp[h1,h2]
   ·simp[h1,h2]
 ·exact⟨by have:=e1.n;omega,fun b hb=>by rw[aw (by omega)];exact e1.g b hb⟩
end Ln
namespace Ln
open Go.Sx Go
def vuF:Nat→Nat→List Nat
 |0,n=>[n]
 |k+1,n=>if n<128 then [n]else(128+n%128) ::vuF k (n / 128)
def vu(n:Nat):List Nat:=vuF 10 n
theorem amD{C:bH}{l:List ay}{R:cJ}{tm:T AV}{h:T ai}{nx:Key}(hw:mE C (.ops l) R tm h nx):qg C R l tm h nx:=by simpa using hw
def eY(b:Nat):List AV:=[.int .u8 (.lit (b:Int))]
theorem I2:Flat 1 eY where
 len _:=rfl
 zD x y hy:=by simp[eY]at hy;subst hy;exact cX _ _
 cell x y hy:=by simp[eY]at hy;subst hy;rfl
 lits x:=rfl
structure WS(w:Key)(c:AV)(bs:List Nat)(h:T ai)(nx n0:Key):Prop where
 lo:n0.toNat≤w.toNat
 hi:w.toNat<nx.toNat
 n:n0.toNat≤nx.toNat
 at_:ag w h=Qz [c]
 app:App c (ak eY bs) bs.length 1 h nx n0
def XS(w:Key)(h:T ai)(nx:Key)(h':T ai):Prop:=∀b:Key,b.toNat<nx.toNat→b≠w→(∀B,ag b h=some B→B≠.tok∧∀l,B≠.cells l .part)→ag b h'=ag b h
theorem XS.refl(w:Key)(h:T ai)(nx:Key):XS w h nx h:=fun _ _ _ _=>rfl
theorem XS.trans{w:Key}{h h1 h2:T ai}{nx bW:Key}(a:XS w h nx h1)(hn:nx.toNat≤bW.toNat)(b:XS w h1 bW h2):XS w h nx h2:=fun k hk hw hB=>by have e:=a k hk hw hB;rw[b k (by omega) hw (by rw[e];exact hB),e]
theorem XS.new(w:Key)(h:T ai)(nx:Key)(B:Option ai):XS w h nx (au nx B h):=fun _ hk _ _=>aw hk
theorem Ext.kp{h h':T ai}{nx nx':Key}(e:Ext h nx h' nx')(w:Key):XS w h nx h':=fun b hb _ _=>e.g b hb
theorem WS.add{w:Key}{c:AV}{bs:List Nat}{h:T ai}{nx n0:Key}(W:WS w c bs h nx n0)(new:List Nat)(hl:bs.length+new.length≤1048576) :
  ∃c' h' nx',appendTo 1 c (ak eY new) new.length h nx=.val c' h' nx'∧c'.aQ=true∧c'.cells=[c']∧ag w h'=Qz [c]∧WS w c' (bs++new) (au w (Qz [c']) h') nx' n0∧nx.toNat≤nx'.toNat∧(∀b:Key,b.toNat<n0.toNat→ag b (au w (Qz [c']) h')=ag b h)∧XS w h nx (au w (Qz [c']) h'):=by
 obtain⟨c',h',nx',a1,a2,a3,a4,a5⟩:=W.app.fH (new:=ak eY new) (m:=new.length) W.n (by rw[I2.rows]) hl (I2.aBS new);have hw:ag w h'=Qz [c]:=by rw[a5 w W.hi (fun B hB=>by rw[W.at_]at hB;cases hB;exact⟨by simp,by simp⟩)];exact W.at_
 have⟨x1,x2⟩:=a2.cell;refine⟨c',h',nx',a1,x1,x2,hw,⟨W.lo,by have:=W.hi;omega,by have:=W.n;omega,by rw[gTSm],?_⟩,a3,fun b hb=>by rw[aw (by have:=W.lo;omega)];exact a4 b hb,fun b hb hw2 hB=>by rw[aD _ _ _ _ hw2];exact a5 b hb hB⟩;have:=a2.set (k:=w) (B:=Qz [c']) (fun B hB=>by rw[hw]at hB;cases hB;exact⟨by simp,by simp⟩);rw[gZ,xa];exact this
theorem WS.ext{w:Key}{c:AV}{bs:List Nat}{h h':T ai}{nx nx' n0:Key}(W:WS w c bs h nx n0)(e:Ext h nx h' nx'):WS w c bs h' nx' n0:=
 ⟨W.lo,by have:=W.hi;have:=e.n;omega,by have:=W.n;have:=e.n;omega,by rw[e.g w W.hi];exact W.at_,W.app.ext e⟩
def jP(w:Key)(bs:List Nat)(h:T ai)(nx n0:Key)(o:Out)(h':T ai)(nx':Key):Prop:=o=.ret (.tuple [])∧∃c',WS w c' bs h' nx' n0∧nx.toNat≤nx'.toNat∧(∀b:Key,b.toNat<n0.toNat→ag b h'=ag b h)∧XS w h nx h'
theorem wrap_u8(n:Nat):bG .u8 (n:Int)=((n%256:Nat):Int):=by rw[dx];simp[IntKind.wrap,IntKind.bits,IntKind.signed]
theorem awK(n:Nat):arith .or .u8 (.lit ((n%256:Nat):Int)) (.lit 128)=some (.lit ((128+n%128:Nat):Int)):=by
 have key:∀x:Fin 256,bG .u8 (.ofNat (Nat.lor (QM .u8 ((x.val:Nat):Int)) (QM .u8 128)))=((128+x.val%128:Nat):Int):=by decide +kernel
 have e:=key ⟨n%256,Nat.mod_lt _ (by omega)⟩;have e2:arith .or .u8 (.lit ((n%256:Nat):Int)) (.lit 128)=some (.lit (bG .u8 (.ofNat (Nat.lor (QM .u8 ((n%256:Nat):Int)) (QM .u8 128))))):=rfl;rw[e2,e];simp only;congr 3;omega
theorem aBT(orc:jK)(n:Nat)(k:Key)(tm:T AV)(h:T ai)(hk:ag k tm=some (.int .u64 (.lit (n:Int)))):lightOp orc (.bin .shr (.t k) (.v (.int .u64 (.lit 7)))) tm h=some (.int .u64 (.lit ((n / 128:Nat):Int))):=by simp only[lightOp,at_t,at_v,hk];rfl
theorem auq(orc:jK){k:Key}{v:AV}{tm:T AV}{h:T ai}(hk:ag k tm=some v):lightOp orc (.mov (.t k)) tm h=some v:=by simp[hk]
theorem awL{C:bH}{Q:cJ}{tm:T AV}{h:T ai}{nx:Key}{n d:Nat}(hd:d=n / 128)(f1:ag (K 1) tm=some (.int .u64 (.lit (n:Int))))
  (hQ:Q .norm (au (K 1) (some (.int .u64 (.lit (d:Int)))) (au (K 19) (some (.int .u64 (.lit (d:Int)))) (au (K 18) (some (.int .u64 (.lit (n:Int)))) tm))) h nx):mE C (.ops o9) Q tm h nx:=by
 subst hd;have e1:=auq C.orc (h:=h) f1;have e2:=aBT C.orc n (K 18) (au (K 18) (some (.int .u64 (.lit (n:Int)))) tm) h (by simp);have e3:=auq C.orc (k:=K 19) (v:=.int .u64 (.lit ((n / 128:Nat):Int))) (tm:=au (K 19) (some (.int .u64 (.lit ((n / 128:Nat):Int)))) (au (K 18) (some (.int .u64 (.lit (n:Int)))) tm)) (h:=h) (by simp);generalize n / 128=d at e2 e3 hQ;simp only[kj,kn,ko,kl,km,o9,aG7,aBU,aBV,lX,aaB,wants_none,WR,aOp,okV,e1,e2,e3,putTm_some,arj];exact hQ
variable{C:bH}
def aur(w:Key)(bs:List Nat)(n:Nat)(h:T ai)(nx n0:Key)(k:Nat)(aA:T AV)(h':T ai)(nx':Key):Prop:=
 ∃(n':Nat) (bs':List Nat) (c':AV),k≤10∧ag (K 0) aA=some (.ptr w 0)∧ag (K 1) aA=some (.int .u64 (.lit (n':Int)))∧WS w c' bs' h' nx' n0∧n'*128^(10-k)<18446744073709551616∧bs'++vuF k n'=bs++vu n∧bs'.length≤bs.length+(10-k)∧
  nx.toNat≤nx'.toNat∧(∀b:Key,b.toNat<n0.toNat→ag b h'=ag b h)∧XS w h nx h'
theorem alw(S:Fn C fO nM){w:Key}{c:AV}{bs:List Nat}{h:T ai}{nx n0:Key}(Ws:WS w c bs h nx n0){n:Nat}(hn:n<18446744073709551616)(hl:bs.length≤100000) :
  aB C fO [.ptr w 0,.int .u64 (.lit (n:Int))] h nx (jP w (bs++vu n) h nx n0):=by
 refine S.call ?_;simp[nM];refine W.iM (n:=10) (aur w bs n h nx n0) ?_ ?_
 ·exact⟨n,bs,c,by omega,by simp,by simp,Ws,by simpa using hn,rfl,by omega,gi _,fun _ _=>rfl,XS.refl _ _ _⟩
 ·rintro k gh h1 bW ⟨n',bs',c',hk,f0,f1,W1,dn,hbs,hlen,hnx,hfr,hkp⟩;refine W.of ?_;simp[xd];have s1:=kTSu bW;by_cases hsm:n'<128
  ·have awM:(n':Int)<128:=by omega
   have hv:vuF k n'=[n']:=by cases k<;>simp[vuF,hsm]
   simp[pg,f1,awM];obtain⟨m,hm⟩:∃m,m=n'%256:=⟨_,rfl⟩;have h12:bG .u8 (n':Int)=(m:Int):=by rw[wrap_u8,hm]
   have hmn:m=n':=by omega
   obtain⟨c2,h2,aZ,g,x1,x2,x3,W2,x5,x6,x7⟩:=(W1.ext (E0 h1 bW (.cells [.int .u8 (.lit (m:Int))] .fix))).add [m] (by simp;omega);have hr1:ak eY [m]=[.int .u8 (.lit (m:Int))]:=hJ _ _;rw[hr1]at g;simp only[List.length_singleton]at g;have hz:∀H,aY (aO 9999) [AV.int .u8 (.lit (m:Int))] H=([AV.int .u8 (.lit (m:Int))],H):=fun H=>bw (by intro y hy;simp at hy;subst hy;exact cX _ _);simp[-appendTo,xe,f0,f1,W1.at_,h12,hz,g,x1,x2,x3];refine⟨rfl,c2,by rw[←hbs,hv,←hmn];exact W2,by omega,fun b hb=>?_,(hkp.trans hnx (XS.new w h1 bW _)).trans (by omega) x7⟩;rw[x6 b hb,aw (by have:=W1.n;omega)];exact hfr b hb
  ·have awM:¬(n':Int)<128:=by omega
   cases k with
   |zero=>
    exfalso;have:(128:Nat)^(10-0)=1180591620717411303424:=by decide
    rw[this]at dn;omega
   |succ k=>
    simp[pg,f1,awM];obtain⟨m,hm⟩:∃m,m=n'%256:=⟨_,rfl⟩;obtain⟨y,hy⟩:∃y,y=128+n'%128:=⟨_,rfl⟩;have h12:bG .u8 (n':Int)=(m:Int):=by rw[wrap_u8,hm]
    have h13:arith .or .u8 (.lit (m:Int)) (.lit 128)=some (.lit (y:Int)):=by rw[hm,awK,hy]
    obtain⟨c2,h2,aZ,g,x1,x2,x3,W2,x5,x6,x7⟩:=(W1.ext (E0 h1 bW (.cells [.int .u8 (.lit (y:Int))] .fix))).add [y] (by simp;omega);have hr1:ak eY [y]=[.int .u8 (.lit (y:Int))]:=hJ _ _;rw[hr1]at g;simp only[List.length_singleton]at g;have hz:∀H,aY (aO 9999) [AV.int .u8 (.lit (y:Int))] H=([AV.int .u8 (.lit (y:Int))],H):=fun H=>bw (by intro z hz;simp at hz;subst hz;exact cX _ _);simp[-appendTo,-arith,xf,f0,f1,W1.at_,h12,h13,hz,g,x1,x2,x3];refine amD (awL (n:=n') (d:=n' / 128) rfl (by simp[f1]) ?_);simp;refine⟨k,by omega,?_⟩;unfold aur;have hp:10-k=(10-(k+1))+1:=by omega
    refine⟨n' / 128,bs' ++ [y],c2,by omega,?_,?_,W2,?_,?_,?_,by omega,fun b hb=>?_,(hkp.trans hnx (XS.new w h1 bW _)).trans (by omega) x7⟩
    ·simp[f0]
    ·simp
    ·rw[hp,Nat.pow_succ];have:n' / 128*(128^(10-(k+1))*128)≤n'*128^(10-(k+1)):=by rw[Nat.mul_comm (128^_) 128,←Nat.mul_assoc];exact Nat.mul_le_mul_right _ (Nat.div_mul_le_self _ _)
     omega
    ·rw[←hbs,vuF,if_neg hsm,hy,List.append_assoc];rfl
    ·rw[xa,List.length_singleton];omega
    ·rw[x6 b hb,aw (by have:=W1.n;omega)];exact hfr b hb
theorem ai8(n:Int):bG .u64 n=((n.emod 18446744073709551616).toNat:Int):=by rw[dx];simp only[IntKind.wrap,IntKind.bits,IntKind.signed];have e:n.emod 18446744073709551616=n%18446744073709551616:=rfl;rw[e];simp;omega
theorem ark{q n0:Key}{h:T ai}{nx:Key}(hq:ag q h=Qz [])(vk:n0.toNat≤q.toNat)(hn:n0.toNat≤nx.toNat)(m:List Nat)(hl:m.length≤1048576) :
  ∃c' h' nx',appendTo 1 (.slice q 0 0 1) (ak eY m) m.length h nx=.val c' h' nx'∧nx.toNat≤nx'.toNat∧qf 1 eY (aO 9999 c' h').1 m∧∀b:Key,b.toNat<n0.toNat→ag b (aO 9999 c' h').2=ag b h:=by
 by_cases hm:m=[]
 ·subst hm;have hz:=mg (n:=9998) (b:=q) (len:=0) (sz:=1) (l:=[]) (H:=au q (Qz []) h) (by rw[gTSm]) rfl (by simp);refine⟨.slice q 0 0 1,au q (Qz []) h,nx,by simp[hq],gi _,?_,fun b hb=>?_⟩
  ·rw[hz];exact .inr rfl
  ·rw[hz,aw (by omega),aw (by omega)]
 ·have hmp:0<m.length:=List.length_pos_iff.2 hm;have Nq:¬m.length=0:=by omega
  have hr:=I2.rows m;have J9:=I2.aBS m;have hz:=pD (n:=9998) (b:=nx) (len:=m.length) (sz:=1) (l:=ak eY m) (H:=au nx (some (.cells (ak eY m) .part)) h) (by rw[gTSm]) hr (I2.FB m);refine⟨.slice nx 0 m.length 1,au nx (some (.cells (ak eY m) .part)) h,nx.succ,?_,by rw[kTSu];omega,?_,fun b hb=>?_⟩
  ·simp[hq,hl,J9,Nq]
  ·rw[hz];exact .inr rfl
  ·rw[hz,aw (by omega),aw (by omega)]
theorem amF(S:Fn C fP nN){w:Key}{c:AV}{bs:List Nat}{h:T ai}{nx n0:Key}(Ws:WS w c bs h nx n0)(hl:bs.length≤1048576) :
  aB C fP [.ptr w 0] h nx (fun o h' nx'=>(∃c',o=.ret c'∧qf 1 eY c' bs)∧Ext h nx h' nx'):=by
 have s1:=kTSu nx;refine S.call ?_;have DH:ag w (au nx (Qz []) h)=Qz [c]:=by rw[aw Ws.hi];exact Ws.at_
 simp[nN];simp[xg];obtain⟨c',h',nx',g,hn,hR,hf⟩:=ark (q:=nx) (n0:=nx) (h:=au nx (Qz []) h) (nx:=nx.succ) (by rw[gTSm]) (gi _) (by omega) bs hl;have hE:Ext h nx (aO 9999 c' h').2 nx':=⟨by omega,fun b hb=>by rw[hf b hb,aw hb]⟩;rcases Ws.app.is with⟨rfl,e1,e2⟩|⟨b,rfl,hb,vk,dn,ZV⟩|⟨t,rfl,ht,vk,dn⟩
 ·have:bs=[]:=zqr e2;subst this;simp only[ai9,List.length_nil]at g;simp[-appendTo,jM,DH,g];exact⟨hR,hE⟩
 ·have hb2:ag b (au nx (Qz []) h)=some (.cells (ak eY bs) .part):=by rw[aw dn];exact hb
  have hz:∀H,aY (aO 9999) (ak eY bs) H=(ak eY bs,H):=fun H=>bw (I2.FB bs);have hle:bs.length≤(ak eY bs).length:=by rw[I2.rows];omega
  have WT:List.take bs.length (ak eY bs)=ak eY bs:=PH (by rw[I2.rows];omega);simp[-appendTo,jM,DH,hb2,hz,hle,WT,g];exact⟨hR,hE⟩
 ·simp[-appendTo,jM,DH,g];exact⟨hR,hE⟩
end Ln
namespace Ln
open Go.Sx Go
abbrev mD(n:Nat):AV:=.int .u64 (.lit (n:Int))
def PE(a b:Nat):Nat:=Nat.xor a b%18446744073709551616
def orU(a b:Nat):Nat:=Nat.lor a b%18446744073709551616
def agL(a b:Nat):Nat:=a*b%18446744073709551616
def adV(a k:Nat):Nat:=a*2^k%18446744073709551616
def UI(n:Int):Nat:=(n.emod 18446744073709551616).toNat
theorem Ol(n:Int):bG .u64 n=((UI n:Nat):Int):=ai8 n
theorem azi(a b:Nat):arith .mul .u64 (.lit (a:Int)) (.lit (b:Int))=some (.lit ((agL a b:Nat):Int)):=by show some (SI.lit (bG .u64 (Int.mul (a:Int) (b:Int))))=_;rw[Ol];rfl
section
variable{C:bH}{Q:cJ}{L:List ay}{tm:T AV}{h:T ai}{nx d x y:Key}
theorem tQ{o:BinOp}{a b:PX}{v:AV}(hl:lightOp C.orc (.bin o a b) tm h=some v):qg C Q (⟨some d,.bin o a b,none⟩ ::L) tm h nx=qg C Q L (au d (some v) tm) h nx:=by simp only[kj,kn,ko,kl,km,aaB,wants_none,WR,aOp,okV,hl,putTm_some]
theorem XR(a b:Nat)(h1:ag x tm=some (mD a))(h2:ag y tm=some (mD b)):qg C Q (⟨some d,.bin .xor (.t x) (.t y),none⟩ ::L) tm h nx=qg C Q L (au d (some (mD (PE a b))) tm) h nx:=
 tQ (by simp only[lightOp,at_t,h1,h2];rfl)
theorem aw5(a b:Nat)(h1:ag x tm=some (mD a))(h2:ag y tm=some (mD b)):qg C Q (⟨some d,.bin .or (.t x) (.t y),none⟩ ::L) tm h nx=qg C Q L (au d (some (mD (orU a b))) tm) h nx:=
 tQ (by simp only[lightOp,at_t,h1,h2];rfl)
theorem apK(a:Nat)(h1:ag x tm=some (mD a)):qg C Q (⟨some d,.bin .mul (.t x) (.v (.int .u64 (.lit 11400714819323198485))),none⟩ ::L) tm h nx=qg C Q L (au d (some (mD (agL a 11400714819323198485))) tm) h nx:=
 tQ (by simp only[lightOp,at_t,at_v,h1];show(match arith .mul .u64 (.lit (a:Int)) (.lit ((11400714819323198485:Nat):Int))with|some r=>some (AV.int .u64 r)|none=>none)=_;rw[azi])
theorem am8(a:Nat)(h1:ag x tm=some (mD a)):qg C Q (⟨some d,.bin .shl (.t x) (.v (.int .u64 (.lit 8))),none⟩ ::L) tm h nx=qg C Q L (au d (some (mD (adV a 8))) tm) h nx:=
 tQ (by simp only[lightOp,at_t,at_v,h1];show some (AV.int .u64 (.lit (bG .u64 (Int.mul (a:Int) (.ofNat (Nat.pow 2 8))))))=_;rw[Ol];rfl)
theorem akw(a:Nat)(h1:ag x tm=some (mD a)):qg C Q (⟨some d,.bin .shr (.t x) (.v (.int .u64 (.lit 32))),none⟩ ::L) tm h nx=qg C Q L (au d (some (mD (a / 4294967296))) tm) h nx:=
 tQ (by simp only[lightOp,at_t,at_v,h1];rfl)
end
def Mz(s w:Nat):Nat:=PE (agL (PE s w) 11400714819323198485) (agL (PE s w) 11400714819323198485 / 4294967296)
variable{C:bH}{X:Kn}(S:Std C X)(H:Na C)
include S H
theorem Zw(s w:Nat){h:T ai}{nx:Key}:aB C gB [mD s,mD w] h nx (fun o h' nx'=>o=.ret (mD (Mz s w))∧h'=h∧nx'=nx):=by refine H.Tp.call ?_;simp[Tq];simp[Pj];simp[Pk,↓XR s w,↓apK (PE s w)];simp[Pl,↓akw (agL (PE s w) 11400714819323198485),↓XR (agL (PE s w) 11400714819323198485) (agL (PE s w) 11400714819323198485 / 4294967296)];rfl
end Ln
namespace Ln
open Go.Sx Go
variable{C:bH}{X:Kn}(S:Std C X)
include S
end Ln
namespace Ln
open Go.Sx Go
def Zd(os:List Op)(k d q:Nat):Bool:=!(d.testBit q&&before (os.getD k default) (os.getD q default)) && !(!d.testBit q&&decide (0≤(os.getD q default).e)&&before (os.getD q default) (os.getD k default))
def TY(os:List Op)(k d:Nat):Bool:=!d.testBit k&&(List.range os.length).all (Zd os k d)
theorem ais{os:List Op}(hb:∀o∈os,before o o=false){k d q:Nat}(hk:k<os.length):Zd os k d q=ayX os k d q:=by
 unfold Zd ayX;by_cases e:q=k
 ·subst e;have:=hb _ (UG hk);rw[FO hk,this];simp
 ·have:(q==k)=false:=by simpa using e
  rw[this,Bool.false_or];cases d.testBit q<;>cases before (os.getD k default) (os.getD q default)<;>cases before (os.getD q default) (os.getD k default)<;>cases decide (0≤(os.getD q default).e)<;>rfl
theorem asi{os:List Op}(hb:∀o∈os,before o o=false){k d:Nat}(hk:k<os.length):TY os k d=PG os k d:=by have:PG os k d=(!d.testBit k&&(List.range os.length).all (ayX os k d)):=rfl;rw[this];unfold TY;congr 1;rw[Bool.eq_iff_iff,xM,xM];exact⟨fun h q hq=>by rw[←ais hb hk];exact h q hq,fun h q hq=>by rw[ais hb hk];exact h q hq⟩
theorem ait{d k:Nat}(hd:d<65536):bG .i64 ((QM .i64 ((d.div (2^k):Nat):Int) &&& QM .i64 1:Nat):Int)=if d.testBit k=true then 1 else 0:=by
 have h1:d.div (2^k)≤d:=Nat.div_le_self _ _;have h2:QM .i64 ((d.div (2^k):Nat):Int)=d.div (2^k):=ue (by omega);have h3:QM .i64 1=1:=by decide
 rw[h2,h3,Nat.and_one_is_mod,aS (by omega) (by omega),Nat.testBit_eq_decide_div_mod_eq];show(((d / 2^k)%2:Nat):Int)=_;by_cases h:d / 2^k%2=1
 ·simp[h]
 ·have:d / 2^k%2=0:=by omega
  simp[this]
def TiI(X:Kn)(os:List Op)(cells:List AV)(cO:AV)(k d:Nat)(bj:Key)(h:T ai)(nx:Key)(m:Nat)(aA:T AV)(h':T ai)(nx':Key):Prop:=∃j:Nat,m=os.length-j∧j≤os.length∧ag (K 0) aA=some (.ptr bj 0)∧ag (K 1) aA=some (I k)∧ag (K 2) aA=some (I d)∧ag (K 18) aA=some cO∧ag (K 19) aA=some (I os.length)∧ag (K 20) aA=some (I j)∧ag bj h'=Qz cells∧Ext h nx h' nx'∧∀q,q<j→Zd os k d q=true
variable{C:bH}{X:Kn}(S:Std C X)
include S
theorem ajG{i:Nat}{os:List Op}(ho:os.length≤16){cO:AV}(hc:qf 10 eO cO os){s0:St}{en k d:Nat}(hk:k<os.length)(hd:d<65536){h:T ai}{nx bj:Key}(hb:ag bj h=Qz (jB X i cO s0 en))(tM:bj.toNat<nx.toNat) :
  aB C fi [.ptr bj 0,I k,I d] h nx (fun o h' nx'=>o=.ret (.bool (TY os k d))∧Ext h nx h' nx'):=by
 have rB:=S.r hN;have anz:cO=.sl (ak eO os) os.length 10 .any:=by
  rcases hc with⟨_,rfl⟩|e
  ·simp at hk
  ·exact e
 subst anz;have hr:=kZ.rows os;have eck:=kZ.at hk;have tk:10≤os.length*10-k*10:=by omega
 have CU:k≤64:=by omega
 refine S.so.call ?_;simp[np];simp[qL];have ab:=ait (k:=k) hd;cases ajH:d.testBit k with
 |true=>
  rw[ajH,if_pos rfl]at ab;have:TY os k d=false:=by unfold TY;rw[ajH];rfl
  simp[jZ,Ni,CU,ab];simp[qM];exact⟨this,Ext.refl _ _⟩
 |false=>
  rw[ajH,if_neg (by simp)]at ab;have J9:TY os k d=(List.range os.length).all (Zd os k d):=by unfold TY;rw[ajH];rfl
  simp[jZ,Ni,CU,ab];simp[qO,hb,jB];refine W.iM (n:=os.length) (TiI X os (jB X i (.sl (ak eO os) os.length 10 .any) s0 en) (.sl (ak eO os) os.length 10 .any) k d bj h nx) ⟨0,by simp,by omega,by simp,by simp,by simp,by simp,by simp,by simp,by simpa[jB]using hb,Ext.refl _ _,fun q hq=>absurd hq (by omega)⟩ ?_;rintro m gh h2 aZ ⟨j,rfl,hj,g0,g1,g2,g18,g19,g20,bj2,e2,hq⟩;have n2:=e2.n;have s2:=kTSu aZ;refine W.of ?_;simp[qP];by_cases fu:j<os.length
  ·have PF:(j:Int)<os.length:=by omega
   have ecj:=kZ.at fu;have tj:10≤os.length*10-j*10:=by omega
   have j64:j≤64:=by omega
   have hoq:Zd os k d j=(!(d.testBit j&&before os[k] os[j]) && !(!d.testBit j&&decide (0≤os[j].e)&&before os[j] os[k])):=by unfold Zd;rw[FO fu,FO hk]
   have hac:(eO os[j]).all AV.aQ=true:=xM.2 (kZ.cell _);have abj:=ait (k:=j) hd;simp[j0,g19,g20,PF];simp[qQ,g18,g20,fu,hr,tj,ecj,ajs,aaY,hac];have e3:=E0 h2 aZ (.cells (eO os[j]) .fix);have bo3:ag aZ (au aZ (Qz (eO os[j])) h2)=Qz (eO os[j]):=by simp
   have bj3:ag bj (au aZ (Qz (eO os[j])) h2)=Qz (jB X i (.sl (ak eO os) os.length 10 .any) s0 en):=by rw[e3.g bj (by omega)];exact bj2
   have e23:=e2.trans e3;generalize au aZ (Qz (eO os[j])) h2=h3 at *;have fail:Zd os k d j=false→∀h' nx',Ext h nx h' nx'→(TY os k d=false∧Ext h nx h' nx'):=fun hf h' nx' e'=>⟨by rw[J9,as7 fu hf],e'⟩;have next:∀(cE:T AV) (h':T ai) (nx':Key),ag (K 0) cE=some (.ptr bj 0)→ag (K 1) cE=some (I k)→ag (K 2) cE=some (I d)→ag (K 18) cE=some (.sl (ak eO os) os.length 10 .any)→ag (K 19) cE=some (I os.length)→ag (K 20) cE=some (I j)→ag bj h'=Qz (jB X i (.sl (ak eO os) os.length 10 .any) s0 en)→Ext h nx h' nx'→Zd os k d j=true→
     qg C (bO (fun tm h' nx'=>∃m,m<os.length-j∧TiI X os (jB X i (.sl (ak eO os) os.length 10 .any) s0 en) (.sl (ak eO os) os.length 10 .any) k d bj h nx m tm h' nx') (aP 0 (bO (mE C (.seq (.ops jF) .ret) (gC [.tmp (K 6)] fun o h' nx'=>o=.ret (.bool (TY os k d))∧Ext h nx h' nx')) (gC [.tmp (K 6)] fun o h' nx'=>o=.ret (.bool (TY os k d))∧Ext h nx h' nx')))) j5 cE h' nx':=by
    intro cE h' nx' q0 q1 q2 q18 q19 q20 b' e' ym;simp[j5,q20];rw[aS (by omega) (by omega)];exact⟨os.length-(j+1),by omega,j+1,rfl,by omega,by simp[q0],by simp[q1],by simp[q2],by simp[q18],by simp[q19],by simp,b',e',as8 hq ym⟩
   cases hbj:d.testBit j with
   |true=>
    rw[hbj,if_pos rfl]at abj;rw[hbj]at hoq;simp[j6,g2,Ni,j64,abj];simp[gz,g0,g1,bj3,jB,bo3,hk,hr,tk,eck,aaY,ajs,rB,auH];refine(TZ S os[k] os[j] _ _).mono ?_;rintro o h4 mC ⟨rfl,e4⟩;have bj4:ag bj h4=Qz (jB X i (.sl (ak eO os) os.length 10 .any) s0 en):=by rw[e4.g bj (by omega)];exact bj3
    cases Iu:before os[k] os[j]with
    |true=>rw[Iu]at hoq;simp;simp[j7];exact fail (by rw[hoq];rfl) _ _ (e23.trans e4)
    |false=>rw[Iu]at hoq;simp;refine next _ _ _ ?_ ?_ ?_ ?_ ?_ ?_ bj4 (e23.trans e4) (by rw[hoq];rfl)<;>simp[g0,g1,g2,g18,g19,g20]
   |false=>
    rw[hbj,if_neg (by simp)]at abj;rw[hbj]at hoq;simp[j6,g2,Ni,j64,abj];by_cases he:os[j].e<0
    ·have he2:¬0≤os[j].e:=by omega
     simp[he2]at hoq;have e2':(eO os[j])[2]?=some (I os[j].e):=rfl;simp[gz,g0,g1,bo3,e2',he];refine next _ _ _ ?_ ?_ ?_ ?_ ?_ ?_ bj3 e23 hoq<;>simp[g0,g1,g2,g18,g19,g20]
    ·have he2:0≤os[j].e:=by omega
     simp[he2]at hoq;have e2':(eO os[j])[2]?=some (I os[j].e):=rfl;simp[gz,g0,g1,bj3,jB,bo3,hk,hr,tk,eck,aaY,ajs,rB,auH,e2',he];refine(TZ S os[j] os[k] _ _).mono ?_;rintro o h4 mC ⟨rfl,e4⟩;have bj4:ag bj h4=Qz (jB X i (.sl (ak eO os) os.length 10 .any) s0 en):=by rw[e4.g bj (by omega)];exact bj3
     cases Iu:before os[j] os[k]with
     |true=>rw[Iu]at hoq;simp;simp[j7];exact fail (by rw[hoq];rfl) _ _ (e23.trans e4)
     |false=>rw[Iu]at hoq;simp;refine next _ _ _ ?_ ?_ ?_ ?_ ?_ ?_ bj4 (e23.trans e4) (by rw[hoq];rfl)<;>simp[g0,g1,g2,g18,g19,g20]
  ·have PC:j=os.length:=by omega
   subst PC;have fin:TY os k d=true:=by rw[J9];exact aph hq
   simp[j0,g19,g20];simp[jF];exact⟨fin,e2⟩
end Ln
namespace Go.Sx
def aiL(ds:List Key):List XJ:=ds.map XJ.coll
abbrev qH:=Ex→List Key→T AV→T ai→Key→Prop
def sB(af:nG)(ds:List Key):nG:={af with dfs:=aiL ds++af.dfs}
def aEn(Q:qH)(af:nG)(k:List db)(cs:List nG)(m:AM):Prop:=∃e ds aA h' nx' fr,Q e ds aA h' nx'∧Aft (sB af ds) k e aA fr∧m=⟨fr,cs,h',nx'⟩
def VI(C:bH)(x:db)(Q:qH)(ds:List Key)(tm:T AV)(h:T ai)(nx:Key):Prop:=
 ∀(af:nG) (k:List db) (cs:List nG),af.mode=.run→af.uW=none→Ev C (aEn Q af k cs) ⟨{sB af ds with tm:=tm,todo:=x ::k},cs,h,nx⟩
abbrev V(C:bH)(c:aK):qH→List Key→T AV→T ai→Key→Prop:=VI C (.code c)
section
variable{C:bH}{Q Q':qH}{ds:List Key}{tm:T AV}{h:T ai}{nx:Key}
theorem VI.mono{x:db}(hw:VI C x Q ds tm h nx)(hq:∀e ds tm h nx,Q e ds tm h nx→Q' e ds tm h nx):VI C x Q' ds tm h nx:=by intro af k cs h1 h2;refine(hw af k cs h1 h2).mono ?_;rintro m ⟨e,BB,aA,h',nx',fr,q,a,t⟩;exact⟨e,BB,aA,h',nx',fr,hq _ _ _ _ _ q,a,t⟩
theorem V.ac6{c:aK}(hw:W C c (fun e tm h nx=>Q e ds tm h nx) tm h nx):V C c Q ds tm h nx:=by intro af k cs h1 h2;refine(hw (sB af ds) k cs h1 trivial).mono ?_;rintro m ⟨e,aA,h',nx',fr,q,a,t⟩;exact⟨e,ds,aA,h',nx',fr,q,a,t⟩
def ZM(Wp:List Key→T AV→T ai→Key→Prop)(Q:qH):qH:=fun e ds tm h nx=>match e with
 |.norm=>Wp ds tm h nx
 |e=>Q e ds tm h nx
def wO(id:Nat)(Q:qH):qH:=fun e ds tm h nx=>match e with
 |.exit j=>if j=id then Q .norm ds tm h nx else Q (.exit j) ds tm h nx
 |e=>Q e ds tm h nx
theorem V.seq{a b:aK}(hw:V C a (ZM (V C b Q) Q) ds tm h nx):V C (.seq a b) Q ds tm h nx:=by
 intro af k cs h1 h2;refine .step (m':=⟨{sB af ds with tm:=tm,todo:=.code a ::.code b ::k},cs,h,nx⟩) (bx h1 rfl) ((hw af (.code b ::k) cs h1 h2).bind ?_);rintro m ⟨e,BB,aA,h',nx',fr,q,ha,rfl⟩;cases e with
 |norm=>cases ha;exact q af k cs h1 h2
 |ret=>exact .now ⟨.ret,BB,aA,h',nx',fr,q,ha,rfl⟩
 |exit id=>obtain⟨k2,e1,e2⟩:=ha;exact .now ⟨.exit id,BB,aA,h',nx',fr,q,⟨k2,e1,e2⟩,rfl⟩
 |pan a=>exact .now ⟨.pan a,BB,aA,h',nx',fr,q,ha,rfl⟩
theorem V.cond{x:PX}{a b:aK}{t:Bool}(hx:x.at tm=some (.bool t))(hw:V C (if t then a else b) Q ds tm h nx):V C (.cond x a b) Q ds tm h nx:=by intro af k cs h1 h2;refine .step (m':=⟨{sB af ds with tm:=tm,todo:=.code (if t then a else b) ::k},cs,h,nx⟩) (bx h1 ?_) (hw af k cs h1 h2);simp only[b9,hx];cases t<;>rfl
theorem V.block{id:Nat}{c:aK}(hw:V C c (wO id Q) ds tm h nx):V C (.block id c) Q ds tm h nx:=by
 intro af k cs h1 h2;refine .step (m':=⟨{sB af ds with tm:=tm,todo:=.code c ::.inBlock id ::k},cs,h,nx⟩) (bx h1 rfl) ((hw af (.inBlock id ::k) cs h1 h2).bind ?_);rintro m ⟨e,BB,aA,h',nx',fr,q,ha,rfl⟩;cases e with
 |norm=>cases ha;exact .step (m':=⟨{sB af BB with tm:=aA,todo:=k},cs,h',nx'⟩) (bx h1 rfl) (.now ⟨.norm,BB,aA,h',nx',_,q,rfl,rfl⟩)
 |ret=>exact .now ⟨.ret,BB,aA,h',nx',fr,q,ha,rfl⟩
 |exit j=>
  obtain⟨k2,e1,rfl⟩:=ha;by_cases hj:j=id
  ·subst hj;simp only[wO,if_true]at q;refine .step (m':=⟨{sB af BB with tm:=aA,todo:=k},cs,h',nx'⟩) (bx h1 ?_) (.now ⟨.norm,BB,aA,h',nx',_,q,rfl,rfl⟩);simp only[b9,e1,nK,beqN_eq,decide_true,cond_true]
  ·simp only[wO,if_neg hj]at q;refine .now ⟨.exit j,BB,aA,h',nx',_,q,⟨k2,?_,rfl⟩,rfl⟩;rw[e1];simp only[nK,beqN_eq,show ¬id=j from fun e=>hj e.symm,decide_false,cond_false]
 |pan a=>exact .now ⟨.pan a,BB,aA,h',nx',fr,q,ha,rfl⟩
theorem V.iM{c:aK}(Inv:Nat→List Key→T AV→T ai→Key→Prop){n:Nat}(hi:Inv n ds tm h nx)
  (hw:∀n ds tm h nx,Inv n ds tm h nx→V C c (ZM (fun ds tm h nx=>∃m,m<n∧Inv m ds tm h nx) Q) ds tm h nx):V C (.loop c) Q ds tm h nx:=by
 have key:∀(n:Nat) (ds:List Key) (tm:T AV) (h:T ai) (nx:Key),Inv n ds tm h nx→VI C (.inLoop c) Q ds tm h nx:=by
  intro n
  induction n using Nat.strongRecOn with
  |_ n ih=>
   intro ds tm h nx hi af k cs h1 h2;refine .step (m':=⟨{sB af ds with tm:=tm,todo:=.code c ::.inLoop c ::k},cs,h,nx⟩) (bx h1 rfl) ((hw n ds tm h nx hi af (.inLoop c ::k) cs h1 h2).bind ?_);rintro m ⟨e,BB,aA,h',nx',fr,q,ha,rfl⟩;cases e with
   |norm=>cases ha;obtain⟨m,hm,him⟩:=q;exact ih m hm BB aA h' nx' him af k cs h1 h2
   |ret=>exact .now ⟨.ret,BB,aA,h',nx',fr,q,ha,rfl⟩
   |exit id=>obtain⟨k2,e1,e2⟩:=ha;exact .now ⟨.exit id,BB,aA,h',nx',fr,q,⟨k2,e1,e2⟩,rfl⟩
   |pan a=>exact .now ⟨.pan a,BB,aA,h',nx',fr,q,ha,rfl⟩
 intro af k cs h1 h2;refine .step (m':=⟨{sB af ds with tm:=tm,todo:=.code c ::.inLoop c ::k},cs,h,nx⟩) (bx h1 rfl) ((hw n ds tm h nx hi af (.inLoop c ::k) cs h1 h2).bind ?_);rintro m ⟨e,BB,aA,h',nx',fr,q,ha,rfl⟩;cases e with
 |norm=>cases ha;obtain⟨m,hm,him⟩:=q;exact key m BB aA h' nx' him af k cs h1 h2
 |ret=>exact .now ⟨.ret,BB,aA,h',nx',fr,q,ha,rfl⟩
 |exit id=>obtain⟨k2,e1,e2⟩:=ha;exact .now ⟨.exit id,BB,aA,h',nx',fr,q,⟨k2,e1,e2⟩,rfl⟩
 |pan a=>exact .now ⟨.pan a,BB,aA,h',nx',fr,q,ha,rfl⟩
def aNe(Q:qH):Option aK→List Key→T AV→T ai→Key→Prop
 |none,ds,tm,h,nx=>Q .norm ds tm h nx
 |some .ret,ds,tm,h,nx=>Q .ret ds tm h nx
 |some (.exit i),ds,tm,h,nx=>Q (.exit i) ds tm h nx
 |some _,_,_,_,_=>False
def aiC(Q:qH)(d l:Key)(fn:Nat)(tm:T AV)(res:List RV)(ps:List Key)(a b:aK)(ds:List Key):Out→T ai→Key→Prop:=fun o h' nx'=>∃v,o=.ret v∧∃st pd,ag l h'=some (.loop st pd fn tm res ps a b d)∧st≠.busy∧aNe Q pd (d ::ds) tm (au l (some (.loop .exhausted pd fn tm res ps a b d)) h') nx'
noncomputable def qI(fn:Nat)(tm:T AV)(res:List RV)(ps:List Key)(a b:aK)(h:T ai)(nx:Key):T ai:=au nx.succ (some (.loop .ready none fn tm res ps a b nx)) (au nx (some (.dfs false)) h)
theorem V.rangeF{f:PX}{ps:List Key}{a b:aK}{g:Nat}{first cap:List AV}(hf:f.at tm=some (.fn g first cap))(hs:∀l h nx,C.sum g l h nx=none)
  (hc:∀fn res,aB C g (first ++ .yld nx.succ ::cap) (qI fn tm res ps a b h nx) nx.succ.succ (aiC Q nx nx.succ fn tm res ps a b ds)):V C (.rangeF f ps a b) Q ds tm h nx:=by
 intro af k cs h1 h2;rcases hc af.fn af.res with⟨v,h',nx',e,_⟩|⟨_,p,hp,gD⟩
 ·rw[hs]at e;cases e
 ·refine .step (m':=⟨ah g p (first ++ .yld nx.succ ::cap),{sB af (nx ::ds)with tm:=tm,todo:=.inRF nx.succ ::k} ::cs,qI af.fn tm af.res ps a b h nx,nx.succ.succ⟩) (bx h1 ?_) ((gD _).bind ?_)
  ·have hp':(bif Nat.beq (Key.fX 12 g).toNat g then ag (Key.fX 12 g) C.fns else none)=some p:=hp;have hr:(sB af ds).uW=none:=h2;simp only[b9,hf,hr,sTCe,FF,hp',CW];have NA:(sB af (nx ::ds)).uW=none:=h2;rw[NA];rfl
  ·rintro m2 ⟨o,h',nx',IV,h3,⟨v,rfl,st,pd,hl,fy,hq⟩,hfn,hdf,⟨hd,NR,l,PW,rfl,rfl⟩,rfl⟩;have e1:jj C ⟨IV,{sB af (nx ::ds)with tm:=tm,todo:=.inRF nx.succ ::k} ::cs,h3,nx'⟩=.next ⟨{sB af (nx ::ds)with tm:=tm,todo:=.endRF nx.succ ::k},cs,(cq (C.mT g) l h3).2,nx'⟩:=by unfold jj;simp only[NR];unfold Ag;simp only[hd,NR,PW,hfn,yc];unfold Lk;simp only[hdf,cond_false,cT]
   refine .step e1 ?_;refine .step (m':=⟨{sB af (nx ::ds)with tm:=tm,todo:=(pd.map db.code).toList++k},cs,au nx.succ (some (.loop .exhausted pd af.fn tm af.res ps a b nx)) (cq (C.mT g) l h3).2,nx'⟩) (bx h1 ?_) ?_
   ·cases st with
    |busy=>exact absurd rfl fy
    |_=>simp only[b9,hl,sTCe];cases pd<;>rfl
   ·cases pd with
    |none=>exact .now ⟨.norm,_,_,_,_,_,hq,rfl,rfl⟩
    |some c=>
     cases c with
     |ret=>exact .now ⟨.ret,_,_,_,_,_,hq,⟨k,rfl⟩,rfl⟩
     |exit i=>exact .now ⟨.exit i,_,_,_,_,_,hq,⟨k,rfl,rfl⟩,rfl⟩
     |_=>exact hq.elim
end
noncomputable def Pw(C:bH):aK→qH→List Key→T AV→T ai→Key→Prop
 |.seq a b,Q,ds,tm,h,nx=>Pw C a (ZM (Pw C b Q) Q) ds tm h nx
 |.cond x a b,Q,ds,tm,h,nx=>match x.at tm with
  |some (.bool t)=>(t=true→Pw C a Q ds tm h nx)∧(t=false→Pw C b Q ds tm h nx)
  |_=>False
 |.block id c,Q,ds,tm,h,nx=>Pw C c (wO id Q) ds tm h nx
 |.loop c,Q,ds,tm,h,nx=>V C (.loop c) Q ds tm h nx
 |.rangeF f ps a b,Q,ds,tm,h,nx=>V C (.rangeF f ps a b) Q ds tm h nx
 |.skip,Q,ds,tm,h,nx=>Q .norm ds tm h nx
 |.exit id,Q,ds,tm,h,nx=>Q (.exit id) ds tm h nx
 |.ret,Q,ds,tm,h,nx=>Q .ret ds tm h nx
 |.ops l,Q,ds,tm,h,nx=>qg C (fun e tm h nx=>Q e ds tm h nx) l tm h nx
 |.staged l d,Q,ds,tm,h,nx=>wpS C (fun e tm h nx=>Q e ds tm h nx) d l [] tm h nx
 |.both _ _ _ _,_,_,_,_,_=>False
section
variable{C:bH}
theorem uH:∀{c:aK} {Q:qH} {ds:List Key} {tm:T AV} {h:T ai} {nx:Key},Pw C c Q ds tm h nx→V C c Q ds tm h nx
 |.seq a b,Q,ds,tm,h,nx,hw=>by
  have hw:Pw C a (ZM (Pw C b Q) Q) ds tm h nx:=hw;refine V.seq ((uH hw).mono fun e ds tm h nx hq=>?_);cases e with
  |norm=>exact uH hq
  |_=>exact hq
 |.cond x a b,Q,ds,tm,h,nx,hw=>by
  unfold Pw at hw;split at hw
  ·rename_i t hx;refine V.cond hx ?_;cases t with
   |true=>exact uH (hw.1 rfl)
   |false=>exact uH (hw.2 rfl)
  ·exact hw.elim
 |.block id c,Q,ds,tm,h,nx,hw=>by have hw:Pw C c (wO id Q) ds tm h nx:=hw;exact V.block (uH hw)
 |.loop c,Q,ds,tm,h,nx,hw=>hw
 |.rangeF f ps a b,Q,ds,tm,h,nx,hw=>hw
 |.skip,Q,ds,tm,h,nx,hw=>V.ac6 (W.skip hw)
 |.exit id,Q,ds,tm,h,nx,hw=>V.ac6 (W.exit hw)
 |.ret,Q,ds,tm,h,nx,hw=>V.ac6 (W.ret hw)
 |.ops l,Q,ds,tm,h,nx,hw=>V.ac6 (W.ops (Cs hw))
 |.staged l d,Q,ds,tm,h,nx,hw=>V.ac6 (W.staged (uo hw))
 |.both _ _ _ _,_,_,_,_,_,hw=>hw.elim
variable(Q:qH)(ds:List Key)(tm:T AV)(h:T ai)(nx:Key)
@[simp] theorem aF2(a b:aK):Pw C (.seq a b) Q ds tm h nx=Pw C a (ZM (Pw C b Q) Q) ds tm h nx:=xU Iff.rfl
@[simp] theorem aEo(x:PX)(a b:aK):Pw C (.cond x a b) Q ds tm h nx=(match x.at tm with
  |some (.bool t)=>(t=true→Pw C a Q ds tm h nx)∧(t=false→Pw C b Q ds tm h nx)
  |_=>False):=xU Iff.rfl
@[simp] theorem aA1(id:Nat)(c:aK):Pw C (.block id c) Q ds tm h nx=Pw C c (wO id Q) ds tm h nx:=xU Iff.rfl
@[simp] theorem aEp(c:aK):Pw C (.loop c) Q ds tm h nx=V C (.loop c) Q ds tm h nx:=xU Iff.rfl
@[simp] theorem azr(f:PX)(ps:List Key)(a b:aK):Pw C (.rangeF f ps a b) Q ds tm h nx=V C (.rangeF f ps a b) Q ds tm h nx:=xU Iff.rfl
@[simp] theorem aEq:Pw C .skip Q ds tm h nx=Q .norm ds tm h nx:=xU Iff.rfl
@[simp] theorem aEr(id:Nat):Pw C (.exit id) Q ds tm h nx=Q (.exit id) ds tm h nx:=xU Iff.rfl
@[simp] theorem aF3:Pw C .ret Q ds tm h nx=Q .ret ds tm h nx:=xU Iff.rfl
def atD(Q:qH)(ds:List Key):cJ:=fun e tm h nx=>Q e ds tm h nx
@[simp] theorem aNf(e:Ex):atD Q ds e tm h nx=Q e ds tm h nx:=xU Iff.rfl
@[simp] theorem aF4(l:List ay):Pw C (.ops l) Q ds tm h nx=qg C (atD Q ds) l tm h nx:=xU Iff.rfl
@[simp] theorem azs(l:List aH)(d:SD):Pw C (.staged l d) Q ds tm h nx=wpS C (atD Q ds) d l [] tm h nx:=xU Iff.rfl
@[simp] theorem aA2(Wp:List Key→T AV→T ai→Key→Prop):ZM Wp Q .norm ds tm h nx=Wp ds tm h nx:=xU Iff.rfl
@[simp] theorem aEs(Wp:List Key→T AV→T ai→Key→Prop):ZM Wp Q .ret ds tm h nx=Q .ret ds tm h nx:=xU Iff.rfl
@[simp] theorem aA3(Wp:List Key→T AV→T ai→Key→Prop)(i:Nat):ZM Wp Q (.exit i) ds tm h nx=Q (.exit i) ds tm h nx:=xU Iff.rfl
@[simp] theorem aEt(Wp:List Key→T AV→T ai→Key→Prop)(a:AV):ZM Wp Q (.pan a) ds tm h nx=Q (.pan a) ds tm h nx:=xU Iff.rfl
@[simp] theorem avI(j:Nat):wO j Q .norm ds tm h nx=Q .norm ds tm h nx:=xU Iff.rfl
@[simp] theorem azt(j:Nat):wO j Q .ret ds tm h nx=Q .ret ds tm h nx:=xU Iff.rfl
@[simp] theorem avJ(j i:Nat):wO j Q (.exit i) ds tm h nx=if i=j then Q .norm ds tm h nx else Q (.exit i) ds tm h nx:=xU Iff.rfl
@[simp] theorem azu(j:Nat)(a:AV):wO j Q (.pan a) ds tm h nx=Q (.pan a) ds tm h nx:=xU Iff.rfl
end
def apq(res:List RV)(R:Out→T ai→Key→Prop):qH:=fun e ds tm h nx=>match e with
 |.norm|.ret=>ds.Nodup∧(∀b∈ds,ag b h=some (.dfs false))∧∀h2:T ai,(∀b,b∉ds→ag b h2=ag b h)→∃l,resultsA h2 tm res=some l∧R (.ret (o5 (aY (aO 9999) l h2).1)) (aY (aO 9999) l h2).2 nx
 |_=>False
theorem Px{C:bH}{S:AM→Prop}:∀(ds:List Key) (fr:nG) (cs:List nG) (h:T ai) (nx:Key),ds.Nodup→(∀b∈ds,ag b h=some (.dfs false))→fr.mode=.ret→fr.dfs=aiL ds→
  (∀h2:T ai,(∀b,b∉ds→ag b h2=ag b h)→Ev C S ⟨{fr with dfs:=[]},cs,h2,nx⟩)→Ev C S ⟨fr,cs,h,nx⟩
 | [],fr,cs,h,nx,_,_,_,hd,hk=>by
  have:=hk h (fun _ _=>rfl);have e:({fr with dfs:=[]}:nG)=fr:=by cases fr;cases hd;rfl
  rw[e]at this;exact this
 |b ::ds,fr,cs,h,nx,hn,hb,hm,hd,hk=>by
  rw[List.nodup_cons]at hn;refine .step (m':=⟨{fr with dfs:=aiL ds},cs,au b (some (.dfs true)) h,nx⟩) ?_ (Px ds _ cs _ nx hn.2 (fun c hc=>?_) hm rfl fun h2 h3=>?_)
  ·have hd:fr.dfs=.coll b ::aiL ds:=hd;unfold jj;simp only[hm];unfold Ag;simp only[hd,hb b (by simp),sTCe,hm]
  ·rw[aD _ _ _ _ (fun e=>hn.1 (by rw[←e];exact hc))];exact hb c (by simp[hc])
  ·refine hk h2 fun c hc=>?_;simp only[CR,not_or]at hc;rw[h3 c hc.2,aD _ _ _ _ hc.1]
theorem aB.aNa{C:bH}{f:Nat}{p:fN}{l:List AV}{h:T ai}{nx:Key}{R:Out→T ai→Key→Prop}(hs:C.sum f l h nx=none)(hp:GX C f=some p)(hr:C.mT f=false)(hw:V C p.body (apq p.res R) [] (iG l (K 0) .nil) h nx):aB C f l h nx R:=by
 refine .inr ⟨hs,p,hp,fun cs=>(hw (ah f p l) [] cs rfl rfl).bind ?_⟩;have fin:∀(aA:T AV) (t:List db) (ds:List Key) (h':T ai) (nx':Key),ds.Nodup→(∀b∈ds,ag b h'=some (.dfs false))→(∀h2:T ai,(∀b,b∉ds→ag b h2=ag b h')→∃l,resultsA h2 aA p.res=some l∧R (.ret (o5 (aY (aO 9999) l h2).1)) (aY (aO 9999) l h2).2 nx')→
   Ev C (aD0 C f R cs) ⟨{sB (ah f p l) ds with tm:=aA,todo:=t,mode:=.ret},cs,h',nx'⟩:=by
  intro aA t ds h' nx' q1 q2 q3;refine Px ds _ cs h' nx' q1 q2 rfl (List.append_nil _) fun h2 h3=>?_;obtain⟨l1,hl,hR⟩:=q3 h2 h3;refine .now ⟨_,_,nx',_,h2,hR,rfl,rfl,⟨rfl,rfl,l1,hl,?_,?_⟩,rfl⟩<;>rw[hr]<;>rfl
 rintro m ⟨e,ds,aA,h',nx',fr,q,ha,rfl⟩;cases e with
 |norm=>cases ha;exact .step (m':=⟨{sB (ah f p l) ds with tm:=aA,todo:=[],mode:=.ret},cs,h',nx'⟩) (bx rfl rfl) (fin _ _ _ _ _ q.1 q.2.1 q.2.2)
 |ret=>obtain⟨t',rfl⟩:=ha;exact .step (m':=⟨{sB (ah f p l) ds with tm:=aA,todo:=.code .ret ::t',mode:=.ret},cs,h',nx'⟩) (bx rfl rfl) (fin _ _ _ _ _ q.1 q.2.1 q.2.2)
 |exit id=>exact q.elim
 |pan a=>exact q.elim
theorem B0.mono{C:bH}{l:Key}{args:List AV}{h:T ai}{nx:Key}{R R':Out→T ai→Key→Prop}(hy:B0 C l args h nx R)(hr:∀o h nx,R o h nx→R' o h nx):B0 C l args h nx R':=by
 obtain⟨fn,tm,res,ps,a,b,d,hl,gh,hz,hw⟩:=hy;refine⟨fn,tm,res,ps,a,b,d,hl,gh,hz,hw.mono ?_⟩;rintro e cE h2 aZ ⟨he,p,hp,hw2⟩;refine⟨he,p,hp,hw2.mono ?_⟩;rintro e3 Lo h3 fT ⟨hp3,q⟩;refine⟨hp3,?_⟩;cases e3 with
 |norm=>exact hr _ _ _ q
 |ret=>exact hr _ _ _ q
 |exit i=>exact hr _ _ _ q
 |pan a=>exact q
end Go.Sx
namespace Ln
open Go.Sx Go
theorem Ts(os:List Op)(q:Nat):∀n:Nat,(jy os n).testBit q=(decide (q<n)&&decide (0≤(os.getD q default).e))
 |0=>by simp[jy]
 |n+1=>by
  unfold jy;have ih:=Ts os q n;by_cases he:0≤(os.getD n default).e
  ·rw[if_pos he,Nat.testBit_or,ih,Nat.testBit_two_pow];by_cases e:n=q
   ·subst e;simp;simpa using he
   ·by_cases hq:q<n
    ·simp[hq,show q<n+1 by omega,e]
    ·simp[hq,show ¬q<n+1 by omega,e]
  ·rw[if_neg he,ih];by_cases e:q=n
   ·subst e;simp;simpa using he
   ·by_cases hq:q<n
    ·simp[hq,show q<n+1 by omega]
    ·simp[hq,show ¬q<n+1 by omega]
theorem ash(os:List Op)(d:Nat):(d &&& jy os os.length=jy os os.length)↔ER os d=true:=by
 unfold ER;rw[xM];constructor
 ·intro h q hq;have hq:=List.mem_range.1 hq;have h2:=congrArg (fun x=>Nat.testBit x q) h;simp only[Nat.testBit_and,Ts,hq,decide_true,Bool.true_and]at h2;cases h3:decide (0≤(os.getD q default).e)with
  |false=>rfl
  |true=>rw[h3,Bool.and_true]at h2;rw[h2];rfl
 ·intro h;apply Nat.eq_of_testBit_eq;intro q;rw[Nat.testBit_and,Ts];by_cases hq:q<os.length
  ·have:=h q (List.mem_range.2 hq);cases h3:decide (0≤(os.getD q default).e)with
   |false=>simp
   |true=>rw[h3]at this;simp at this;simp[hq,this]
  ·simp[hq]
variable{C:bH}{X:Kn}(S:Std C X)
include S
theorem ahG{i:Nat}{os:List Op}(ho:os.length≤16){cO:AV}{s0:St}{c:Cf St}(hd:c.1<65536){h:T ai}{nx bj:Key}(hb:ag bj h=Qz (jB X i cO s0 (jy os os.length)))(tM:bj.toNat<nx.toNat) :
  aB C cu [.ptr bj 0,.agg (eC c)] h nx (fun o h' nx'=>o=.ret (.bool (ER os c.1))∧Ext h nx h' nx'):=by
 refine S.qG.call ?_;simp[lG];simp[pL,S0,DL];have e0:=E0 h nx (.cells (eC c) .fix);have bc:ag nx (au nx (Qz (eC c)) h)=Qz (eC c):=by simp
 have bj1:ag bj (au nx (Qz (eC c)) h)=Qz (jB X i cO s0 (jy os os.length)):=by rw[e0.g bj tM];exact hb
 generalize au nx (Qz (eC c)) h=h1 at *;have elt:=YL os os.length;have p16:=yJ (j:=os.length) ho;have Ri:QM .i64 (c.1:Int)=c.1:=ue (by omega);have PW:QM .i64 ((jy os os.length:Nat):Int)=jy os os.length:=ue (by omega);have hle:c.1 &&& jy os os.length≤c.1:=Nat.and_le_left;have hw:bG .i64 ((c.1 &&& jy os os.length:Nat):Int)=((c.1 &&& jy os os.length:Nat):Int):=aS (by omega) (by omega);have ec0:(eC c)[0]?=some (I c.1):=rfl;simp[pM,bc,bj1,jB,ec0,Ri,PW,hw];refine⟨?_,e0⟩;rw[Bool.eq_iff_iff,beq_iff_eq,←ash];omega
theorem ajE{bj:Key}{c:Cf St}{h:T ai}{nx:Key}:aB C fM [.ptr bj 0,.agg (eC c)] h nx (fun o h' nx'=>o=.ret (.fn bZ [] [.ptr nx 0,.ptr nx.succ 0])∧ag nx h'=Qz [.ptr bj 0]∧ag nx.succ h'=Qz (eC c)∧nx'=nx.succ.succ∧Ext h nx h' nx'):=by have s1:=kTSu nx;have s2:=kTSu nx.succ;refine S.sU.call ?_;simp[pt];simp[sb,S0,DL];simp[sc];exact(E0 h nx _).trans (E0 _ nx.succ _)
structure ayr(C:bH)(X:Kn)(i:Nat)(os:List Op)(cO:AV)(s0:St)(bj b2 b3 lk:Key)(c:Cf St)(Inv:Nat→T ai→Key→Prop)(R:Out→T ai→Key→Prop):Prop where
 keep:∀k h nx h' nx',Inv k h nx→Ext h nx h' nx'→Inv k h' nx'
 has:∀k h nx,Inv k h nx→ag bj h=Qz (jB X i cO s0 (jy os os.length))∧ag b2 h=Qz [.ptr bj 0]∧ag b3 h=Qz (eC c)∧bj.toNat<nx.toNat∧b2.toNat<nx.toNat∧b3.toNat<nx.toNat
 skip:∀k h nx,k<os.length→(ba X i os).step c k=none→Inv k h nx→Inv (k+1) h nx
 yld:∀k x h nx,k<os.length→(ba X i os).step c k=some (k,x)→Inv k h nx→B0 C lk [I k,.agg (eC x)] h nx (fun o h' nx'=>(o=.ret (.bool true)∧Inv (k+1) h' nx')∨(o=.ret (.bool false)∧R (.ret (.tuple [])) h' nx'))
 fin:∀h nx,Inv os.length h nx→R (.ret (.tuple [])) h nx
def S1I(os:List Op)(b2 b3 lk:Key)(Inv:Nat→T ai→Key→Prop)(m:Nat)(aA:T AV)(h':T ai)(nx':Key):Prop:=∃k:Nat,m=os.length-k∧k≤os.length∧ag (K 0) aA=some (.yld lk)∧ag (K 1) aA=some (.ptr b2 0)∧ag (K 2) aA=some (.ptr b3 0)∧ag (K 11) aA=some (I os.length)∧ag (K 12) aA=some (I k)∧Inv k h' nx'
theorem ajF{i:Nat}(hi:i<3){os:List Op}(C3:yv i os=0)(wc:∀o∈os,before o o=false)(ho:os.length≤16){cO:AV}(hc:qf 10 eO cO os){s0:St}{bj b2 b3 lk:Key}{c:Cf St}(hd:c.1<65536)(hs:kx i c.2){Inv:Nat→T ai→Key→Prop}{R:Out→T ai→Key→Prop}(A:ayr C X i os cO s0 bj b2 b3 lk c Inv R){h:T ai}{nx:Key}(h0:Inv 0 h nx) :
  aB C bZ [.yld lk,.ptr b2 0,.ptr b3 0] h nx R:=by
 have rT:=S.r fi;have rP:=S.r fL;refine S.jD.call ?_;simp[kQ];obtain⟨bj0,b20,b30,_⟩:=A.has _ _ _ h0;have start:∀n:Nat,n=os.length→W C (.loop iR) (aP 0 (gC [] R)) (au (K 12) (some (I 0)) (au (K 11) (some (I n)) (au (K 10) (some cO) (au (K 9) (some (.ptr bj 2)) (au (K 8) (some (.ptr bj 0)) (au (K 7) (some (.ptr bj 0)) (au (K 2) (some (.ptr b3 0)) (au (K 1) (some (.ptr b2 0)) (au (K 0) (some (.yld lk)) .nil))))))))) h nx:=by
  rintro _ rfl;refine W.iM (n:=os.length) (S1I os b2 b3 lk Inv) ⟨0,by simp,by omega,by simp,by simp,by simp,by simp,by simp,h0⟩ ?_;rintro m gh h1 bW ⟨k,rfl,hk,g0,g1,g2,g11,g12,h1k⟩;obtain⟨bj1,b21,b31,ltj,lt2,lt3⟩:=A.has _ _ _ h1k;refine W.of ?_;simp[iR];by_cases hkl:k<os.length
  ·have hki:(k:Int)<os.length:=by omega
   have ec0:(eC c)[0]?=some (I c.1):=rfl;simp[iS,g11,g12,hki];simp[ox,g12];simp[oy,g1,g2,b21,b31,ec0,rT];refine(ajG S ho hc hkl hd bj1 ltj).mono ?_;rintro o h2 aZ ⟨rfl,e2⟩;rw[asi wc hkl];have n2:=e2.n;have h2k:=A.keep _ _ _ _ _ h1k e2;obtain⟨bj2,b22,b32,aLb,aUj,aUk⟩:=A.has _ _ _ h2k;have next:∀(cE:T AV) (h':T ai) (nx':Key),ag (K 0) cE=some (.yld lk)→ag (K 1) cE=some (.ptr b2 0)→ag (K 2) cE=some (.ptr b3 0)→ag (K 11) cE=some (I os.length)→ag (K 12) cE=some (I k)→Inv (k+1) h' nx'→
     qg C (bO (fun tm h nx=>∃m,m<os.length-k∧S1I os b2 b3 lk Inv m tm h nx) (aP 0 (gC [] R))) iT cE h' nx':=by
    intro cE h' nx' q0 q1 q2 q11 q12 hI;simp[iT,q12];rw[aS (by omega) (by omega)];exact⟨os.length-(k+1),by omega,k+1,rfl,by omega,by simp[q0],by simp[q1],by simp[q2],by simp[q11],by simp,hI⟩
   have fy:(ba X i os).step c k=if PG os k c.1=true then(X.take (cm i os[k]) os[k] c.2).map (fun s=>(k,(c.1+2^k,s)))else none:=by rw[ajr,FO hkl]
   cases pE:PG os k c.1 with
   |false=>rw[pE]at fy;simp;refine next _ _ _ ?_ ?_ ?_ ?_ ?_ (A.skip _ _ _ hkl (by rw[fy];rfl) h2k)<;>simp[g0,g1,g2,g11,g12]
   |true=>
    rw[pE,if_pos rfl]at fy;have hco:=ahf hi C3 (zC hkl);have tk:List.take 4 (eC c).tail=eS c.2:=rfl;have ajH:c.1.testBit k=false:=QP X i os k c.1 pE;simp;simp[oD,g1,g2,b22,b32,DL,tk,rP,C4];refine(anx S hc hco hs bj2 aLb).mono ?_;rintro o h3 fT ⟨⟨u,rfl,hu⟩,e3⟩;have n3:=e3.n;have s3:=kTSu fT;simp[Gj,lenS,ang];have e4:=E0 h3 fT (.cells (eS u) .fix);have b5:ag fT (au fT (Qz (eS u)) h3)=Qz (eS u):=by simp
    generalize au fT (Qz (eS u)) h3=h4 at *;have h4k:=A.keep _ _ _ _ _ h2k (e3.trans e4);obtain⟨bj4,b24,b34,aUm,aUn,aUo⟩:=A.has _ _ _ h4k;cases ht:X.take (cm i os[k]) os[k] c.2 with
    |none=>rw[ht]at fy;simp[iU];refine next _ _ _ ?_ ?_ ?_ ?_ ?_ (A.skip _ _ _ hkl fy h4k)<;>simp[g0,g1,g2,g11,g12]
    |some v=>
     rw[ht]at fy;have:=hu v ht;subst this;have hsh:Ni .i64 k=true:=by unfold Ni;exact Nat.ble_eq_true_of_le (by omega)
     have hp2:2^k≤65536:=yJ (by omega);have hw:bG .i64 ((2^k:Nat):Int)=((2^k:Nat):Int):=by obtain⟨z,hz,hzl⟩:∃z:Nat,z=2^k∧z≤65536:=⟨_,rfl,hp2⟩;rw[←hz];exact aS (by omega) (by omega)
     have Ri:QM .i64 ((2^k:Nat):Int)=2^k:=ue hp2;have PW:QM .i64 (c.1:Int)=c.1:=ue (by omega);have hor:=adZ k c.1 ajH;have hw2:bG .i64 ((c.1 ||| 2^k:Nat):Int)=((c.1+2^k:Nat):Int):=by obtain⟨z,hz,hzl⟩:∃z:Nat,z=c.1+2^k∧z≤200000:=⟨_,rfl,by omega⟩;rw[hor,←hz];exact aS (by omega) (by omega)
     simp[iU,g0,g2,b34,ec0,b5,lenS,BV,hsh,-Int.natCast_pow,-Int.natCast_add,hw,Ri,PW,hw2];refine(A.yld k (c.1+2^k,u) _ _ hkl fy h4k).mono ?_;rintro o h5 zI (⟨rfl,h5k⟩|⟨rfl,hR⟩)
     ·simp;refine next _ _ _ ?_ ?_ ?_ ?_ ?_ h5k<;>simp[g0,g1,g2,g11,g12]
     ·simp;exact hR
  ·have hke:k=os.length:=by omega
   subst hke;simp[iS,g11,g12];exact A.fin _ _ h1k
 rcases id hc with⟨e0,e1⟩|e0
 ·have hl0:os.length=0:=by rw[e1];rfl
  have:=start 0 hl0.symm;simp[iV,b20,bj0,jB,e0];simpa[e0]using this
 ·have:=start os.length rfl;simp[iV,b20,bj0,jB,e0];simpa[e0]using this
end Ln
namespace Go.Sx
theorem V.aDV{C:bH}{c:aK}{j:Nat}{Q:qH}{ds:List Key}{tm:T AV}{h:T ai}{nx:Key}(hw:W C (.loop c) (aP j (atD Q ds)) tm h nx):V C (.loop c) (wO j Q) ds tm h nx:=
 V.ac6 (hw.mono fun e tm h nx hq=>by cases e<;>exact hq)
end Go.Sx
namespace Ln
open Go.Sx Go
variable{C:bH}{X:Kn}(S:Std C X)
include S
structure RfA(X:Kn)(i:Nat)(os:List Op)(cO c3:AV)(b8 b10 bj:Key)(tm:T AV)(h:T ai)(nx:Key):Prop where
 k8:ag (K 8) tm=some (.ptr b8 0)
 cY:ag (K 10) tm=some (.ptr b10 0)
 dw:ag (K 11) tm=some (.ptr bj 0)
 v8:ag b8 h=Qz [c3]
 v10:ag b10 h=Qz [I 0]
 vj:ag bj h=Qz (jB X i cO (aJ i) (jy os os.length))
 lt:b8.toNat<nx.toNat∧b10.toNat<nx.toNat∧bj.toNat<nx.toNat
omit S in
theorem RfA.ext{i:Nat}{os:List Op}{cO c3:AV}{b8 b10 bj:Key}{tm aA:T AV}{h h':T ai}{nx nx':Key}(A:RfA X i os cO c3 b8 b10 bj tm h nx)(e:Ext h nx h' nx')(h8:ag (K 8) aA=ag (K 8) tm)(h10:ag (K 10) aA=ag (K 10) tm)(h11:ag (K 11) aA=ag (K 11) tm):RfA X i os cO c3 b8 b10 bj aA h' nx':=by have n:=e.n;have lt:=A.lt;exact⟨h8.trans A.k8,h10.trans A.cY,h11.trans A.dw,(e.g b8 lt.1).trans A.v8,(e.g b10 lt.2.1).trans A.v10,(e.g bj lt.2.2).trans A.vj,by omega⟩
end Ln
namespace Go.Sx
theorem Fn.callV{C:bH}{f:Nat}{p:fN}(S:Fn C f p){l:List AV}{h:T ai}{nx:Key}{R:Out→T ai→Key→Prop}(hw:Pw C p.body (apq p.res R) [] (iG l (K 0) .nil) h nx):aB C f l h nx R:=
 aB.aNa (S.off _ _ _) S.get S.mT (uH hw)
theorem B0.intro{C:bH}{l:Key}{args:List AV}{h:T ai}{nx:Key}{R:Out→T ai→Key→Prop}{fn:Nat}{tm gh:T AV}{res:List RV}{ps:List Key}{a b:aK}{d:Key}(M:T AV→T ai→Key→Prop)(hl:ag l h=some (.loop .ready none fn tm res ps a b d))(hz:atj ps args tm=some gh)
  (ha:mE C a (fun e cE h2 aZ=>e=.norm∧M cE h2 aZ) gh h nx) (hb:∀cE h2 aZ,M cE h2 aZ→ag l h2=some (.loop .ready none fn tm res ps a b d)∧mE C b (Kz R l fn tm res ps a b d) cE (au l (some (.loop .busy none fn tm res ps a b d)) h2) aZ):B0 C l args h nx R:=by
 refine⟨fn,tm,res,ps,a,b,d,⟨_,hl⟩,gh,hz,(nV ha).mono ?_⟩;rintro e cE h2 aZ ⟨he,hm⟩;exact⟨he,none,(hb _ _ _ hm).1,nV (hb _ _ _ hm).2⟩
section
variable(R:Out→T ai→Key→Prop)(l:Key)(fn:Nat)(tm cE:T AV)(res:List RV)(ps:List Key)(a b:aK)(d:Key)(h:T ai)(nx:Key)
@[simp] theorem avH:Kz R l fn tm res ps a b d .norm cE h nx=((∃p,ag l h=some (.loop .busy p fn tm res ps a b d))∧R (.ret (.bool true)) (au l (some (.loop .ready none fn tm res ps a b d)) h) nx):=xU Iff.rfl
@[simp] theorem azo:Kz R l fn tm res ps a b d .ret cE h nx=((∃p,ag l h=some (.loop .busy p fn tm res ps a b d))∧R (.ret (.bool false)) (au l (some (.loop .done (some .ret) fn tm res ps a b d)) h) nx):=xU Iff.rfl
end
structure mG(n0:Key)(ds:List Key)(h:T ai)(nx:Key):Prop where
 nodup:ds.Nodup
 get:∀b∈ds,ag b h=some (.dfs false)
 ge:∀b∈ds,n0.toNat≤b.toNat
 lt:∀b∈ds,b.toNat<nx.toNat
theorem mG.nil(n0:Key)(h:T ai)(nx:Key):mG n0 [] h nx:=⟨by simp,by simp,by simp,by simp⟩
theorem mG.keep{n0:Key}{ds:List Key}{h h':T ai}{nx nx':Key}(A:mG n0 ds h nx)(hn:nx.toNat≤nx'.toNat)(hg:∀b,b.toNat<nx.toNat→ag b h=some (.dfs false)→ag b h'=some (.dfs false)):mG n0 ds h' nx':=
 ⟨A.nodup,fun b hb=>hg b (A.lt b hb) (A.get b hb),A.ge,fun b hb=>by have:=A.lt b hb;omega⟩
theorem mG.ext{n0:Key}{ds:List Key}{h h':T ai}{nx nx':Key}(A:mG n0 ds h nx)(e:Ext h nx h' nx'):mG n0 ds h' nx':=A.keep e.n fun b hb hg=>(e.g b hb).trans hg
theorem mG.cons{n0 d:Key}{ds:List Key}{h:T ai}{nx:Key}(A:mG n0 ds h nx)(hd:d∉ds)(hg:ag d h=some (.dfs false))(ZQ:n0.toNat≤d.toNat)(dn:d.toNat<nx.toNat):mG n0 (d ::ds) h nx:=by
 refine⟨List.nodup_cons.2 ⟨hd,A.nodup⟩,?_,?_,?_⟩
 ·intro b hb;rcases CR.1 hb with rfl|hb
  ·exact hg
  ·exact A.get b hb
 ·intro b hb;rcases CR.1 hb with rfl|hb
  ·exact ZQ
  ·exact A.ge b hb
 ·intro b hb;rcases CR.1 hb with rfl|hb
  ·exact dn
  ·exact A.lt b hb
end Go.Sx
namespace Ln
open Go.Sx Go
structure RfB(X:Kn)(i:Nat)(os:List Op)(cO c3:AV)(b8 b10 bj b15 n0:Key)(h0:T ai)(ds:List Key)(tm:T AV)(h:T ai)(nx:Key):Prop where
 a:RfA X i os cO c3 b8 b10 bj tm h nx
 dq:ag (K 15) tm=some (.ptr b15 0)
 v15:ag b15 h=Qz [.fn KD [] [.ptr b8 0]]
 lt:b15.toNat<nx.toNat
 d:mG n0 ds h nx
 e:Ext h0 n0 h nx
 ge:n0.toNat≤b10.toNat
theorem RfB.ext{X:Kn}{i:Nat}{os:List Op}{cO c3:AV}{b8 b10 bj b15 n0:Key}{h0:T ai}{ds:List Key}{tm aA:T AV}{h h':T ai}{nx nx':Key}(A:RfB X i os cO c3 b8 b10 bj b15 n0 h0 ds tm h nx)(e:Ext h nx h' nx')(h8:ag (K 8) aA=ag (K 8) tm)(h10:ag (K 10) aA=ag (K 10) tm)(h11:ag (K 11) aA=ag (K 11) tm)(h15:ag (K 15) aA=ag (K 15) tm) :
  RfB X i os cO c3 b8 b10 bj b15 n0 h0 ds aA h' nx':=
 ⟨A.a.ext e h8 h10 h11,h15.trans A.dq,(e.g b15 A.lt).trans A.v15,by have:=e.n;have:=A.lt;omega,A.d.ext e,A.e.trans e,A.ge⟩
def azp(S:Sys St)(L:List (Cf St))(c:Cf St)(k:Nat):Prop:=∀x∈S.kD c k,x.2∈L
variable{C:bH}{X:Kn}(S:Std C X)
include S
omit S in
theorem RfB.put{i:Nat}{os:List Op}{cO c3:AV}{b8 b10 bj b15 n0 lk:Key}{h0:T ai}{ds:List Key}{tm:T AV}{h:T ai}{nx:Key}{v:Option ai}(A:RfB X i os cO c3 b8 b10 bj b15 n0 h0 ds tm h nx)(h1:∀l k,ag lk h≠some (.cells l k))(h2:ag lk h≠some (.dfs false))(ZQ:n0.toNat≤lk.toNat) :
  RfB X i os cO c3 b8 b10 bj b15 n0 h0 ds tm (au lk v h) nx:=by
 have hc:∀b l k,ag b h=some (.cells l k)→ag b (au lk v h)=some (.cells l k):=fun b l k hb=>by rw[aD _ _ _ _ (by rintro rfl;exact h1 l k hb)];exact hb
 refine⟨⟨A.a.k8,A.a.cY,A.a.dw,hc _ _ _ A.a.v8,hc _ _ _ A.a.v10,hc _ _ _ A.a.vj,A.a.lt⟩,A.dq,hc _ _ _ A.v15,A.lt,A.d.keep (gi _) fun b _ hg=>?_,A.e.put ZQ,A.ge⟩;rw[aD _ _ _ _ (by rintro rfl;exact h2 hg)];exact hg
omit S in
theorem azp.succ{Sy:Sys St}{L:List (Cf St)}{c:Cf St}{k:Nat}(h:azp Sy L c k)(hk:∀x,Sy.step c k=some x→x.2∈L):azp Sy L c (k+1):=by
 intro x hx;rw[kF,List.mem_append]at hx;rcases hx with hx|hx
 ·exact h x hx
 ·cases hs:Sy.step c k with
  |none=>rw[hs]at hx;simp at hx
  |some y=>rw[hs]at hx;simp at hx;subst hx;exact hk _ hs
end Ln
namespace Ln
open Go.Sx Go
def ND:List Nat→Nat
 | []=>0
 |b ::t=>orU (adV (ND t) 8) (UI b)
def nw(l:List Nat):Nat:=(l.length+7) / 8
def seg(l:List Nat)(k:Nat):List Nat:=(l.drop (8*k)).take 8
def word(l:List Nat)(k:Nat):Nat:=ND (seg l k)
theorem am6{l:List Nat}{i:Nat}(hi:i<l.length):List.take 1 (List.drop i (ak eY l))=[.int .u8 (.lit ((l[i]:Nat):Int))]:=by have:=I2.at hi;rw[Nat.mul_one]at this;exact this
theorem arE{l:List Nat}{i:Nat}(hi:i<l.length):(ak eY l)[i]?=some (.int .u8 (.lit ((l[i]:Nat):Int))):=by
 have h1:∀(l:List Nat),ak eY l=l.map fun b:Nat=>AV.int .u8 (.lit (b:Int)):=fun l=>by
  induction l with
  |nil=>rfl
  |cons a l ih=>rw[dc,ih];rfl
 rw[h1,List.getElem?_map,zC hi];rfl
theorem ajl{s:List Nat}{j:Nat}(hj:j<s.length):ND (s.drop j)=orU (adV (ND (s.drop (j+1))) 8) (UI (s[j]:Nat)):=by rw[zqt hj];rfl
variable{C:bH}{X:Kn}(S:Std C X)(H:Na C)
include H
theorem Xc{c:AV}{l:List Nat}(hc:qf 1 eY c l){h:T ai}{nx:Key}:aB C jz [c] h nx (fun o h' nx'=>o=.ret (.fn dv [] [.ptr nx 0])∧ag nx h'=Qz [c]∧nx'=nx.succ∧Ext h nx h' nx'):=by have s1:=kTSu nx;have kc:=hc.cell;refine H.Jd.call ?_;simp[Gz];simp[GA,kc.1,kc.2];simp[GC];exact E0 h nx _
structure Grp(C:bH)(c:AV)(l:List Nat)(b1 lk:Key)(Inv:Nat→T ai→Key→Prop)(R:Out→T ai→Key→Prop):Prop where
 has:∀k h nx,Inv k h nx→ag b1 h=Qz [c]
 yld:∀k h nx,k<nw l→Inv k h nx→B0 C lk [mD (word l k)] h nx (fun o h' nx'=>o=.ret (.bool true)∧Inv (k+1) h' nx')
 fin:∀h nx,Inv (nw l) h nx→R (.ret (.tuple [])) h nx
structure GrA(b1 lk:Key)(a:Nat)(tm:T AV):Prop where
 g0:ag (K 0) tm=some (.yld lk)
 g1:ag (K 1) tm=some (.ptr b1 0)
 g3:ag (K 3) tm=some (I (a:Int))
def GrI(l:List Nat)(b1 lk:Key)(Inv:Nat→T ai→Key→Prop)(m:Nat)(aA:T AV)(h':T ai)(nx':Key):Prop:=∃k a:Nat,m=nw l-k∧k≤nw l∧a=8*k∧GrA b1 lk a aA∧Inv k h' nx'
def GrJ(s:List Nat)(b1 lk:Key)(a:Nat)(h:T ai)(nx:Key)(m:Nat)(aA:T AV)(h':T ai)(nx':Key):Prop:=m≤s.length∧GrA b1 lk a aA∧ag (K 4) aA=some (mD (ND (s.drop m)))∧ag (K 5) aA=some (I ((a:Int)+(m:Int)-1))∧h'=h∧nx'=nx
theorem aw4{l:List Nat}(hl:l.length≤1000000){b1 lk:Key}{k a:Nat}(DH:a=8*k)(hk:a<l.length){c:AV}(hc:c=.sl (ak eY l) l.length 1 .any){h:T ai}{nx:Key}(hb:ag b1 h=Qz [c]){Q:cJ}{m:Nat}{tm:T AV}(A:GrJ (seg l k) b1 lk a h nx m tm h nx)
  (mh:∀aA,GrA b1 lk a aA→ag (K 4) aA=some (mD (word l k))→Q .norm aA h nx) :
  W C (.loop rz) (aP 2 Q) tm h nx:=by
 have hs:(seg l k).length≤8:=by unfold seg;rw[zqy];omega
 refine W.iM (GrJ (seg l k) b1 lk a h nx) A ?_;rintro m gh h2 aZ ⟨hm,⟨g0,g1,g3⟩,g4,g5,rfl,rfl⟩;refine W.of ?_;simp[rz];cases m with
 |zero=>
  have dn:(a:Int)-1<(a:Int):=by omega
  simp at g5;simp[rJ,g3,g5,dn];refine mh _ ⟨by simp[g0],by simp[g1],by simp[g3]⟩ (by simp[g4,word])
 |succ j=>
  have hjs:j<(seg l k).length:=by omega
  have hsl:(seg l k).length=min 8 (l.length-8*k):=by unfold seg;rw[zqy,List.length_drop]
  have hi:a+j<l.length:=by omega
  have hsj:(seg l k)[j]=l[a+j]:=by
   have h1:(seg l k)[j]?=some l[a+j]:=by unfold seg;rw[List.getElem?_take,if_pos (by omega),List.getElem?_drop,←DH,zC hi]
   rw[zC hjs]at h1;exact Option.some.inj h1
  have g5':ag (K 5) gh=some (I ((a+j:Nat):Int)):=by
   rw[g5];have:(a:Int)+((j+1:Nat):Int)-1=((a+j:Nat):Int):=by omega
   rw[this]
  have hle:¬a+j<a:=by omega
  have hws:=ajl hjs;rw[hsj]at hws;have hx:=arE hi;have h1l:1≤(ak eY l).length-(a+j):=by rw[I2.rows];omega
  have hy:=am6 hi;generalize hwo:ND (List.drop (j+1) (seg l k))=w0 at *;generalize MO:l[a+j]=b0 at *;generalize hii:a+j=ii at *;have hcu:bG .u64 (b0:Int)=((UI b0:Nat):Int):=Ol _;have hwi:bG .i64 ((ii:Int)-1)=(ii:Int)-1:=aS (by omega) (by omega);simp[rJ,g3,g5',hle];simp[Ao,g1,g4,g5',hb,hc,hi,hx,hy,h1l,hcu,↓am8 w0,↓aw5 (adV w0 8) (UI b0)];simp[Ap,g5',hwi];refine⟨j,by omega,by omega,⟨by simp[g0],by simp[g1],by simp[g3]⟩,by simp[hws],?_,rfl,rfl⟩;simp;omega
theorem aw6{l:List Nat}(hl:l.length≤1000000){b1 lk:Key}{a s:Nat}(hk:a<l.length)(hs:s=min 8 (l.length-a)){c:AV}(hc:c=.sl (ak eY l) l.length 1 .any){h:T ai}{nx:Key}(hb:ag b1 h=Qz [c]){Q:cJ}{tm:T AV}(G:GrA b1 lk a tm)
  (hQ:∀aA,GrA b1 lk a aA→ag (K 4) aA=ag (K 4) tm→ag (K 5) aA=some (I ((a:Int)+(s:Int)-1))→Q .norm aA h nx):mE C (.ops mj) Q tm h nx:=by
 obtain⟨g0,g1,g3⟩:=G;have hw8:bG .i64 ((a:Int)+8)=(a:Int)+8:=aS (by omega) (by omega);have hws:bG .i64 ((a:Int)+(s:Int)-1)=(a:Int)+(s:Int)-1:=aS (by omega) (by omega);by_cases h8:(l.length:Int)<(a:Int)+8
 ·have e:(l.length:Int)-1=(a:Int)+(s:Int)-1:=by omega
  simp[mj,g1,g3,hb,hc,hw8,h8,e,hws];exact hQ _ ⟨by simp[g0],by simp[g1],by simp[g3]⟩ (by simp) (by simp)
 ·have e:(a:Int)+8-1=(a:Int)+(s:Int)-1:=by omega
  simp[mj,g1,g3,hb,hc,hw8,h8,e,hws];exact hQ _ ⟨by simp[g0],by simp[g1],by simp[g3]⟩ (by simp) (by simp)
theorem SV{c:AV}{l:List Nat}(hc:qf 1 eY c l)(hl:l.length≤1000000){b1 lk:Key}{Inv:Nat→T ai→Key→Prop}{R:Out→T ai→Key→Prop}(A:Grp C c l b1 lk Inv R){h:T ai}{nx:Key}(h0:Inv 0 h nx) :
  aB C dv [.yld lk,.ptr b1 0] h nx R:=by
 refine H.nP.call ?_;simp[yM];simp[Aq];refine W.iM (n:=nw l) (GrI l b1 lk Inv) ⟨0,0,by simp,by omega,rfl,⟨by simp,by simp,by simp⟩,h0⟩ ?_;rintro m gh h1 bW ⟨k,a,rfl,hk,DH,⟨g0,g1,g3⟩,hI⟩;have hb:=A.has _ _ _ hI;refine W.of ?_;simp[Ar];by_cases MR:k<nw l
 ·have hkl:a<l.length:=by unfold nw at MR;omega
  have UL:c=.sl (ak eY l) l.length 1 .any:=by
   rcases hc with⟨_,e⟩|e
   ·rw[e]at hkl;simp at hkl
   ·exact e
  have hsl:(seg l k).length=min 8 (l.length-a):=by unfold seg;rw[zqy,List.length_drop,DH]
  have hw8:bG .i64 ((a:Int)+8)=(a:Int)+8:=aS (by omega) (by omega);simp[ml,g1,g3,hb,UL,hkl];simp[As];refine amD (aw6 (C:=C) H hl (b1:=b1) (lk:=lk) hkl hsl UL hb ⟨by simp[g0],by simp[g1],by simp[g3]⟩ (fun cE G2 p4 p5=>?_));simp at p4;simp;refine aw4 H hl DH hkl UL hb (m:=(seg l k).length) ⟨gi _,G2,?_,p5,rfl,rfl⟩ (fun Lo G3 r4=>?_)
  ·rw[p4,List.drop_length];rfl
  ·obtain⟨r0,r1,r3⟩:=G3;simp[Au,r0,r4];refine(A.yld k _ _ MR hI).mono ?_;rintro o h4 mC ⟨rfl,hI4⟩;simp;simp[Av,r3,hw8];exact⟨nw l-(k+1),by omega,k+1,a+8,rfl,by omega,by omega,⟨by simp[r0],by simp[r1],by simp⟩,hI4⟩
 ·have hke:k=nw l:=by omega
  subst hke;have hnl:¬a<l.length:=by rw[DH];unfold nw;omega
  rcases id hc with⟨e0,e1⟩|e0
  ·subst e1;have ZX:¬(a:Int)<0:=by omega
   simp[ml,g1,g3,hb,e0,ZX];exact A.fin _ _ hI
  ·simp[ml,g1,g3,hb,e0,hnl];exact A.fin _ _ hI
end Ln
