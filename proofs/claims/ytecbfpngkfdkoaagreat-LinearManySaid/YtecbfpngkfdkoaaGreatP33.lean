/- A part of the proof. No condition. -/
import Derived.Test.YtecbfpngkfdkoaaGreatP10
import Derived.Test.YtecbfpngkfdkoaaGreatP20
import Derived.Test.YtecbfpngkfdkoaaGreatP32
import Derived.Test.YtecbfpngkfdkoaaGreatP19
import Derived.Test.YtecbfpngkfdkoaaGreatP6
import Derived.Shelf.SlSortCmp.NoneTotal
import Derived.Test.YtecbfpngkfdkoaaGreatProg
import Derived.Shelf.SlLaysF0
import Derived.Test.YtecbfpngkfdkoaaGreatP11
set_option linter.unusedSimpArgs false
set_option linter.unusedVariables false
set_option linter.unusedSectionVars false
namespace Ln
open Go.Sx Go Go.Proofs
def aae:Gl:=⟨12,Unit,fun _=>[],fun _=>vM,fun _ _ _=>rfl⟩
theorem afm:jI Tryz.prog .nil aae:=⟨⟨_,iL (n:=12) (by decide)⟩,fun _=>Sz⟩
def U0:Gl:=⟨23,Unit,fun _=>[],fun _=>.bool true,fun _ _ _=>rfl⟩
theorem aaf:jI Tryz.prog .nil U0:=⟨⟨_,iL (n:=23) (by decide)⟩,fun _=>aiB⟩
def iW:List Gl:=[Lb,OJ,Ld,Lc,OK,Le,FL,I6,GF,L6,U1,U2,U3,Qk,aae,U0]
theorem amY:∀F∈iW,jI Tryz.prog .nil F:=by
 intro F h;unfold iW at h;simp only[K3,List.not_mem_nil,or_false]at h;rcases h with rfl|rfl|rfl|rfl|rfl|rfl|rfl|rfl|rfl|rfl|rfl|rfl|rfl|rfl|rfl|rfl
 ·exact TV
 ·exact VW
 ·exact TX
 ·exact TW
 ·exact VX
 ·exact TY
 ·exact Ql
 ·exact R9
 ·exact U4
 ·exact U5
 ·exact w6
 ·exact aag
 ·exact aah
 ·exact tn
 ·exact afm
 ·exact aaf
theorem ib:iW.Pairwise fun a b=>a.f≠b.f:=by have h:(iW.map (·.f)).Pairwise (·≠·):=of_decide_eq_true (by kernel_rfl);exact List.pairwise_map.1 h
def XI(f:Nat):Bool:=Nat.beq f 86||Nat.beq f 67||Nat.beq f 60
noncomputable def CL:bK:=ajm amK Tw XI iW
theorem awU{f:Nat}(h:(iW.map (·.f)).contains f=false):∀l h nx,CL.sum f l h nx=none:=by refine MV fun F hF e=>?_;have:(iW.map (·.f)).contains f=true:=List.contains_iff_mem.2 (Rh.2 ⟨F,hF,e⟩);rw[h]at this;cases this
theorem nj{f:Nat}{p:ej}(hp:Hb Tryz.prog f=some p)(hg:Fl CL f=some (fx f):=by kernel_rfl)(ho:(iW.map (·.f)).contains f=false:=by kernel_rfl)(hr:XI f=false:=by kernel_rfl):Fn CL f p:=⟨by rw[hg,ao8 hp],awU ho,hr⟩
theorem asy{f:Nat}{p:ej}(hp:Hb Tryz.prog f=some p)(hg:Fl CL f=some (fx f):=by kernel_rfl)(ho:(iW.map (·.f)).contains f=false:=by kernel_rfl)(hr:XI f=true:=by kernel_rfl):FnR CL f p:=⟨by rw[hg,ao8 hp],awU ho,hr⟩
theorem XJ:Lb∈iW:=by simp[iW]
theorem aai:OJ∈iW:=by simp[iW]
theorem XK:Ld∈iW:=by simp[iW]
theorem XL:Lc∈iW:=by simp[iW]
theorem aaj:OK∈iW:=by simp[iW]
theorem XM:Le∈iW:=by simp[iW]
theorem Sa:FL∈iW:=by simp[iW]
theorem U6:I6∈iW:=by simp[iW]
theorem MX:GF∈iW:=by simp[iW]
theorem XN:L6∈iW:=by simp[iW]
theorem afn:U1∈iW:=by simp[iW]
theorem afo:U2∈iW:=by simp[iW]
theorem afp:U3∈iW:=by simp[iW]
theorem aak:Qk∈iW:=by simp[iW]
theorem ajn:aae∈iW:=by simp[iW]
theorem afq:U0∈iW:=by simp[iW]
theorem Ea(w:Int):Std CL (K1 w) where
 orc:=rfl
 raw _:=rfl
 ok:=an2 w
 w7:=nj GU
 lu:=asy vE
 Fk:=nj NP
 yJ:=nj IV
 Kv:=nj RP
 Dc:=nj LP
 AP:=nj Km
 Hc:=nj P6
 z8:=nj Ko
 FD:=asy NQ
 wy:=nj GV
 Dd:=nj LQ
 FE:=nj NR
 JB:=nj RT
 HG:=nj P7
 Ap:=nj Kq
 AQ:=nj Kr
 FG:=nj NS
 yK:=nj IX
 AR:=nj yH
 ov:=nj zk
 oD:=nj zl
 qF:=nj Cg
 qH:=nj Ch
 iv:=nj xR
 qg:=nj AF
 tv:=nj DY
 Fo:=nj NT
 zO:=nj Ks
 Db:=nj LR
 Kw:=nj RU
 FH:=nj NU
 Ku:=nj RW
 Mo:=nj UW
 HZ:=nj P8
 Kx:=nj RX
 FI:=nj NV
 J9:=nj RY
 Qj:=nj Xm
 Ky:=nj RZ
 H0:=nj Qa
 yL:=nj I2
 FJ:=nj NW
 CZ:=nj LU
 Fw:=nj NX
 De:=asy LV
 CU:=nj LW
 MW:=nj UX
 MF:=nj UY
 Kz:=nj R6
 gp:=nj nf
 ei:=nj jl
 s_InitP i hi h nx:=by subst hi;exact cx XJ ib w h nx
 s_CanP c s o ho hs h nx:=by obtain⟨rfl,ho2,_⟩:=ho;obtain⟨k,n,l⟩:=s;obtain rfl:l=[]:=SK (Nat.le_zero.1 hs);rw[ho2];exact cx aai ib (⟨k,n,w⟩:QW) h nx
 s_NextP c s o ho hs h nx:=by obtain⟨rfl,ho2,_⟩:=ho;obtain⟨k,n,l⟩:=s;obtain rfl:l=[]:=SK (Nat.le_zero.1 hs);rw[ho2];exact cx XK ib (⟨⟨k,n,w⟩,o.res⟩:QV) h nx
 s_InitR i hi h nx:=by subst hi;exact cx XL ib w h nx
 s_CanR c s o ho hs h nx:=by obtain⟨rfl,ho2,_⟩:=ho;obtain⟨k,n,l⟩:=s;obtain rfl:l=[]:=SK (Nat.le_zero.1 hs);rw[ho2];exact cx aaj ib (⟨k,n,w⟩:QW) h nx
 s_NextR c s o ho hs h nx:=by obtain⟨rfl,ho2,_⟩:=ho;obtain⟨k,n,l⟩:=s;obtain rfl:l=[]:=SK (Nat.le_zero.1 hs);rw[ho2];exact cx XM ib (⟨⟨k,n,w⟩,o.res⟩:QV) h nx
 s_parser_Decl i hi h nx:=by subst hi;exact cx Sa ib (⟨2,by decide⟩:QJ) h nx
 s_ref09_Decl i hi h nx:=by subst hi;exact cx U6 ib (⟨2,by decide⟩:QJ) h nx
 s_values_Valid u h nx:=by have e:=cx MX ib (⟨⟨u.k,u.n,[]⟩,Nat.zero_le _⟩:QK) h nx;simp only[GF,awV]at e;exact e
 s_values_Compare s t hs ht h nx:=cx afn ib ⟨s,t,hs,ht⟩ h nx
 s_ref10_Valid u h nx:=cx XN ib u h nx
 s_ref10_Compare s t hs ht h nx:=cx afo ib ⟨s,t,hs,ht⟩ h nx
 s_Equal s t hs ht h nx:=cx afp ib ⟨s,t,hs,ht⟩ h nx
 s_Clone s hs h nx:=cx aak ib ⟨s,hs⟩ h nx
 s_Module h nx:=cx ajn ib () h nx
 s_lives h nx:=cx afq ib () h nx
theorem awW{ρ:Nat→Int}(w0:W0)(hL:iE Tryz.prog .nil w0):Ctx Tryz.prog ρ w0 CL:=asx Ts aiW mix amY Tw XI w0 hL
end Ln
namespace Go.Sx
open Go Go.RowKit Go.Sort
section
variable{α:Type}[Inhabited α]{k:Nat}{eA:α→List AV}{eV:α→List Value}
omit [Inhabited α] in
theorem Tp(F:Flat k eA){l:List α}{i r:Nat}(hi:i<l.length)(hr:r<k):(ag eA l)[i*k+r]?=(eA l[i])[r]?:=by rw[←F.at hi,List.getElem?_take_of_lt hr,List.getElem?_drop]
theorem ase{w:World}{c off m:Nat}{d:Array α}{os:Array Obj}{arr:Array Value}{elem:TypeId}{fz:Nat×Nat}(h:w.heap[c]?=some (.cells arr elem fz)) :
  (Go.Proofs.sortWorldK eV k w c off m d os).heap[c]?=some (.cells (putCells id off (flatK eV k d) arr) elem fz):=by
 have hc:c<w.heap.size:=(Array.getElem?_eq_some_iff.1 h).1;simp only[Go.Proofs.sortWorldK,grow,putRowK,putRow,mapBlock,Go.Sort.ahead,Array.getElem?_append,Array.size_modify,hc,if_true,Array.getElem?_modify,h,Option.map_some,onCells]
theorem Kg{w:World}{c off m:Nat}{d:Array α}{os:Array Obj}{c':Nat}(bU:c'≠c)(h:c'<w.heap.size) :
  (Go.Proofs.sortWorldK eV k w c off m d os).heap[c']?=w.heap[c']?:=by
 simp only[Go.Proofs.sortWorldK,grow,putRowK,putRow,mapBlock,Go.Sort.ahead,Array.getElem?_append,Array.size_modify,h,if_true,Array.getElem?_modify,Ne.symm bU,if_false]
theorem adh{w:World}{c off m:Nat}{d:Array α}{os:Array Obj}:w.heap.size≤(Go.Proofs.sortWorldK eV k w c off m d os).heap.size:=by simp[Go.Proofs.sortWorldK,grow,putRowK,putRow,mapBlock,Go.Sort.ahead]
theorem W9{w:World}{B c off m:Nat}{d:Array α}{os:Array Obj}(hB:B≤c)(hw:B≤w.heap.size):Below B w (Go.Proofs.sortWorldK eV k w c off m d os):=
 ⟨rfl,rfl,rfl,adh,fun i hi=>Kg (by omega) (by omega)⟩
theorem P1{W w':World}(hb:Below W.heap.size W w')(hd:W.drawn≤w'.drawn):∃q os',w'=grow (W.drewN q) os':=by
 refine⟨w'.drawn-W.drawn,w'.heap.extract W.heap.size w'.heap.size,?_⟩;obtain⟨h1,h2,h3,h4,h5⟩:=hb;have he:w'.heap=W.heap++w'.heap.extract W.heap.size w'.heap.size:=by
  apply Array.ext_getElem?;intro i;rw[Array.getElem?_append];split
  ·rename_i hi;exact h5 i hi
  ·rename_i hi;rw[Array.getElem?_extract];by_cases hi2:i<w'.heap.size
   ·rw[if_pos (by omega)];congr 1;omega
   ·rw[if_neg (by omega),VY (by omega)]
 cases w' with
 |mk heap tape drawn os output=>simp only[grow,World.drewN]at *;subst h1 h2 h3;congr 1;omega
end
section
variable{P:Program}{ρ:Nat→Int}{heap0:T ah}{C:bK}{α:Type}[Inhabited α]{k:Nat}{eA:α→List AV}{eV:α→List Value}
theorem amB{R:Go.Shelf.Ren}(hX:∀w0:W0,iE P heap0 w0→Ctx P ρ w0 C){cf:α→α→Int}{g:Nat}{nx0:Key}(hn:P.globals.size≤nx0.toNat)
  (hc:∀x y,aH C g [.agg (eA x),.agg (eA y)] heap0 nx0 fun o _ _=>o=.ret (.int .i64 (.lit (cf x y))))
  {w0:W0} (hL:iE P heap0 w0) {w:World} {μ:Mu} {G:Key→Option ah} {nx:Nat} (hM:aZ P ρ w0 μ G nx w) {c off n:Nat} (rp:∀x,ax ρ μ (eA x) (eV x)) (hkf:∀x,AV.Ec (eA x)=true) (rm:w0.heap.size≤c) (UB:∀i,μ.fz c i=none) (WD:c<w.heap.size) :
  Go.Proofs.CmpLays P g #[] eV k cf c off n w:=by
 intro m os dk _ x y;have hb:Below w0.heap.size w0.toWorld (Go.Proofs.sortWorldK eV k w c off m dk os):=hM.below.trans (W9 rm hM.below.size);have hL1:iE P heap0 ⟨Go.Proofs.sortWorldK eV k w c off m dk os,μ.fz⟩:=hL.aiM hb hM.zle;have hz:∀c' i v,μ.fz c' i=some v→∃arr elem f,(Go.Proofs.sortWorldK eV k w c off m dk os).heap[c']?=some (.cells arr elem f)∧arr[i]?=some v:=by
  intro c' i v h1;obtain⟨arr,elem,f,h2,h3⟩:=hM.T3 _ _ _ h1;refine⟨arr,elem,f,?_,h3⟩;have bU:c'≠c:=by rintro rfl;rw[UB]at h1;cases h1
  rw[Kg bU (Array.getElem?_eq_some_iff.1 h2).1];exact h2
 have hM1:=GA (ρ:=ρ) (w0:=⟨Go.Proofs.sortWorldK eV k w c off m dk os,μ.fz⟩) hL1 hz (nx:=nx0.toNat) hn;have hr:∀x,ax ρ (gMu P heap0 μ.fz) (eA x) (eV x):=fun x=>ax.kf (μ:=μ) (μ':=gMu P heap0 μ.fz) (fun _ _ _ h=>h) (rp x) (hkf x);have ha:ax ρ (gMu P heap0 μ.fz) [.agg (eA x),.agg (eA y)] (#[Value.agg (eV x).toArray,.agg (eV y).toArray] ++ #[]).toList:=
  .cons _ _ _ _ (.agg _ _ (by simpa using hr x)) (.cons _ _ _ _ (.agg _ _ (by simpa using hr y)) .nil)
 refine(Fp (hX _ hL1) hM1 (fun _ _ h=>h) ha (fun o _ _ h=>⟨_,h⟩) (hc x y)).mono ?_;rintro e w' ⟨v,h',nx',u,μ2,G2,hr,rfl,hv,_,Y6,_⟩;cases hr;refine⟨?_,P1 Y6.below Y6.dr⟩;cases hv with
 |int _ _ n h=>rw[←h];rfl
def Z6(arr:Array Value)(o k j:Nat):List Value:=(arr.toList.drop (o+j*k)).take k
theorem Xa{arr:Array Value}{o k j r:Nat}(hr:r<k):(Z6 arr o k j)[r]?=arr[o+j*k+r]?:=by unfold Z6;rw[List.getElem?_take_of_lt hr,List.getElem?_drop];simp
theorem holds_of{w:World}{c off n:Nat}[Inhabited (_root_.Fin n)]{arr:Array Value}{elem:TypeId}(ho:w.heap[c]?=some (.cells arr elem (0,0)))(hs:∀i,i<n*k→∃v,arr[off+i]?=some v) :
  HoldsK (fun j:_root_.Fin n=>Z6 arr off k j) k w c off (List.finRange n).toArray:=by
 intro j hj;rw[size_flatK]at hj;have hlen:j<n*k:=by simpa using hj
 have hk:0<k:=by
  rcases Nat.eq_zero_or_pos k with e|e
  ·subst e;simp at hlen
  ·exact e
 have hq:j / k<n:=Nat.div_lt_of_lt_mul (by rw[Nat.mul_comm];exact hlen);have hr:j%k<k:=Nat.mod_lt _ hk;obtain⟨v,hv⟩:=hs j hlen;refine⟨?_,?_⟩
 ·simp only[World.cell?,ho,hv,Option.isSome_none,SH,if_false,id];rw[get_flatK _ _ _ _ hj];have e1:(List.finRange n).toArray[j / k]! = ⟨j / k,hq⟩:=by simp[hq]
  have e2:off+j / k*k+j%k=off+j:=by rw[Nat.add_assoc,Nat.div_add_mod' j k]
  rw[e1,List.getElem!_eq_getElem?_getD,Xa hr,e2,hv];rfl
 ·simp[World.frozen?,ho]
theorem ae8{β:Type}{enc:β→List AV}(hX:∀w0:W0,iE P heap0 w0→Ctx P ρ w0 C){R:Go.Shelf.Ren}(L:Go.Proofs.SlLaysF0.n6 P R)(aE:∀w,(isAgg (R.t 24)).run P w=.ok true w)(zE:∀w,(Go.sizeOf (R.t 24)).run P w=.ok k w)(F:Flat k enc)(hkf:∀x,AV.Ec (enc x)=true){cf:β→β→Int}(hO:SWO (Go.Proofs.ltOf cf))
  (hT:∀x y,Go.Proofs.ltOf cf x y=false→Go.Proofs.ltOf cf y x=false→x=y) {g:Nat} (eg:∀args w,(callFunc g args).run P w=.ok (.enter g args) w) {nx0:Key} (hn:P.globals.size≤nx0.toNat)
  {us:List β} (Of:us.Nodup) (hc:∀x∈us,∀y∈us,aH C g [.agg (enc x),.agg (enc y)] heap0 nx0 fun o _ _=>o=.ret (.int .i64 (.lit (cf x y)))) (hz:us.length<4611686018427387904)
  {w0:W0} (hL:iE P heap0 w0) {H:T ah} {nx b:Key} (hb:ae b H=some (.cells (ag enc us) .fix)) :
  JA P ρ w0 (R.f 6) [.slice b 0 us.length k,.fn g [] []] H nx (.tuple []) (av b (some (.cells (ag enc (us.mergeSort fun x y=>!(Go.Proofs.ltOf cf) y x)) .fix)) H) nx:=by
 intro args w μ G hM hH ha;obtain⟨args⟩:=args;have ha:ax ρ μ [.slice b 0 us.length k,.fn g [] []] args:=ha;cases ha with
 |cons _ _ v1 r1 h1 Y1=>
 cases Y1 with
 |cons _ _ v2 r2 h2 Pq=>
 cases Pq;cases h2 with
 |fn _ _ _ vs ws hvs hws=>
 obtain⟨vs⟩:=vs;obtain⟨ws⟩:=ws;have hvs:ax ρ μ [] vs:=hvs;have hws:ax ρ μ [] ws:=hws;cases hvs;cases hws;cases h1 with
 |slice _ _ _ _ cap l a hl BP hle aiN=>
 have hG:=hH _ _ hb;obtain⟨l',o,Te,ho,hB⟩:=hM.xG _ _ hG;rw[hl]at Te;cases Te;cases hB with
 |cells _ _ _ arr elem fz MH vt avt aDm aiO=>
 have aDn:=aDm (by simp);subst aDn;have aiO:=aiO (by simp);have rm:w0.heap.size≤l.c:=by
  rcases hM.own _ _ _ hG hl with h|h
  ·exact h.elim
  ·exact h
 have hfr:∀i,μ.fz l.c i=none:=fun i=>hM.fzf b _ l 0 hG hl rfl i (Nat.zero_le _);have asf:=hM.zA _ _ hl;have ao3:=F.rows us;by_cases h0:us=[]
 ·subst h0;refine(Go.Proofs.AnyF.slices_SortFunc_none L (some a) cap (.func (.func g) #[] #[]) w).mono ?_;rintro e w' ⟨rfl,rfl⟩;refine⟨_,μ,G,rfl,.tuple _ _ .nil,μ.le_refl,hM,?_,⟨fun _ _ _=>rfl,fun _ _=>rfl,fun b' h' _=>?_,fa _⟩⟩
  ·intro b' B' h';by_cases e:b'=b
   ·subst e;rw[gTSm]at h';cases h';simpa using hG
   ·rw[aR _ _ _ _ e]at h';exact hH _ _ h'
  ·have e:b'≠b:=by rintro rfl;rw[hb]at h';cases h'
   rw[aR _ _ _ _ e];exact h'
 ·have Lw:0<us.length:=List.length_pos_iff.2 h0;have aiN:a=⟨l.c,l.base,none⟩:=by
   rcases aiN with h|h
   ·omega
   ·exact h
  subst aiN
  let eA:_root_.Fin us.length→List AV:=fun j=>enc us[j]
  let eV:_root_.Fin us.length→List Value:=fun j=>Z6 arr l.base k j
  let cg:_root_.Fin us.length→_root_.Fin us.length→Int:=fun i j=>cf us[i] us[j]
  haveI:Inhabited (_root_.Fin us.length):=⟨⟨0,Lw⟩⟩
  have FA:Flat k eA:=⟨fun x=>F.len _,fun x=>F.vV _,fun x=>F.cell _,fun x=>F.lits _⟩;have aiP:∀i,i<us.length*k→∃v,arr[l.base+i]?=some v:=fun i hi=>by obtain⟨v,hv,_⟩:=MH i _ (xF (by rw[ao3];exact hi));exact⟨v,hv⟩
  have hjk:∀(j:_root_.Fin us.length) r,r<k→j.1*k+r<us.length*k:=fun j r hr=>by have:=Nat.mul_le_mul_right k (show j.1+1≤us.length from j.2);rw[Nat.add_mul,Nat.one_mul]at this;omega
  have ao4:∀j,(eV j).length=k:=fun j=>by
   show(Z6 arr l.base k j).length=k;unfold Z6;rw[V9,List.length_drop,Nat.min_eq_left];rcases Nat.eq_zero_or_pos k with e|e
   ·omega
   ·obtain⟨v,hv⟩:=aiP _ (hjk j (k-1) (by omega));have:=(Array.getElem?_eq_some_iff.1 hv).1;simp;omega
  have rp:∀x,ax ρ μ (eA x) (eV x):=fun x=>by
   refine ax.T1 (by rw[ao4];exact F.len _) fun r a ha=>?_;have hr:r<k:=by have:=(List.getElem?_eq_some_iff.1 ha).1;rw[show(eA x).length=k from F.len _]at this;exact this
   have hg:=Tp F (l:=us) (i:=x.1) x.2 hr;obtain⟨v,hv,hvr⟩:=MH _ a (hg.trans ha);refine⟨v,?_,hvr⟩;show(Z6 arr l.base k x)[r]?=some v;rw[Xa hr,Nat.add_assoc];exact hv
  have aDo:∀x,∀v∈eV x,v.oneCell'=true:=fun x=>BR (rp x) (vJ.2 (F.cell _));have hOg:SWO (Go.Proofs.ltOf cg):=⟨fun x=>hO.irrefl _,fun x y z=>hO.trans _ _ _,fun x y z=>hO.ntrans _ _ _⟩;have hTg:∀x y,Go.Proofs.ltOf cg x y=false→Go.Proofs.ltOf cg y x=false→x=y:=fun x y h1 h2=>by
   have e:=hT _ _ h1 h2;rw[List.nodup_iff_pairwise_ne,List.pairwise_iff_getElem]at Of;rcases Nat.lt_trichotomy x.1 y.1 with h|h|h
   ·exact absurd e (Of _ _ x.2 y.2 h)
   ·exact Fin.ext h
   ·exact absurd e.symm (Of _ _ y.2 x.2 h)
  have aDp:(List.finRange us.length).length=us.length:=List.length_finRange;have hH1:HoldsK eV k w l.c l.base (List.finRange us.length).toArray:=holds_of ho aiP;have aDq:(List.finRange us.length).toArray.size=us.length:=by simp
  have key:=Go.Proofs.AnyQ.slices_SortFunc_total L k aE zE eV ao4 aDo cg hOg g #[] l.c l.base cap (List.finRange us.length).toArray w eg
   (amB (R:=R) (eA:=eA) hX hn (fun x y=>hc _ (Mg _) _ (Mg _)) hL hM rp (fun x=>hkf _) rm hfr asf) hH1 asf (by simpa using hz) hTg
  rw[aDq]at key;refine(show Calls P (R.f 6) #[.slice (some ⟨l.c,l.base,none⟩) us.length cap,.func (.func g) #[] #[]] w _ from key).mono ?_;rintro e w' ⟨rfl,n,os,rfl⟩;have hlen:((List.finRange us.length).mergeSort fun x y=>!(Go.Proofs.ltOf cg) y x).length=us.length:=by rw[List.length_mergeSort,aDp]
  have LN:ag enc (us.mergeSort fun x y=>!(Go.Proofs.ltOf cf) y x)=ag eA ((List.finRange us.length).mergeSort fun x y=>!(Go.Proofs.ltOf cg) y x):=by
   have e:=List.map_mergeSort (r:=fun x y:_root_.Fin us.length=>!(Go.Proofs.ltOf cg) y x) (s:=fun x y:β=>!(Go.Proofs.ltOf cf) y x) (f:=fun j=>us[j]) (l:=List.finRange us.length) (fun a _ b _=>rfl);have e2:(List.finRange us.length).map (fun j=>us[j])=us:=by apply List.ext_getElem (by simp);intro i h1 h2;simp
   rw[e2]at e;rw[←e];simp only[ag,List.flatMap_map];rfl
  rw[LN];simp only[List.toList_toArray]at *;generalize hsd:((List.finRange us.length).mergeSort fun x y=>!(Go.Proofs.ltOf cg) y x)=sd at hlen ⊢;have hH2:HoldsK eV k (Go.Proofs.sortWorldK eV k w l.c l.base n sd.toArray os) l.c l.base sd.toArray:=Go.Proofs.holdsK_sortWorldK_c eV k w l.c l.base (List.finRange us.length).toArray sd.toArray n os hH1 asf (by simpa using hlen);have amd:=ase (eV:=eV) (k:=k) (off:=l.base) (m:=n) (d:=sd.toArray) (os:=os) ho;have awv:∀b' B' l',b'≠b→G b'=some B'→μ b'=some l'→(Go.Proofs.sortWorldK eV k w l.c l.base n sd.toArray os).heap[l'.c]?=w.heap[l'.c]?:=fun b' B' l' bU hg hm=>Kg (hM.sep _ _ _ _ _ _ hg hG hm hl bU) (hM.zA _ _ hm);have aiQ:=FA.rows sd;have hsr:(ag eA sd).length=(ag enc us).length:=by rw[aiQ,ao3,hlen]
  refine⟨_,μ,lF G b (some (.cells (ag eA sd) .fix)),rfl,.tuple _ _ .nil,μ.le_refl,?_,?_,⟨fun b' h' _=>?_,fun _ _=>rfl,fun b' h' _=>?_,fa _⟩⟩
  ·refine⟨?_,?_,?_,?_,hM.NG,hM.new,hM.below.trans (W9 rm hM.below.size),?_,?_,hM.zle,hM.fzo,?_,?_⟩
   ·intro b' B' hg;by_cases e:b'=b
    ·subst e;rw[eG]at hg;cases hg;refine⟨l,_,hl,amd,.cells _ _ _ _ _ _ ?_ ?_ ?_ (fun _=>rfl) ?_⟩
     ·intro i x hx;have hi:i<sd.length*k:=by rw[←aiQ];exact(List.getElem?_eq_some_iff.1 hx).1
      have hj:=(hH2 i (by rw[size_flatK];simpa using hi)).1;simp only[World.cell?,amd,Option.isSome_none,SH,if_false,id]at hj;refine⟨_,hj,?_⟩;have hk:0<k:=by
       rcases Nat.eq_zero_or_pos k with e|e
       ·subst e;simp at hi
       ·exact e
      have hq:i / k<sd.length:=Nat.div_lt_of_lt_mul (by rw[Nat.mul_comm];exact hi);have hr:i%k<k:=Nat.mod_lt _ hk;rw[get_flatK _ _ _ _ (by simpa using hi)];have e1:sd.toArray[i / k]! = sd[i / k]:=by simp[hq]
      have DX:=Tp FA hq hr;rw[Nat.div_add_mod' i k,hx]at DX;obtain⟨v,hv,rp⟩:=(rp sd[i / k]).get _ _ DX.symm;rw[e1,List.getElem!_eq_getElem?_getD,hv];exact rp
     ·simpa[putCells]using vt
     ·rw[hsr];exact avt
     ·intro _;rw[hsr];exact aiO
    ·rw[bE _ _ e]at hg;obtain⟨l2,o2,h3,h4,h5⟩:=hM.xG _ _ hg;exact⟨l2,o2,h3,by rw[awv _ _ _ e hg h3];exact h4,h5⟩
   ·intro b1 b2 B1 B2 l1 l2 g1 g2 m1 m2 bU;have:∀b' B',lF G b (some (.cells (ag eA sd) .fix)) b'=some B'→∃B'',G b'=some B'':=by
     intro b' B' h';by_cases e:b'=b
     ·subst e;exact⟨_,hG⟩
     ·rw[bE _ _ e]at h';exact⟨_,h'⟩
    obtain⟨x1,y1⟩:=this _ _ g1;obtain⟨x2,y2⟩:=this _ _ g2;exact hM.sep _ _ _ _ _ _ y1 y2 m1 m2 bU
   ·intro b' l2 hm;exact Lk (hM.zA _ _ hm) adh
   ·intro b' B' l2 hg hm;by_cases e:b'=b
    ·subst e;rw[hl]at hm;cases hm;exact .inr rm
    ·rw[bE _ _ e]at hg;exact hM.own _ _ _ hg hm
   ·intro c' i v hv;have bU:c'≠l.c:=by rintro rfl;rw[hfr]at hv;cases hv
    obtain⟨aDr,el,f,h3,h4⟩:=hM.T3 _ _ _ hv;exact⟨aDr,el,f,by rw[Kg bU (Array.getElem?_eq_some_iff.1 h3).1];exact h3,h4⟩
   ·intro b' B' l2 n2 hg hm xH i hi;by_cases e:b'=b
    ·subst e;rw[hl]at hm;cases hm;exact hfr i
    ·rw[bE _ _ e]at hg;exact hM.fzf _ _ _ _ hg hm xH i hi
   ·intro b' L2 l2 hg hm;by_cases e:b'=b
    ·subst e;rw[eG]at hg;cases hg
    ·rw[bE _ _ e]at hg;rw[awv _ _ _ e hg hm];exact hM.rof _ _ _ hg hm
   ·show w0.drawn≤w.drawn+n;have:=hM.dr;omega
  ·intro b' B' h';by_cases e:b'=b
   ·subst e;rw[gTSm]at h';rw[eG];exact h'
   ·rw[aR _ _ _ _ e]at h';rw[bE _ _ e];exact hH _ _ h'
  ·have e:b'≠b:=by rintro rfl;rw[hb]at h';cases h'
   rw[bE _ _ e]
  ·have e:b'≠b:=by rintro rfl;rw[hb]at h';cases h'
   rw[aR _ _ _ _ e];exact h'
end
end Go.Sx
namespace Go.Proofs
open Go.Shelf
def Tryz.laysS_ren:Go.Shelf.Ren:=⟨fun|6=>63|15=>136|14=>135|28=>218|29=>219|20=>210|21=>211|22=>212|23=>213|24=>214|25=>215|26=>216|27=>217|46=>280|47=>281|48=>282|49=>283|50=>284|57=>343|n=>n,fun|22=>33|24=>145|25=>153|3=>3|39=>283|0=>0|53=>372|55=>223|4=>4|46=>366|45=>365|50=>197|5=>5|9=>9|66=>438|70=>441|76=>478|77=>479|n=>n,fun|n=>n⟩
theorem Tryz.laysS:Go.Proofs.SlLaysF0.n6 Tryz.prog Tryz.laysS_ren:={
 mixed:=by kernel_rfl
 f6:=⟨Tryz.f63.name,by decide,Tryz.func63.trans (congrArg some (by kernel_rfl))⟩
 f14:=⟨Tryz.f135.name,by decide,Tryz.func135.trans (congrArg some (by kernel_rfl))⟩
 f15:=Tryz.func136.trans (congrArg some (by kernel_rfl))
 f20:=⟨Tryz.f210.name,by decide,Tryz.func210.trans (congrArg some (by kernel_rfl))⟩
 f21:=⟨Tryz.f211.name,by decide,Tryz.func211.trans (congrArg some (by kernel_rfl))⟩
 f22:=⟨Tryz.f212.name,by decide,Tryz.func212.trans (congrArg some (by kernel_rfl))⟩
 f23:=⟨Tryz.f213.name,by decide,Tryz.func213.trans (congrArg some (by kernel_rfl))⟩
 f24:=⟨Tryz.f214.name,by decide,Tryz.func214.trans (congrArg some (by kernel_rfl))⟩
 f25:=⟨Tryz.f215.name,by decide,Tryz.func215.trans (congrArg some (by kernel_rfl))⟩
 f26:=⟨Tryz.f216.name,by decide,Tryz.func216.trans (congrArg some (by kernel_rfl))⟩
 f27:=⟨Tryz.f217.name,by decide,Tryz.func217.trans (congrArg some (by kernel_rfl))⟩
 f28:=Tryz.func218.trans (congrArg some (by kernel_rfl))
 f29:=Tryz.func219.trans (congrArg some (by kernel_rfl))
 f46:=⟨Tryz.f280.name,by decide,Tryz.func280.trans (congrArg some (by kernel_rfl))⟩
 f47:=Tryz.func281.trans (congrArg some (by kernel_rfl))
 f48:=Tryz.func282.trans (congrArg some (by kernel_rfl))
 f49:=⟨Tryz.f283.name,by decide,Tryz.func283.trans (congrArg some (by kernel_rfl))⟩
 f50:=⟨Tryz.f284.name,by decide,Tryz.func284.trans (congrArg some (by kernel_rfl))⟩
 f57:=⟨Tryz.f343.name,by decide,Tryz.func343.trans (congrArg some (by kernel_rfl))⟩
 t0:=Tryz.underlying0
 a0:=Tryz.isAgg0
 z0:=Tryz.sizeOf0
 v0:=Tryz.zeroValue0
 t3:=Tryz.underlying3
 a3:=Tryz.isAgg3
 z3:=Tryz.sizeOf3
 v3:=Tryz.zeroValue3
 t4:=Tryz.underlying4
 a4:=Tryz.isAgg4
 z4:=Tryz.sizeOf4
 v4:=Tryz.zeroValue4
 t5:=Tryz.underlying5
 a5:=Tryz.isAgg5
 z5:=Tryz.sizeOf5
 v5:=Tryz.zeroValue5
 t9:=Tryz.underlying9
 a9:=Tryz.isAgg9
 z9:=Tryz.sizeOf9
 v9:=Tryz.zeroValue9
 t22:=Tryz.underlying33
 a22:=Tryz.isAgg33
 z22:=Tryz.sizeOf33
 v22:=Tryz.zeroValue33
 t25:=Tryz.underlying153
 a25:=Tryz.isAgg153
 z25:=Tryz.sizeOf153
 v25:=Tryz.zeroValue153
 t39:=Tryz.underlying283
 a39:=Tryz.isAgg283
 z39:=Tryz.sizeOf283
 v39:=Tryz.zeroValue283
 t45:=Tryz.underlying365
 a45:=Tryz.isAgg365
 z45:=Tryz.sizeOf365
 v45:=Tryz.zeroValue365
 t46:=Tryz.underlying366
 a46:=Tryz.isAgg366
 z46:=Tryz.sizeOf366
 v46:=Tryz.zeroValue366
 t50:=Tryz.underlying197
 a50:=Tryz.isAgg197
 z50:=Tryz.sizeOf197
 v50:=Tryz.zeroValue197
 t53:=Tryz.underlying372
 a53:=Tryz.isAgg372
 z53:=Tryz.sizeOf372
 v53:=Tryz.zeroValue372
 t55:=Tryz.underlying223
 a55:=Tryz.isAgg223
 z55:=Tryz.sizeOf223
 v55:=Tryz.zeroValue223
 t66:=Tryz.underlying438
 a66:=Tryz.isAgg438
 z66:=Tryz.sizeOf438
 v66:=Tryz.zeroValue438
 t70:=Tryz.underlying441
 a70:=Tryz.isAgg441
 z70:=Tryz.sizeOf441
 v70:=Tryz.zeroValue441
 t76:=Tryz.underlying478
 a76:=Tryz.isAgg478
 z76:=Tryz.sizeOf478
 v76:=Tryz.zeroValue478
 t77:=Tryz.underlying479
 a77:=Tryz.isAgg479
 z77:=Tryz.sizeOf479
 v77:=Tryz.zeroValue479}
end Go.Proofs
namespace Ln
def J8(a b:Cf St):Prop:=a.1<b.1∨a.1=b.1∧ig a.2 b.2<0
theorem adO(a:Cf St):¬J8 a a:=by
 rintro(h|⟨_,h⟩)
 ·omega
 ·rw[sM.2 rfl]at h;omega
theorem U8{a b c:Cf St}(h:J8 a b)(k:J8 b c):J8 a c:=by
 rcases h with h|⟨h1,h2⟩<;>rcases k with k|⟨k1,k2⟩
 ·exact .inl (by omega)
 ·exact .inl (by omega)
 ·exact .inl (by omega)
 ·exact .inr ⟨by omega,BH h2 k2⟩
theorem anG{a b:Cf St}(h:¬J8 a b)(bU:a≠b):J8 b a:=by
 by_cases h1:b.1<a.1
 ·exact .inl h1
 ·have h4:¬a.1<b.1:=fun q=>h (.inl q);have e:a.1=b.1:=by omega
  refine .inr ⟨e.symm,?_⟩;have h2:¬ig a.2 b.2<0:=fun q=>h (.inr ⟨e,q⟩);have h3:ig a.2 b.2≠0:=fun q=>bU (Prod.ext e (sM.1 q));refine(zT _ _).2 ?_;unfold ig at h2 h3;omega
theorem aqn{out:List (Cf St)}{x:Cf St}{k:Nat}(hk:k≤out.length)(h:out.Pairwise J8)(hx:x∉out)(hb:∀j (hj:j<out.length),k≤j→J8 x out[j])(ha:k=0∨∃hj:k-1<out.length,¬J8 x out[k-1]):(out.take k++x ::out.drop k).Pairwise J8:=by
 have hg:=List.pairwise_iff_getElem.1 h;have xH:∀y∈out.take k,J8 y x:=by
  intro y hy;obtain⟨i,hi,rfl⟩:=List.getElem_of_mem hy;have hi2:i<k∧i<out.length:=by rw[List.length_take]at hi;omega
  rw[List.getElem_take];rcases ha with rfl|⟨hj,hn⟩
  ·omega
  ·have h1:J8 out[k-1] x:=anG hn (by rintro rfl;exact hx (List.getElem_mem hj));by_cases e:i=k-1
   ·subst e;exact h1
   ·exact U8 (hg i (k-1) hi2.2 hj (by omega)) h1
 have hhi:∀y∈out.drop k,J8 x y:=by
  intro y hy;obtain⟨i,hi,rfl⟩:=List.getElem_of_mem hy;have hi2:k+i<out.length:=by rw[List.length_drop]at hi;omega
  rw[List.getElem_drop];exact hb (k+i) hi2 (by omega)
 have h0:=h;rw[←List.take_append_drop k out,List.pairwise_append]at h0;obtain⟨h1,h2,h3⟩:=h0;rw[List.pairwise_append,List.pairwise_cons];refine⟨h1,⟨hhi,h2⟩,?_⟩;intro a ha2 b hb2;rcases List.mem_cons.1 hb2 with rfl|hb2
 ·exact xH a ha2
 ·exact h3 a ha2 b hb2
theorem alY{out:List (Cf St)}{x:Cf St}(k:Nat)(y:Cf St):y∈out.take k++x ::out.drop k↔y=x∨y∈out:=by
 conv=>rhs;rw[←List.take_append_drop k out]
 simp only[List.mem_append,List.mem_cons];constructor
 ·rintro(h|h|h)
  ·exact .inr (.inl h)
  ·exact .inl h
  ·exact .inr (.inr h)
 ·rintro(h|h|h)
  ·exact .inr (.inl h)
  ·exact .inl h
  ·exact .inr (.inr h)
theorem TF{α:Type}[DecidableEq α]:∀{l m:List α},l.Nodup→(∀x∈l,x∈m)→l.length≤m.length
 | [],m,_,_=>Nat.zero_le _
 |a ::l,m,h,hs=>by rw[List.nodup_cons]at h;have ha:a∈m:=hs a (by simp);have h1:=TF (l:=l) (m:=m.erase a) h.2 fun x hx=>(List.mem_erase_of_ne (by rintro rfl;exact h.1 hx)).2 (hs x (by simp[hx]));have h2:=List.length_erase_of_mem ha;have h3:0<m.length:=List.length_pos_of_mem ha;simp only[List.length_cons];omega
section
variable{σ:Type}[DecidableEq σ]
structure CA(S:Sys σ)(L bad:List (Cf σ)):Prop where
 nodup:bad.Nodup
 sub:∀x∈bad,x∈L
 no:∀x∈bad,¬Good S x
theorem CA.nil(S:Sys σ)(L:List (Cf σ)):CA S L []:=⟨by simp,by simp,by simp⟩
theorem CA.len{S:Sys σ}{L bad:List (Cf σ)}(h:CA S L bad):bad.length≤L.length:=TF h.nodup h.sub
theorem CA.add{S:Sys σ}{L bad:List (Cf σ)}{c:Cf σ}(h:CA S L bad)(hc:c∈L)(hn:c∉bad)(hg:¬Good S c):CA S L (bad ++ [c]):=by
 refine⟨?_,?_,?_⟩
 ·rw[List.nodup_append];refine⟨h.nodup,by simp,?_⟩;intro a ha b hb;simp at hb;rintro rfl;subst hb;exact hn ha
 ·intro x hx;rcases List.mem_append.1 hx with hx|hx
  ·exact h.sub x hx
  ·simp at hx;subst hx;exact hc
 ·intro x hx;rcases List.mem_append.1 hx with hx|hx
  ·exact h.no x hx
  ·simp at hx;subst hx;exact hg
end
end Ln
namespace Ln
open Go.Sx Go
theorem acZ(z:Cf St):List.drop 5 (eC z)=[]:=rfl
theorem LC(X:Kn)(i:Nat)(os:List Op)(c:Cf St)(j:Nat):(aJ X i os).step c j=if xN os j c.1=true then(X.take (cm i (os.getD j default)) (os.getD j default) c.2).map (fun s=>(j,(c.1+2^j,s)))else none:=rfl
theorem aia(s:St):AV.beq (.agg (eS s)) (.agg (eS s))=true:=beq_refl _ (by simp[eS,AV.lits,AV.gE,Gt,I])
variable{C:bK}{X:Kn}(S:Std C X)
def SpI(X:Kn)(i:Nat)(os:List Op)(cells:List AV)(c:Cf St)(bj:Key)(h:T ah)(nx:Key)(m:Nat)(aw:T AV)(h':T ah)(nx':Key):Prop:=∃(j:Nat) (c5:AV),m=os.length-j∧j≤os.length∧ae (K 0) aw=some (.ptr bj 0)∧ae (K 3) aw=some (.ptr nx 0)∧ae (K 6) aw=some (I j)∧ae (K 5) aw=some c5∧
 App c5 (ag eC (((aJ X i os).dh c j).map (·.2))) (((aJ X i os).dh c j).map (·.2)).length 5 h' nx' nx.succ∧ae bj h'=Vv cells∧ae nx h'=Vv (eC c)∧Ext h nx h' nx'∧nx.toNat<nx'.toNat
include S
theorem ahb{i:Nat}(hi:i=2){os:List Op}(qx:EK i os)(ho:os.length≤16){cO:AV}(hc:iB 10 eO cO os){s0:St}{c:Cf St}(hd:c.1<65536)(hs:gV i c.2){h:T ah}{nx bj:Key}(hb:ae bj h=Vv (wB X i cO s0))(By:bj.toNat<nx.toNat) :
  aH C jK [.ptr bj 0,.agg (eC c)] h nx (fun o h' nx'=>∃cR,o=.ret cR∧iB 5 eC cR (((aJ X i os).steps c).map (·.2))∧Ext h nx h' nx'):=by
 have rO:=S.r gj;have rT:=S.r gk;have rB:=S.r gZ;have s1:=kTSu nx;refine S.CU.call ?_;simp[zg];have ac:=(bA c.2.kids).1;simp[Ai,eC,ac];simp[Aj];simp[Ak];have ec:[I c.1,I c.2.k,I c.2.n,.str 0 0,aK c.2.kids]=eC c:=rfl;rw[ec];have e0:=E0 h nx (.cells (eC c) .fix);refine W.cM (n:=os.length) (SpI X i os (wB X i cO s0) c bj h nx) ⟨0,.nils,by simp,by omega,by simp,by simp,by simp,by simp,App.nil _,by rw[e0.g bj By];exact hb,by simp,e0,by omega⟩ ?_;rintro m dD h1 bF ⟨j,c5,rfl,hj,g0,g3,g6,g5,hA,bj1,bc1,e1,lt1⟩;refine W.of ?_;simp[Al];have wBl:(wB X i cO s0).length=9:=rfl;by_cases bG:j<os.length
 ·have sZ:(j:Int)<os.length:=by omega
  have BX:cO=.sl (ag eO os) os.length 10 .any:=by
   rcases hc with⟨_,rfl⟩|e
   ·simp at bG
   ·exact e
  subst BX;have af:∀n H,aN n (aK c.2.kids) H=(aK c.2.kids,H):=dn _;have hco:=Oo hi qx (xF bG);have hgd:=mQ bG;have dy:=fI (aJ X i os) c j;have Td:=LC X i os c j;rw[hgd]at Td;have next:∀(aW:T AV) (h2:T ah) (aU:Key) (c6:AV) (us:List (Cf St)),ae (K 0) aW=some (.ptr bj 0)→ae (K 3) aW=some (.ptr nx 0)→ae (K 6) aW=some (I j)→ae (K 5) aW=some c6→us=((aJ X i os).dh c (j+1)).map (·.2)→App c6 (ag eC us) us.length 5 h2 aU nx.succ→ae bj h2=Vv (wB X i (.sl (ag eO os) os.length 10 .any) s0)→ae nx h2=Vv (eC c)→Ext h nx h2 aU→nx.toNat<aU.toNat→
    lH C (aM (fun tm h' nx'=>∃m,m<os.length-j∧SpI X i os (wB X i (.sl (ag eO os) os.length 10 .any) s0) c bj h nx m tm h' nx') (aA 0 (aM (iH C (.seq (.ops lT) .ret) (dF [.tmp (K 4)] fun o h' nx'=>∃cR,o=.ret cR∧iB 5 eC cR (((aJ X i os).steps c).map (·.2))∧Ext h nx h' nx')) (dF [.tmp (K 4)] fun o h' nx'=>∃cR,o=.ret cR∧iB 5 eC cR (((aJ X i os).steps c).map (·.2))∧Ext h nx h' nx')))) ry aW h2 aU:=by
   intro aW h2 aU c6 us q0 q3 q6 q5 hus hA2 b2 bc2 e2 lt2;subst hus;simp[ry,q6];rw[aC (by omega) (by omega)];exact⟨os.length-(j+1),by omega,j+1,c6,rfl,by omega,by simp[q0],by simp[q3],by simp,by simp[q5],hA2,b2,bc2,e2,lt2⟩
  simp[lU,g0,g6,bj1,wB,sZ];simp[Am,g0,g3,g6,bc1,eC,rO];refine(WE S ho hc bG hd bj1 (by omega)).mono ?_;rintro o h2 aU ⟨rfl,e2⟩;have n2:=e2.n;have b2:ae bj h2=Vv (wB X i (.sl (ag eO os) os.length 10 .any) s0):=by rw[e2.g bj (by omega)];exact bj1
  have bc2:ae nx h2=Vv (eC c):=by rw[e2.g nx lt1];exact bc1
  have hA2:=hA.ext e2;have VJ:=e1.trans e2;cases ki:xN os j c.1 with
  |false=>rw[ki]at Td;simp;refine next _ _ _ c5 _ ?_ ?_ ?_ ?_ (by rw[dy,Td];simp) hA2 b2 bc2 VJ (by omega)<;>simp[g0,g3,g5,g6]
  |true=>
   rw[ki,if_pos rfl]at Td;simp;have s2:=kTSu aU;simp[An,g0,g3,g6,bc2,eC,rT,af];refine(ac8 S hc hco hs b2 (by omega)).mono ?_;rintro out h3 cF ⟨⟨u,rfl,hu⟩,e3⟩;have s3:=kTSu cF;have n3:=e3.n;simp[uU,lenS,PB];have e4:=E0 h3 cF (.cells (eS u) .fix);have e34:=e3.trans e4;have b4:ae bj (av cF (Vv (eS u)) h3)=Vv (wB X i (.sl (ag eO os) os.length 10 .any) s0):=by rw[e34.g bj (by omega)];exact b2
   have bc4:ae nx (av cF (Vv (eS u)) h3)=Vv (eC c):=by rw[e34.g nx (by omega)];exact bc2
   have bu4:ae cF (av cF (Vv (eS u)) h3)=Vv (eS u):=by simp
   have hA4:=hA2.ext e34;have e14:=VJ.trans e34;generalize av cF (Vv (eS u)) h3=h4 at *;cases ht:X.take (cm i os[j]) os[j] c.2 with
   |none=>rw[ht]at Td;simp;simp[rJ];refine next _ _ _ c5 _ ?_ ?_ ?_ ?_ (by rw[dy,Td];simp) hA4 b4 bc4 e14 (by omega)<;>simp[g0,g3,g5,g6]
   |some t=>
    rw[ht]at Td;have:=hu t ht;subst this;simp;simp[rJ];have hp:0<2^j∧2^j≤65536:=⟨Nat.two_pow_pos j,jL (by omega)⟩;simp[-appendTo,Ao,g0,g3,g5,g6,bc4,bu4,eC,lenS,td,rB];refine(ZU S (by omega)).mono ?_;rintro o h5 Gv ⟨rfl,rfl,rfl⟩;have hus:((aJ X i os).dh c (j+1)).map (·.2)=((aJ X i os).dh c j).map (·.2) ++ [(c.1+2^j,u)]:=by rw[dy,Td];simp
    generalize 2^j=p at hp hus ⊢;have hw:bP .i64 ((c.1:Int)+(p:Int))=(c.1:Int)+(p:Int):=aC (by omega) (by omega);have s5:=kTSu cF.succ;have s6:=kTSu cF.succ.succ;have e5:=E0 h5 cF.succ (.cells (eC (c.1+p,u)) .fix);have b5:ae bj (av cF.succ (Vv (eC (c.1+p,u))) h5)=Vv (wB X i (.sl (ag eO os) os.length 10 .any) s0):=by rw[e5.g bj (by omega)];exact b4
    have bc5:ae nx (av cF.succ (Vv (eC (c.1+p,u))) h5)=Vv (eC c):=by rw[e5.g nx (by omega)];exact bc4
    have aKx:((aJ X i os).dh c j).length≤j:=by have:=List.length_filterMap_le ((aJ X i os).step c) (List.range j);rw[List.length_range]at this;exact this
    obtain⟨c6,h6,xI,ha,hA6,n6,k6,_⟩:=(hA4.ext e5).IJ dE (by omega) (by rw[List.length_map];omega) (c.1+p,u);have hz:=zQ (c.1+p,u);have ec6:eC (c.1+p,u)=[I ((c.1:Int)+(p:Int)),I u.k,I u.n,.str 0 0,aK u.kids]:=rfl;have acu:=(bA u.kids).1;have afu:∀n H,aN n (aK u.kids) H=(aK u.kids,H):=dn _;rw[ec6]at ha b5 bc5 e5 k6;have q1:AV.beq (I c.1) (I c.1)=true:=beq_refl _ rfl;have q2:=aia u;simp[eS]at q2;simp[-appendTo,hw,eS,eC,g6,bc4,bu4,afu,ha,acu,q1,q2];refine next _ _ _ c6 _ ?_ ?_ ?_ ?_ hus.symm hA6 (by rw[k6 bj (by omega)];exact b5) (by rw[k6 nx (by omega)];exact bc5) ⟨by have:=e14.n;omega,fun b hb=>by rw[k6 b (by omega),e5.g b (by omega)];exact e14.g b hb⟩ (by omega)
    all_goals simp[g0,g3,g6]
 ·have vK:j=os.length:=by omega
  subst vK;rw[show((aJ X i os).dh c os.length)=(aJ X i os).steps c from Lx (aJ X i os) c]at hA;have fr:=hA.EN dE 9998;have fin:∀(aW:T AV),ae (K 5) aW=some c5→iH C (.seq (.ops lT) .ret) (dF [.tmp (K 4)] fun o h' nx'=>∃cR,o=.ret cR∧iB 5 eC cR (((aJ X i os).steps c).map (·.2))∧Ext h nx h' nx') aW h1 bF:=by intro aW q5;simp;simp[lT,q5];exact⟨fr.1,by omega,fun b hb=>by rw[fr.2 b (by omega)];exact e1.g b hb⟩
  simp only[fH,kj]at fin;rcases id hc with⟨OF,zB⟩|OF
  ·have:(os.length:Int)=0:=by rw[zB];rfl
   simp[lU,g0,g6,bj1,wB,OF,this];refine fin _ ?_;simp[g5]
  ·simp[lU,g0,g6,bj1,wB,OF];refine fin _ ?_;simp[g5]
end Ln
namespace Ln
open Go.Sx Go
theorem ahN{α:Type}[DecidableEq α]{l:List α}{x:α}{j:Nat}(hj:j<l.length)(h:x∉l.take j)(hx:l[j]≠x):x∉l.take (j+1):=by
 rw[Zz hj,List.mem_append,List.mem_singleton];rintro(q|q)
 ·exact h q
 ·exact hx q.symm
variable{C:bK}{X:Kn}(S:Std C X)
def HsI(l:List (Cf St))(x:Cf St)(c0:AV)(h:T ah)(nx:Key)(m:Nat)(aw:T AV)(h':T ah)(nx':Key):Prop:=∃j:Nat,m=l.length-j∧j≤l.length∧ae (K 0) aw=some c0∧ae (K 3) aw=some (.ptr nx 0)∧ae (K 5) aw=some (I j)∧ae nx h'=Vv (eC x)∧Ext h nx h' nx'∧nx.toNat<nx'.toNat∧x∉l.take j
include S
theorem acV{l:List (Cf St)}(hl:l.length≤10000)(hk:∀y∈l,y.2.kids.length≤3){x:Cf St}(hx:x.2.kids.length≤3){c0:AV}{h:T ah}{nx:Key}(hR:Rd 5 c0 (ag eC l) l.length h nx) :
  aH C lj [c0,.agg (eC x)] h nx (fun o h' nx'=>o=.ret (.bool (decide (x∈l)))∧Ext h nx h' nx'):=by
 have rS:=S.r js;have s1:=kTSu nx;have ac:=(bA x.2.kids).1;have ec:[I x.1,I x.2.k,I x.2.n,.str 0 0,aK x.2.kids]=eC x:=rfl;have e0:=E0 h nx (.cells (eC x) .fix);refine S.MF.call ?_;simp[Ly];simp[J4,zP,mh];simp[J5];refine W.cM (n:=l.length) (HsI l x c0 h nx) ⟨0,by simp,by omega,by simp,by simp,by simp,by simp,e0,by omega,by simp⟩ ?_;rintro m dD h1 bF ⟨j,rfl,hj,g0,g3,g5,bx,e1,lt1,pF⟩;refine W.of ?_;simp[J6];have hR1:=hR.ext e1;by_cases bG:j<l.length
 ·have sZ:(j:Int)<l.length:=by omega
  have hr:=dE.rows l;have tx:5≤l.length*5-j*5:=by omega
  have ecj:=dE.at bG;have hkj:=hk _ (Mg bG);have hsm:=V1 S hkj hx h1 bF;have step:x∉l.take j→l[j]≠x→x∉l.take (j+1):=ahN bG;have yes:l[j]=x→x∈l:=fun e=>e ▸ Mg bG;rcases hR1 with⟨e,zB,ZM⟩|⟨f,e⟩|⟨b,k,e,hb,By,_⟩
  ·omega
  ·have Q6:=g0;rw[e]at Q6;simp[lP,Q6,g5,sZ];simp[BU,Q6,g3,g5,bG,hr,tx,ecj,bx,wv,mh,rS,zQ];refine hsm.mono ?_;rintro o h2 aU ⟨rfl,e2⟩;have n2:=e2.n;have bx2:ae nx h2=Vv (eC x):=by rw[e2.g nx lt1];exact bx
   by_cases hjx:l[j]=x
   ·simp[hjx];simp[BV];exact⟨yes hjx,e1.trans e2⟩
   ·simp[hjx];simp[BW,g5];rw[aC (by omega) (by omega)];exact⟨l.length-(j+1),by omega,j+1,rfl,by omega,by simp[g0,e],by simp[g3],by simp,bx2,e1.trans e2,by omega,step pF hjx⟩
  ·have Q6:=g0;rw[e]at Q6;simp[lP,Q6,g5,sZ];simp[BU,Q6,g3,g5,bG,hr,tx,ecj,bx,wv,mh,rS,zQ,hb];refine hsm.mono ?_;rintro o h2 aU ⟨rfl,e2⟩;have n2:=e2.n;have bx2:ae nx h2=Vv (eC x):=by rw[e2.g nx lt1];exact bx
   by_cases hjx:l[j]=x
   ·simp[hjx];simp[BV];exact⟨yes hjx,e1.trans e2⟩
   ·simp[hjx];simp[BW,g5];rw[aC (by omega) (by omega)];exact⟨l.length-(j+1),by omega,j+1,rfl,by omega,by simp[g0,e],by simp[g3],by simp,bx2,e1.trans e2,by omega,step pF hjx⟩
 ·have vK:j=l.length:=by omega
  subst vK;rw[List.take_length]at pF;rcases hR1 with⟨e,zB,ZM⟩|⟨f,e⟩|⟨b,k,e,_⟩
  all_goals
   have Q6:=g0;rw[e]at Q6
  ·have:(l.length:Int)=0:=by omega
   simp[lP,Q6,g5,this];simp[vA];exact⟨pF,e1⟩
  ·simp[lP,Q6,g5];simp[vA];exact⟨pF,e1⟩
  ·simp[lP,Q6,g5];simp[vA];exact⟨pF,e1⟩
end Ln
namespace Ln
open Go.Sx Go
theorem _root_.Go.Sx.iB.rd{α:Type}{z:Nat}{enc:α→List AV}{c:AV}{l:List α}(g:iB z enc c l)(h:T ah)(nx:Key):Rd z c (ag enc l) l.length h nx:=by
 rcases g with⟨e,rfl⟩|e
 ·exact .inl ⟨e,rfl,rfl⟩
 ·exact .inr (.inl ⟨_,e⟩)
theorem Xl(l:List (Cf St))(c:Cf St)(r:List (Cf St)):dJ l (c ::r)=if (dp l c).length>1024 then none else dJ (dp l c) r:=rfl
theorem Pv(z:Cf St)(H:T ah):bC (aN 9999) (eC z) H=(eC z,H):=cn (dE.vV _)
variable{C:bK}{X:Kn}(S:Std C X)
def RiI(l r:List (Cf St))(i:Nat)(c6:AV)(bj:Key)(ob:Option Key)(h:T ah)(nx:Key)(m:Nat)(aw:T AV)(h':T ah)(nx':Key):Prop:=∃(k:Nat) (l':List (Cf St)) (c4:AV) (kK:Option Key),m=r.length-k∧k≤r.length∧ae (K 0) aw=some (.ptr bj 0)∧ae (K 4) aw=some c4∧ae (K 5) aw=some (I i)∧ae (K 6) aw=some c6∧ae (K 7) aw=some (I k)∧
 Gr 5 c4 (ag eC l') l'.length h' nx' kK∧l'.length≤1024∧dJ l r=dJ l' (r.drop k)∧(∀x∈l',x.2.kids.length≤3)∧qw h nx ob h' nx' kK
include S
theorem ahc{l r:List (Cf St)}(hr:∀x∈r,x.2.kids.length≤3)(T8:r.length≤16){i:Nat}{c6:AV}(hc6:iB 5 eC c6 r){bj:Key}{ob:Option Key}{h:T ah}{nx:Key}{Q:cH}{m:Nat}{tm:T AV}{h1:T ah}{bF:Key}(A:RiI l r i c6 bj ob h nx m tm h1 bF)
  (DU:∀aw h' nx' kK,ae (K 2) aw=some .nils→ae (K 3) aw=some (.bool false)→dJ l r=none→qw h nx ob h' nx' kK→Q .ret aw h' nx')
  (fg:∀aw h' nx' (l':List (Cf St)) c4 kK,ae (K 0) aw=some (.ptr bj 0)→ae (K 4) aw=some c4→ae (K 5) aw=some (I i)→Gr 5 c4 (ag eC l') l'.length h' nx' kK→dJ l r=some l'→(∀x∈l',x.2.kids.length≤3)→qw h nx ob h' nx' kK→Q .norm aw h' nx') :
  W C (.loop sj) (aA 2 Q) tm h1 bF:=by
 have rH:C.raw lj=true:=S.rw (by decide);refine W.cM (RiI l r i c6 bj ob h nx) A ?_;rintro m dD h2 aU ⟨k,l',c4,kK,rfl,hk,g0,g4,g5,g6,g7,G,hl,my,BI,F⟩;refine W.of ?_;simp[sj];have hR6:Rd 5 c6 (ag eC r) r.length h2 aU:=hc6.rd _ _;by_cases Mn:k<r.length
 ·have hki:(k:Int)<r.length:=by omega
  have hx:=hr _ (Mg Mn);rw[zqt Mn,Xl]at my;simp[↓hR6.ln,sm,g6,g7,hki];simp[↓hR6.ix dE Mn,AD,g4,g6,g7,rH];refine(acV S (by omega) BI hx G.rd).mono ?_;rintro o h3 cF ⟨rfl,e3⟩;generalize hxe:r[k]=x at *;have F3:=F.trans (qw.qD e3 kK);have G3:=G.ext e3;have next:∀(aW:T AV) (h4:T ah) (jw:Key) (c5:AV) (o4:Option Key),ae (K 0) aW=some (.ptr bj 0)→ae (K 4) aW=some c5→ae (K 5) aW=some (I i)→ae (K 6) aW=some c6→ae (K 7) aW=some (I k)→Gr 5 c5 (ag eC (dp l' x)) (dp l' x).length h4 jw o4→qw h nx ob h4 jw o4→
    lH C (aM (iH C (.cond (.t (K 52)) (.seq (.ops pW) .ret) .skip) (aA 3 (aM (iH C (.ops kG) (aM (fun tm h' nx'=>∃m,m<r.length-k∧RiI l r i c6 bj ob h nx m tm h' nx') (aA 2 Q))) (aM (fun tm h' nx'=>∃m,m<r.length-k∧RiI l r i c6 bj ob h nx m tm h' nx') (aA 2 Q))))) (aA 3 (aM (iH C (.ops kG) (aM (fun tm h' nx'=>∃m,m<r.length-k∧RiI l r i c6 bj ob h nx m tm h' nx') (aA 2 Q))) (aM (fun tm h' nx'=>∃m,m<r.length-k∧RiI l r i c6 bj ob h nx m tm h' nx') (aA 2 Q))))) l7 aW h4 jw:=by
   intro aW h4 jw c5 o4 q0 q4 q5 q6 q7 G4 F4;by_cases hlen:(dp l' x).length>1024
   ·have hli:(1024:Int)<(dp l' x).length:=by omega
    rw[if_pos hlen]at my;simp[↓G4.rd.ln,l7,q4,hli];simp[pW];refine DU _ _ _ o4 ?_ ?_ my F4<;>simp
   ·have hli:¬(1024:Int)<(dp l' x).length:=by omega
    rw[if_neg hlen]at my;simp[↓G4.rd.ln,l7,q4,hli];simp[kG,q7];rw[aC (by omega) (by omega)];exact⟨r.length-(k+1),by omega,k+1,dp l' x,c5,o4,rfl,by omega,by simp[q0],by simp[q4],by simp[q5],by simp[q6],by simp,G4,by omega,my,V8 BI hx,F4⟩
  by_cases hxm:x∈l'
  ·have ea:dp l' x=l':=by unfold dp;rw[if_pos hxm]
   rw[ea]at next
   simp[hxm];refine next _ _ _ c4 kK ?_ ?_ ?_ ?_ ?_ G3 F3<;>simp[g0,g4,g5,g6,g7]
  ·have ea:dp l' x=l' ++ [x]:=by unfold dp;rw[if_neg hxm]
   rw[ea]at next
   have s3:=kTSu cF;have e4:=E0 h3 cF (.cells (eC x) .fix);obtain⟨c5,h5,Gv,o5,ha,G5,F5⟩:=(G3.ext e4).IJ dE (by decide) (by decide) (by omega) x;have F45:=(F3.trans (qw.qD e4 kK)).trans F5;simp[hxm];simp[-appendTo,↓(hc6.rd h3 cF).ix dE Mn,hxe,AE,g4,g6,g7,ha,zP,mh,wv,acZ,Pv];refine next _ _ _ c5 o5 ?_ ?_ ?_ ?_ ?_ G5 F45<;>simp[g0,g4,g5,g6,g7]
 ·have hke:k=r.length:=by omega
  subst hke;rw[List.drop_length]at my;have my:dJ l r=some l':=my;simp[↓hR6.ln,sm,g6,g7];refine fg _ _ _ l' c4 kK ?_ ?_ ?_ G my BI F<;>simp[g0,g4,g5]
end Ln
namespace Ln
open Go.Sx Go
theorem EJ{i:Nat}{s:St}(h:gV i s):s.kids.length≤3:=Nat.le_trans h (Zx i)
variable{C:bK}{X:Kn}(S:Std C X)
def RoI(X:Kn)(mi:Nat)(os:List Op)(cells:List AV)(c0:Cf St)(bj:Key)(h:T ah)(nx:Key)(m:Nat)(aw:T AV)(h':T ah)(nx':Key):Prop:=∃(i:Nat) (l:List (Cf St)) (c4:AV) (kK:Option Key),m=1024-i∧i≤l.length∧ae (K 0) aw=some (.ptr bj 0)∧ae (K 4) aw=some c4∧ae (K 5) aw=some (I i)∧
 Gr 5 c4 (ag eC l) l.length h' nx' kK∧Kept (aJ X mi os) i l∧l[0]?=some c0∧On (aJ X mi os) (1025-i) i l=On (aJ X mi os) 1025 0 [c0]∧(∀x∈l,gV mi x.2)∧qw h nx none h' nx' kK
include S
theorem Li{i:Nat}(hi:i=2){os:List Op}(qx:EK i os){c:Cf St}(hs:gV i c.2):∀x∈(aJ X i os).steps c,gV i x.2.2:=by intro x hx;obtain⟨k,c'⟩:=x;obtain⟨h1,_,_,h4⟩:=Lj hx;have hk:k<os.length:=h1;have h4:X.take (cm i (os.getD k default)) (os.getD k default) c.2=some c'.2:=h4;rw[mQ hk]at h4;have hco:=Oo hi qx (xF hk);have:=S.ok.take (cm i os[k]) os[k] c.2 c'.2 hco.on (by rw[hco.x8];exact hs) hco.ar h4;rw[hco.x8]at this;exact this
theorem aet{i:Nat}(hi:i=2){os:List Op}(qx:EK i os)(ho:os.length≤16){cO:AV}(hc:iB 10 eO cO os){s0:St}{c0:Cf St}{h:T ah}{nx bj:Key}(hb:ae bj h=Vv (wB X i cO s0))(By:bj.toNat<nx.toNat){Q:cH}{m:Nat}{tm:T AV}{h1:T ah}{bF:Key}(A:RoI X i os (wB X i cO s0) c0 bj h nx m tm h1 bF)
  (DU:∀aw h' nx' kK,ae (K 2) aw=some .nils→ae (K 3) aw=some (.bool false)→On (aJ X i os) 1025 0 [c0]=none→qw h nx none h' nx' kK→Q .ret aw h' nx')
  (fg:∀aw h' nx' (l:List (Cf St)) c4 kK,ae (K 4) aw=some c4→Gr 5 c4 (ag eC l) l.length h' nx' kK→On (aJ X i os) 1025 0 [c0]=some l→Kept (aJ X i os) l.length l→l[0]?=some c0→(∀x∈l,gV i x.2)→qw h nx none h' nx' kK→Q .norm aw h' nx') :
  W C (.loop rk) (aA 0 Q) tm h1 bF:=by
 have rT:=S.r jK;have hSo:=Gu X i os;have hn:(aJ X i os).n≤16:=ho;have h16:2^(aJ X i os).n≤65536:=jL hn;refine W.cM (RoI X i os (wB X i cO s0) c0 bj h nx) A ?_;rintro m dD h2 aU ⟨j,l,c4,kK,rfl,hj,g0,g4,g5,G,kp,h0,nC,BI,F⟩;refine W.of ?_;simp[rk];have hR:=G.rd;have hl:=kp.len;have nF:=F.n;by_cases bG:j<l.length
 ·have sZ:(j:Int)<l.length:=by omega
  have hcj:l[j]?=some l[j]:=xF bG;have Hd:=Mg bG;have bY:=kp.lt _ Hd;have VK:=BI _ Hd;rw[show 1025-j=(1024-j)+1 by omega,V7 hcj]at nC;simp[↓hR.ln,rl,g4,g5,sZ];simp[↓hR.ix dE bG,zV,g0,g4,g5,rT,zQ];have b2:ae bj h2=Vv (wB X i cO s0):=by rw[F.g bj By (by simp)];exact hb
  refine(ahb S hi qx ho hc (by omega) VK b2 (by omega)).mono ?_;rintro o h3 cF ⟨cR,rfl,hcR,e3⟩;simp;simp[zX];have dy:=Li S hi qx VK;have hrk:∀x∈((aJ X i os).steps l[j]).map (·.2),gV i x.2:=by intro x hx;obtain⟨y,hy,rfl⟩:=Rh.1 hx;exact dy y hy
  have T8:(((aJ X i os).steps l[j]).map (·.2)).length≤16:=by rw[List.length_map];have h1:=List.length_filterMap_le ((aJ X i os).step l[j]) (List.range (aJ X i os).n);rw[List.length_range]at h1;exact Nat.le_trans h1 hn
  have G3:=G.ext e3;have F3:=F.trans (qw.qD e3 kK);have knx:=fun l' h=>kp.next hSo hcj (l':=l') h;have r0:dJ l (((aJ X i os).steps l[j]).map (·.2))=dJ l ((((aJ X i os).steps l[j]).map (·.2)).drop 0):=by simp
  generalize hr:((aJ X i os).steps l[j]).map (·.2)=r at *;refine ahc S (l:=l) (r:=r) (fun x hx=>EJ (hrk x hx)) T8 (i:=j) hcR (bj:=bj) (ob:=kK) (h:=h3) (nx:=cF) (m:=r.length) ⟨0,l,c4,kK,by simp,by omega,by simp[g0],by simp[g4],by simp[g5],by simp,by simp,G3,hl,r0,fun x hx=>EJ (BI x hx),qw.refl _ _ _⟩ ?_ ?_
  ·intro aw h' nx' o' q2 q3 hn1 F4;rw[hn1]at nC;simp;exact DU _ _ _ o' q2 q3 nC.symm (F3.trans F4)
  ·intro aw h' nx' l' c5 o5 q0 q4 q5 G5 my hk5 F5;rw[my]at nC;obtain⟨⟨t,et⟩,_,_,_,Zo⟩:=oh my;simp;simp[ya,q5];rw[aC (by omega) (by omega)];refine⟨1024-(j+1),by omega,j+1,l',c5,o5,rfl,by rw[et,Ho];omega,by simp[q0],by simp[q4],by simp,G5,knx l' my,by rw[et,List.getElem?_append_left (by omega)];exact h0,?_,?_,F3.trans F5⟩
   ·rw[show 1025-(j+1)=1024-j by omega];exact nC
   ·intro x hx;rcases Zo x hx with hx|hx
    ·exact BI x hx
    ·exact hrk x hx
 ·have vK:j=l.length:=by omega
  subst vK;rw[acF (by omega)]at nC;simp[↓hR.ln,rl,g4,g5];refine fg _ _ _ l c4 kK ?_ G nC.symm kp h0 BI F;simp[g4]
end Ln
namespace Go.Sx
open Go
section
variable{z:Nat}{c:AV}{α:Type}{enc:α→List AV}{us:List α}{h:T ah}{nx:Key}
theorem Rd.ixS(F:Flat z enc)(g:Rd z c (ag enc us) us.length h nx){i:Nat}(hi:i<us.length){C:bK}{Q:cH}{ds:List Key}{aq:List (Nat×Key×ah)}{L:List aL}{tm:T AV}{n2 k1 k2 d1 d2:Key}{a b:Nat}{gu:Option (Key×Bool)}(h1:ae k1 tm=some c)(h2:ae k2 tm=some (I i))
  (hg:cq gu tm=some true) (hg2:cq gu (av d1 (some (GO z i c)) tm)=some true) :
  wpS C Q ⟨ds,[]⟩ (.L a ⟨some d1,.indexL z (.t k1) (.t k2),gu⟩ ::.L b ⟨some d2,.load true z (.t d1),gu⟩ ::L) aq tm h n2=wpS C Q ⟨ds,[]⟩ L aq (av d2 (some (.agg (enc us[i]))) (av d1 (some (GO z i c)) tm)) h n2:=by
 have hr:=F.rows us;have he:=F.at hi;have hl:=F.len us[i];have tx:z≤us.length*z-i*z:=by rw[←Nat.sub_mul];exact Nat.le_mul_of_pos_left z (by omega)
 have tk:List.take z (enc us[i])=enc us[i]:=OV (by omega);rcases g with⟨_,_,e⟩|⟨f,rfl⟩|⟨b,k,rfl,hb,_,_⟩
 ·omega
 ·simp only[GO]at hg2;simp[h1,h2,hi,hr,tx,he,hl,tk,GO,hg];rw[he]at hg2;rw[hg2];simp[hl,tk]
 ·simp only[GO]at hg2;simp[h1,h2,hi,hr,tx,he,hl,tk,GO,hb,hg];rw[Nat.zero_add]at hg2;rw[hg2];simp[hb,hr,tx,he]
def loV(z k:Nat):AV→AV
 |.slice b off _ _=>.slice b off k z
 |.sl cs len _ fl=>.sl (List.take (k*z) cs) k z (bif decide (k=len)then fl else .any)
 |c=>c
def hiV(z k:Nat):AV→AV
 |.slice b off len _=>.slice b (off+k*z) (len-k) z
 |.sl cs len _ fl=>.sl (List.take ((len-k)*z) (List.drop (k*z) cs)) (len-k) z fl
 |c=>c
theorem Rd.avH(F:Flat z enc)(g:Rd z c (ag enc us) us.length h nx){k:Nat}(hk:k≤us.length){C:bK}{Q:cH}{L:List ay}{tm:T AV}{n2 k1 k2 k3 d1 d2:Key}{s c':AV}{h':T ah}{n':Key}(ha:appendTo z s (ag enc (us.take k)) k h n2=.val c' h' n')
  (h1:ae k1 tm=some c) (h2:ae k2 tm=some (I k)) (h3:ae k3 (av d1 (some (loV z k c)) tm)=some s) :
  lH C Q (⟨some d1,.sliceL z (.t k1) none (some (.t k2)),none⟩ ::⟨some d2,.append z (.t k3) (.t d1),none⟩ ::L) tm h n2=lH C Q L (av d2 (some c') (av d1 (some (loV z k c)) tm)) h' n':=by
 have hr:=F.rows us;have Hr:=F.take us k;have hkz:k*z≤us.length*z:=Nat.mul_le_mul_right z hk;have hz:bC (aN 9999) (ag enc (us.take k)) h=(ag enc (us.take k),h):=cn (F.Er _);rcases g with⟨rfl,e1,e2⟩|⟨f,rfl⟩|⟨b,kk,rfl,hb,_,_⟩
 ·have e0:us=[]:=SK e2;subst e0;have:k=0:=by simpa using hk
  subst this;simp only[loV]at h3 ⊢;simp[-appendTo]at ha;simp[-appendTo,h1,h2,h3,ha]
 ·simp only[loV]at h3 ⊢;rw[Hr]at h3 ⊢;simp[-appendTo,h1,h2,hk,hr,hkz,Hr,h3,ha]
 ·simp only[loV]at h3 ⊢;simp[-appendTo,h1,h2,hk,hb,hr,hkz,Hr,h3,hz,ha]
theorem Rd.avI(F:Flat z enc)(g:Rd z c (ag enc us) us.length h nx){k:Nat}(hk:k≤us.length){C:bK}{Q:cH}{L:List ay}{tm:T AV}{n2 k1 k2 k3 d1 d2:Key}{s c':AV}{h':T ah}{n':Key}(ha:appendTo z s (ag enc (us.drop k)) (us.length-k) h n2=.val c' h' n')
  (h1:ae k1 tm=some c) (h2:ae k2 tm=some (I k)) (h3:ae k3 (av d1 (some (hiV z k c)) tm)=some s) :
  lH C Q (⟨some d1,.sliceL z (.t k1) (some (.t k2)) none,none⟩ ::⟨some d2,.append z (.t k3) (.t d1),none⟩ ::L) tm h n2=lH C Q L (av d2 (some c') (av d1 (some (hiV z k c)) tm)) h' n':=by
 have hr:=F.rows us;have hdr:=F.drop us k;have hrd:=F.rows (us.drop k);rw[List.length_drop]at hrd;have hkz:k*z≤us.length*z:=Nat.mul_le_mul_right z hk;have ans:(us.length-k)*z=us.length*z-k*z:=Nat.sub_mul _ _ _;have Hr:List.take ((us.length-k)*z) (ag enc (us.drop k))=ag enc (us.drop k):=OV (by omega);have hz:bC (aN 9999) (ag enc (us.drop k)) h=(ag enc (us.drop k),h):=cn (F.Er _);rcases g with⟨rfl,e1,e2⟩|⟨f,rfl⟩|⟨b,kk,rfl,hb,_,_⟩
 ·have e0:us=[]:=SK e2;subst e0;have:k=0:=by simpa using hk
  subst this;simp only[hiV]at h3 ⊢;simp[-appendTo]at ha;simp[-appendTo,h1,h2,h3,ha]
 ·simp only[hiV]at h3 ⊢;rw[hdr,Hr]at h3 ⊢;have bY:¬us.length<k:=by omega
  simp[-appendTo,h1,h2,hk,hr,hrd,hdr,Hr,h3,ha]
 ·simp only[hiV]at h3 ⊢;rw[Nat.zero_add]at h3 ⊢;simp[-appendTo,h1,h2,hk,hb,hr,hrd,hdr,Hr,h3,hz,ha]
end
theorem Ww{z k:Nat}{new:List AV}{h:T ah}{nx:Key}(hn:new.length=k*z)(hk:k≤1048576):∃c' h' nx' kK,appendTo z .nils new k h nx=.val c' h' nx'∧Gr z c' new k h' nx' kK∧qw h nx none h' nx' kK:=by
 have s1:=kTSu nx;by_cases h0:k=0
 ·subst h0;have:new=[]:=SK (by omega);subst this;exact⟨.nils,h,nx,none,by simp,Gr.nil _ _ _,qw.refl _ _ _⟩
 ·exact⟨.slice nx 0 k z,av nx (some (.cells new .part)) h,nx.succ,some nx,by simp[h0,hk],.inr (.inl ⟨nx,.part,rfl,rfl,by simp,by omega,hn,.inl rfl⟩),by omega,fun b hb _=>az hb,.inr ⟨nx,rfl,fa _⟩⟩
theorem Gr.add0{z:Nat}{c:AV}{l:List AV}{len:Nat}{h:T ah}{nx:Key}{ob:Option Key}(g:Gr z c l len h nx ob)(hl:len≤1048576):∃h',appendTo z c [] 0 h nx=.val c h' nx∧∀b:Key,ae b h'=ae b h:=by
 rcases g with⟨rfl,rfl,rfl,rfl⟩|⟨b,k,rfl,rfl,h2,h3,h4,hk⟩|⟨t,rfl,rfl,h2,h3⟩
 ·exact⟨h,by simp,fun _=>rfl⟩
 ·rcases hk with rfl|rfl
  ·exact⟨h,by simp[h2,hl],fun _=>rfl⟩
  ·refine⟨av b (Vv l) h,by simp[h2,hl,h4],fun x=>?_⟩;by_cases e:x=b
   ·subst e;simp[h2]
   ·rw[aR _ _ _ _ e]
 ·exact⟨h,by simp,fun _=>rfl⟩
theorem Gr.aqo{z m:Nat}{c:AV}{l new:List AV}{len:Nat}{h:T ah}{nx:Key}{ob:Option Key}(g:Gr z c l len h nx ob)(hw:Cx z=false)(hz:0<z)(hs:∀x∈l,OQ x)(hn:new.length=m*z)(hl:len+m≤1048576)(hc:new.all AV.aP=true) :
  ∃c' h' nx' kK,appendTo z c new m h nx=.val c' h' nx'∧Gr z c' (l++new) (len+m) h' nx' kK∧qw h nx ob h' nx' kK:=by
 by_cases hm:m=0
 ·subst hm;have:new=[]:=SK (by omega);subst this;obtain⟨h',e,hk⟩:=g.add0 (by omega);exact⟨c,h',nx,ob,e,by rw[List.append_nil];exact g.cy (fa _) (fun b _=>hk b),fa _,fun b _ _=>hk b,.inl rfl⟩
 ·exact g.add hw hz (by omega) hs hn hl hc
end Go.Sx
namespace Ln
open Go.Sx Go
variable{C:bK}{X:Kn}(S:Std C X)
def LtI(out:List (Cf St))(x:Cf St)(j:Nat)(c4 c8:AV)(h:T ah)(nx:Key)(m:Nat)(aw:T AV)(h':T ah)(nx':Key):Prop:=∃k:Nat,m=k∧k≤out.length∧ae (K 4) aw=some c4∧ae (K 8) aw=some c8∧ae (K 9) aw=some (I j)∧ae (K 10) aw=some (I k)∧Ext h nx h' nx'∧∀q (hq:q<out.length),k≤q→J8 x out[q]
include S
theorem aeL{l out:List (Cf St)}(ho:out.length≤1024)(BI:∀y∈out,y.2.kids.length≤3){j:Nat}(hj:j<l.length)(hx:l[j].2.kids.length≤3){c4 c8:AV}{h:T ah}{nx:Key}(R4:Rd 5 c4 (ag eC l) l.length h nx)(R8:Rd 5 c8 (ag eC out) out.length h nx){Q:cH}{m:Nat}{tm:T AV}{h1:T ah}{bF:Key}(A:LtI out l[j] j c4 c8 h nx m tm h1 bF)
  (fg:∀aw h' nx' (k:Nat),k≤out.length→ae (K 4) aw=some c4→ae (K 8) aw=some c8→ae (K 9) aw=some (I j)→ae (K 10) aw=some (I k)→Ext h nx h' nx'→(∀q (hq:q<out.length),k≤q→J8 l[j] out[q])→(k=0∨∃hq:k-1<out.length,¬J8 l[j] out[k-1])→Q .norm aw h' nx') :
  W C (.loop sH) (aA 6 Q) tm h1 bF:=by
 have rL:=S.r qd;refine W.cM (LtI out l[j] j c4 c8 h nx) A ?_;rintro m dD h2 aU ⟨k,rfl,hk,g4,g8,g9,g10,e2,bY⟩;refine W.of ?_;simp[sH];cases m with
 |zero=>simp[qu,g10];refine fg _ _ _ 0 (by omega) ?_ ?_ ?_ ?_ e2 bY (.inl rfl)<;>simp[g4,g8,g9,g10]
 |succ k=>
  have Mn:k<out.length:=by omega
  have Lw:(0:Int)<(k:Int)+1:=by omega
  have hw:bP .i64 (k:Int)=k:=aC (by omega) (by omega);have R4':=R4.ext e2;have R8':=R8.ext e2;have hl:=anM S hx (BI _ (Mg Mn)) h2 aU;simp[↓R4'.ixS dE hj,↓R8'.ixS dE Mn,qu,g4,g8,g9,g10,Lw,hw,rL,zQ];refine hl.mono ?_;rintro o h3 cF ⟨⟨v,rfl,hv⟩,e3⟩;cases v with
  |false=>
   simp;refine fg _ _ _ (k+1) hk ?_ ?_ ?_ ?_ (e2.trans e3) bY (.inr ⟨by omega,fun q=>?_⟩)
   ·simp[g4]
   ·simp[g8]
   ·simp[g9]
   ·simp[g10]
   ·have:=hv.2 q;cases this
  |true=>
   simp;simp[yU,g10,hw];refine⟨k,by omega,k,rfl,by omega,by simp[g4],by simp[g8],by simp[g9],by simp,e2.trans e3,fun q hq hkq=>?_⟩;by_cases e:q=k
   ·subst e;exact hv.1 rfl
   ·exact bY q hq (by omega)
end Ln
namespace Ln
open Go.Sx Go
theorem _root_.Go.Sx.qw.cut{h h' h2:T ah}{nx nx' n2:Key}{o8 o6:Option Key}(a:qw h nx none h' nx' o8)(b:qw h' nx' none h2 n2 o6):qw h nx none h2 n2 o6:=by
 have n1:=a.n;refine⟨Nat.le_trans a.n b.n,fun x hx _=>?_,?_⟩
 ·rw[b.g x (by omega) (by simp)];exact a.g x hx (by simp)
 ·rcases b.o with e|⟨y,e,hy⟩
  ·exact .inl e
  ·exact .inr ⟨y,e,by omega⟩
theorem _root_.Go.Sx.Rd.frm{z:Nat}{c:AV}{l:List AV}{len:Nat}{h h':T ah}{nx nx':Key}{ob:Option Key}(g:Rd z c l len h nx)(e:qw h nx none h' nx' ob):Rd z c l len h' nx':=
 g.ext ⟨e.n,fun b hb=>e.g b hb (by simp)⟩
theorem _root_.Go.Sx.Gr.EN{z:Nat}{c:AV}{α:Type}{enc:α→List AV}(F:Flat z enc){us:List α}{h:T ah}{nx:Key}{ob:Option Key}(g:Gr z c (ag enc us) us.length h nx ob)(n:Nat):iB z enc (aN (n+1) c h).1 us∧∀b:Key,ob≠some b→ae b (aN (n+1) c h).2=ae b h:=by
 rcases g with⟨rfl,e1,e2,_⟩|⟨b,k,rfl,rfl,hb,_,hl,hk⟩|⟨t,rfl,rfl,_⟩
 ·exact⟨.inl ⟨rfl,SK e2⟩,fun _ _=>rfl⟩
 ·rcases hk with rfl|rfl
  ·rw[Ep hb hl (F.Er us)];exact⟨.inr rfl,fun x hx=>aR _ _ _ _ (fun e=>hx (by rw[e]))⟩
  ·rw[BN hb hl (F.Er us)];exact⟨.inr rfl,fun x hx=>aR _ _ _ _ (fun e=>hx (by rw[e]))⟩
 ·exact⟨.inr rfl,fun _ _=>rfl⟩
theorem RC{α:Type}{l:List α}{j:Nat}(hj:j<l.length)(x:α):x∈l.take (j+1)↔x=l[j]∨x∈l.take j:=by rw[Zz hj,List.mem_append,List.mem_singleton];exact or_comm
variable{C:bK}{X:Kn}(S:Std C X)
def SoI(l:List (Cf St))(c4:AV)(h:T ah)(nx:Key)(m:Nat)(aw:T AV)(h':T ah)(nx':Key):Prop:=∃(j:Nat) (out:List (Cf St)) (c8:AV) (o8:Option Key),m=l.length-j∧j≤l.length∧ae (K 4) aw=some c4∧ae (K 8) aw=some c8∧ae (K 9) aw=some (I j)∧Gr 5 c8 (ag eC out) out.length h' nx' o8∧out.length=j∧out.Pairwise J8∧(∀x,x∈out↔x∈l.take j)∧qw h nx none h' nx' o8
include S
theorem aeK{l:List (Cf St)}(hl:l.length≤1024)(hn:l.Nodup)(BI:∀y∈l,y.2.kids.length≤3){c4:AV}{h:T ah}{nx:Key}(R4:Rd 5 c4 (ag eC l) l.length h nx){Q:cH}{m:Nat}{tm:T AV}{h1:T ah}{bF:Key}(A:SoI l c4 h nx m tm h1 bF)
  (fg:∀aw h' nx' (out:List (Cf St)) c8 o8,ae (K 8) aw=some c8→Gr 5 c8 (ag eC out) out.length h' nx' o8→out.Pairwise J8→(∀x,x∈out↔x∈l)→qw h nx none h' nx' o8→Q .norm aw h' nx') :
  W C (.loop ru) (aA 4 Q) tm h1 bF:=by
 refine W.cM (SoI l c4 h nx) A ?_;rintro m dD h2 aU ⟨j,out,c8,o8,rfl,hj,g4,g8,g9,G8,hol,hpw,nR,F2⟩;refine W.of ?_;simp[ru];have R4':=R4.frm F2;by_cases bG:j<l.length
 ·have sZ:(j:Int)<l.length:=by omega
  have ZO:=BI _ (Mg bG);have aAf:∀y∈out,y.2.kids.length≤3:=fun y hy=>BI y (List.mem_of_mem_take ((nR y).1 hy));simp[↓R4'.ln,pG,g4,g9,sZ];simp[↓G8.rd.ln,yi,g8];refine aeL S (l:=l) (out:=out) (by omega) aAf bG ZO R4' G8.rd (m:=out.length) ⟨out.length,rfl,fa _,by simp[g4],by simp[g8],by simp[g9],by simp,Ext.refl _ _,fun q hq hle=>by omega⟩ ?_;intro aw h3 cF k hk q4 q8 q9 q10 e3 bY Rg;have hxo:l[j]∉out:=by rw[nR];intro hc;obtain⟨i,hi,e⟩:=List.getElem_of_mem hc;rw[List.getElem_take]at e;rw[V9]at hi;have:=(List.getElem_inj hn).1 e;omega
  have aAg:=aqn hk hpw hxo bY Rg;have avF:∀x,x∈out.take k++l[j] ::out.drop k↔x∈l.take (j+1):=fun x=>by rw[alY,RC bG,nR]
  have aAh:=R4'.ext e3;have G83:=G8.ext e3;have F3:=F2.trans (qw.qD e3 o8);have hr8:=dE.rows (out.take k);rw[V9,Nat.min_eq_left hk]at hr8;obtain⟨c11,h4,jw,o11,ha1,G11,F4⟩:=Ww (h:=h3) (nx:=cF) hr8 (by omega);have hlk:(out.take k).length=k:=by rw[V9,Nat.min_eq_left hk]
  have s4:=kTSu jw;have e5:=E0 h4 jw (.cells (eC l[j]) .fix);have R44:=aAh.frm F4;have aAj:Gr 5 c11 (ag eC (out.take k)) (out.take k).length (av jw (Vv (eC l[j])) h4) jw.succ o11:=by rw[hlk];exact G11.ext e5
  have F5:=F4.trans (qw.qD e5 o11);obtain⟨c12,h6,xI,o12,ha2,G12,F6'⟩:=aAj.IJ dE (by decide) (by decide) (by rw[hlk];omega) l[j];have F6:=F5.trans F6';have R86:=G83.rd.frm F6;have hrd:=dE.rows (out.drop k);rw[List.length_drop]at hrd;have aAk:(out.take k ++ [l[j]]).length+(out.length-k)≤1048576:=by rw[Ho,hlk];simp;omega
  obtain⟨c13,h7,nx7,o13,ha3,G13,F7'⟩:=G12.aqo (by decide) (by decide) (dE.Er _) hrd aAk (dE.ap3 _);have F7:=F3.cut (F6.trans F7');have er:ag eC (out.take k ++ [l[j]])++ag eC (out.drop k)=ag eC (out.take k++l[j] ::out.drop k):=by rw[←fU];simp
  have el:(out.take k ++ [l[j]]).length+(out.length-k)=(out.take k++l[j] ::out.drop k).length:=by simp;omega
  rw[er,el]at G13;simp;simp[yj];simp[-appendTo,↓G83.rd.avH dE hk ha1,yl,q8,q10];simp[-appendTo,↓R44.ix dE bG,ym,q4,q9,ha2,zP,mh,wv,acZ,Pv];simp[-appendTo,↓R86.avI dE hk ha3,yn,q8,q10];simp[yo,q9];rw[aC (by omega) (by omega)];have ZA:(out.take k++l[j] ::out.drop k).length=j+1:=by simp;omega
  exact⟨l.length-(j+1),by omega,j+1,_,c13,o13,rfl,by omega,by simp[q4],by simp,by simp,G13,ZA,aAg,avF,F7⟩
 ·have vK:j=l.length:=by omega
  subst vK;rw[List.take_length]at nR;simp[↓R4'.ln,pG,g4,g9];refine fg _ _ _ out c8 o8 ?_ G8 hpw nR F2;simp[g8]
end Ln
namespace Ln
open Go.Sx Go
def ary(X:Kn)(i:Nat)(os:List Op)(s0:St)(h:T ah)(nx:Key)(o:Out)(h':T ah)(nx':Key):Prop:=Ext h nx h' nx'∧((On (aJ X i os) 1025 0 [(0,s0)]=none∧o=.ret (.tuple [.nils,.bool false]))∨
 ∃(l out:List (Cf St)) (cR:AV),On (aJ X i os) 1025 0 [(0,s0)]=some l∧Kept (aJ X i os) l.length l∧l[0]?=some (0,s0)∧(∀x∈l,gV i x.2)∧out.Pairwise J8∧(∀x,x∈out↔x∈l)∧iB 5 eC cR out∧o=.ret (.tuple [cR,.bool true]))
variable{C:bK}{X:Kn}(S:Std C X)
include S
theorem ahR{i:Nat}(hi:i=2){os:List Op}(qx:EK i os)(ho:os.length≤16){cO:AV}(hc:iB 10 eO cO os){s0:St}(hs:gV i s0){h:T ah}{nx bj:Key}(hb:ae bj h=Vv (wB X i cO s0))(By:bj.toNat<nx.toNat) :
  aH C jN [.ptr bj 0] h nx (ary X i os s0 h nx):=by
 have s1:=kTSu nx;refine S.CZ.call ?_;simp[zh];simp[Aw];have ac:=(bA s0.kids).1;simp[Ax,hb,wB,ac];have ec:[I 0,I s0.k,I s0.n,.str 0 0,aK s0.kids]=eC (0,s0):=rfl;rw[ec];simp[Ay];have e1:=E0 h nx (.cells (eC (0,s0)) .fix);have G1:Gr 5 (.slice nx 0 1 5) (ag eC [(0,s0)]) [((0,s0):Cf St)].length (av nx (Vv (eC (0,s0))) h) nx.succ (some nx):=.inr (.inl ⟨nx,.fix,rfl,rfl,by simp[fj],by omega,rfl,.inr rfl⟩);have F1:qw h nx none (av nx (Vv (eC (0,s0))) h) nx.succ (some nx):=⟨by omega,fun b hb _=>e1.g b hb,.inr ⟨nx,rfl,fa _⟩⟩;refine aet S hi qx ho hc (s0:=s0) (c0:=(0,s0)) (h:=h) (nx:=nx) (bj:=bj) hb By (m:=1024) ⟨0,[(0,s0)],.slice nx 0 1 5,some nx,by simp,by simp,by simp,by simp,by simp,G1,Kept.start (by omega),rfl,rfl,by simpa using hs,F1⟩ ?_ ?_
 ·intro aw h' nx' kK q2 q3 nC F;simp[q2,q3];exact⟨⟨F.n,fun b hb=>F.g b hb (by simp)⟩,.inl ⟨nC,rfl⟩⟩
 ·intro aw h' nx' l c4 kK q4 G nC kp h0 BI F;simp;simp[yD];simp[yE];refine aeK S kp.len kp.nodup (fun y hy=>EJ (BI y hy)) G.rd (m:=l.length) ⟨0,[],.nils,none,by simp,by omega,by simp[q4],by simp,by simp,Gr.nil _ _ _,rfl,by simp,by simp,qw.refl _ _ _⟩ ?_;intro aW h2 aU out c8 o8 q8 G8 hpw nR F2;have fr:=G8.EN dE 9998;have FF:=F2.n;have FN:=F.n;simp;simp[yF,q8];refine⟨⟨by omega,fun b hb=>?_⟩,.inr ⟨l,out,_,nC,kp,h0,BI,hpw,nR,fr.1,rfl⟩⟩;have bU:o8≠some b:=F2.ne (by omega) (by simp);rw[fr.2 b bU,F2.g b (by omega) (by simp),F.g b hb (by simp)]
end Ln
namespace Ln
open Go.Sx Go
theorem ab2:∀n d:Nat,pop n d≤n
 |0,_=>fa _
 |n+1,d=>by unfold pop;have:=ab2 n d;split<;>omega
theorem _root_.Go.Sx.Rd.app{z:Nat}{c:AV}{α:Type}{enc:α→List AV}{us:List α}{h:T ah}{nx:Key}(F:Flat z enc)(g:Rd z c (ag enc us) us.length h nx){C:bK}{Q:cH}{L:List ay}{tm:T AV}{n2 k1 k3 d:Key}{s c':AV}{h':T ah}{n':Key}(ha:appendTo z s (ag enc us) us.length h n2=.val c' h' n')
  (h1:ae k1 tm=some c) (h3:ae k3 tm=some s):lH C Q (⟨some d,.append z (.t k3) (.t k1),none⟩ ::L) tm h n2=lH C Q L (av d (some c') tm) h' n':=by
 have hr:=F.rows us;have Hr:List.take (us.length*z) (ag enc us)=ag enc us:=OV (by omega);have hz:bC (aN 9999) (ag enc us) h=(ag enc us,h):=cn (F.Er _);rcases g with⟨rfl,e1,e2⟩|⟨f,rfl⟩|⟨b,kk,rfl,hb,_,_⟩
 ·have e0:us=[]:=SK e2;subst e0;simp[-appendTo]at ha;simp[-appendTo,h1,h3,ha]
 ·simp[-appendTo,h1,h3,ha]
 ·simp[-appendTo,h1,h3,hb,hr,Hr,hz,ha]
theorem _root_.Go.Sx.Gr.own{z:Nat}{c:AV}{l:List AV}{len:Nat}{h:T ah}{nx:Key}{ob:Option Key}(g:Gr z c l len h nx ob){b:Key}{o n z':Nat}(e:c=.slice b o n z'):ob=some b:=by
 rcases g with⟨rfl,_⟩|⟨b',k,rfl,rfl,_⟩|⟨t,rfl,rfl,_⟩
 ·cases e
 ·cases e;rfl
 ·cases e
theorem _root_.Go.Sx.Gr.aEj{z:Nat}{c:AV}{l:List AV}{len:Nat}{h h':T ah}{nx nx':Key}{ob o':Option Key}(g:Gr z c l len h nx ob)(F:qw h nx none h' nx' o'):Gr z c l len h' nx' ob:=
 g.cy F.n fun b hb=>F.g b (g.lt b hb) (by simp)
def Apt(c:AV)(ob:Option Key):Prop:=∀b o n z',c=.slice b o n z'→ob≠some b
theorem _root_.Go.Sx.Rd.axt{z:Nat}{c:AV}{l:List AV}{len:Nat}{h h':T ah}{nx nx':Key}{ob kK:Option Key}(g:Rd z c l len h nx)(a:Apt c ob)(F:qw h nx ob h' nx' kK):Rd z c l len h' nx'∧Apt c kK:=by
 rcases g with⟨rfl,e1,e2⟩|⟨f,rfl⟩|⟨b,k,rfl,hb,bY,hl⟩
 ·exact⟨.inl ⟨rfl,e1,e2⟩,fun _ _ _ _ e=>by cases e⟩
 ·exact⟨.inr (.inl ⟨f,rfl⟩),fun _ _ _ _ e=>by cases e⟩
 ·have hn:=a b _ _ _ rfl;refine⟨.inr (.inr ⟨b,k,rfl,by rw[F.g b bY hn];exact hb,by have:=F.n;omega,hl⟩),fun b' o n z' e=>?_⟩;cases e;exact F.ne bY hn
structure Cls(X:Kn)(i:Nat)(os:List Op)(L:List (Cf St)):Prop where
 closed:∀c∈L,∀x∈(aJ X i os).steps c,x.2∈L
 len:L.length≤1024
 lt:∀c∈L,c.1<2^os.length
 ok:∀c∈L,gV i c.2
def xM(p:List Nat):List Int:=p.map fun k:Nat=>(k:Int)
structure ant(X:Kn)(i:Nat)(os:List Op)(L:List (Cf St))(c:Cf St)(ord:List Int)(bad:List (Cf St))(c2:AV)(ob:Option Key)(h:T ah)(nx:Key)(o:Out)(h':T ah)(nx':Key):Prop where
 ex:∃(GM:List (Cf St)) (cB:AV) (kK:Option Key),CA (aJ X i os) L GM∧Gr 5 cB (ag eC GM) GM.length h' nx' kK∧(∃t,GM=bad++t∧∀x∈t,c.1≤x.1)∧qw h nx ob h' nx' kK∧
  ((∃(p:List Nat) (cR:AV),Path (aJ X i os) c p∧(ord++xM p).length≤16∧Rd 1 cR (ag eI (ord++xM p)) (ord++xM p).length h' nx'∧(∀b o n z',cR=.slice b o n z'→nx.toNat≤b.toNat∨cR=c2)∧o=.ret (.tuple [cR,cB,.bool true]))∨(¬Good (aJ X i os) c∧o=.ret (.tuple [.nils,cB,.bool false])))
structure aql(X:Kn)(i:Nat)(os:List Op)(cO:AV)(s0:St)(L:List (Cf St))(bj:Key)(c:Cf St)(ord:List Int)(bad:List (Cf St))(c2 c3:AV)(ob:Option Key)(h:T ah)(nx:Key):Prop where
 hb:ae bj h=Vv (wB X i cO s0)
 bn:bj.toNat<nx.toNat
 bo:ob≠some bj
 mem:c∈L
 len:ord.length≤pop os.length c.1
 rd:Rd 1 c2 (ag eI ord) ord.length h nx
 apt:Apt c2 ob
 bok:CA (aJ X i os) L bad
 gr:Gr 5 c3 (ag eC bad) bad.length h nx ob
def axu(X:Kn)(i:Nat)(os:List Op)(L:List (Cf St))(bj:Key)(c:Cf St)(ord:List Int)(bad:List (Cf St))(c2:AV)(ob:Option Key)(nx0:Key)(h:T ah)(nx:Key)(m:Nat)(aw:T AV)(h':T ah)(nx':Key):Prop:=∃(j:Nat) (GM:List (Cf St)) (cB:AV) (kK:Option Key),m=os.length-j∧j≤os.length∧ae (K 0) aw=some (.ptr bj 0)∧ae (K 2) aw=some c2∧ae (K 5) aw=some (.ptr nx0 0)∧ae (K 11) aw=some (I j)∧ae (K 3) aw=some cB∧
 Gr 5 cB (ag eC GM) GM.length h' nx' kK∧CA (aJ X i os) L GM∧(∃t,GM=bad++t∧∀x∈t,c.1<x.1)∧(∀x∈(aJ X i os).dh c j,¬Good (aJ X i os) x.2)∧qw h nx ob h' nx' kK
variable{C:bK}{X:Kn}(S:Std C X)
include S
theorem ahS{i:Nat}(hi:i=2){os:List Op}(qx:EK i os)(ho:os.length≤16){cO:AV}(hc:iB 10 eO cO os){s0:St}{L:List (Cf St)}(hL:Cls X i os L){bj:Key}:∀(M:Nat) {c:Cf St} {ord:List Int} {bad:List (Cf St)} {c2 c3:AV} {ob:Option Key} {h:T ah} {nx:Key},2^os.length-c.1≤M→aql X i os cO s0 L bj c ord bad c2 c3 ob h nx→
  aH C ft [.ptr bj 0,.agg (eC c),c2,c3] h nx (ant X i os L c ord bad c2 ob h nx):=by
 have rA:=S.r ia;have rH:C.raw lj=true:=S.rw (by decide);have rO:=S.r gj;have rT:=S.r gk;have rB:=S.r gZ;have rF:C.raw ft=true:=S.rw (by decide);have hSo:=Gu X i os;have h16:2^os.length≤65536:=jL ho;intro M
 induction M with
 |zero=>intro c ord bad c2 c3 ob h nx hM A;have:=hL.lt c A.mem;omega
 |succ M ih=>
  intro c ord bad c2 c3 ob h nx hM A;obtain⟨hb,By,hbo,nR,hlen,hrd,aEk,afK,hgr⟩:=A;have alC:=hL.lt c nR;have hd:c.1<65536:=by omega
  have hs:=hL.ok c nR;have aMl:=ab2 os.length c.1;have s1:=kTSu nx;have MB:=afK.len;have hLl:=hL.len;have hkb:∀y∈bad,y.2.kids.length≤3:=fun y hy=>EJ (hL.ok y (afK.sub y hy));have e0:=E0 h nx (.cells (eC c) .fix);have F0:=qw.qD e0 ob;have bj1:ae bj (av nx (Vv (eC c)) h)=Vv (wB X i cO s0):=by rw[e0.g bj By];exact hb
  have bc1:ae nx (av nx (Vv (eC c)) h)=Vv (eC c):=by simp
  have gr1:=hgr.ext e0;have axv:ob≠some nx:=fun e=>by have:=hgr.lt nx e;omega
  obtain⟨rd1,aEm⟩:=hrd.axt aEk F0;refine S.De.call ?_;simp[zn];simp[AU,zP,mh];generalize av nx (Vv (eC c)) h=h1 at *;simp[AW,bc1,eC,rA];refine(ab3 S ho hc hd bj1).mono ?_;rintro o zI aMm ⟨rfl,rfl,rfl⟩;cases asT:Ag os c.1 with
  |true=>
   simp;simp[AX];refine⟨bad,c3,ob,afK,gr1,⟨[],by simp,by simp⟩,F0,.inl ⟨[],c2,.now asT,?_,?_,fun _ _ _ _ _=>.inr rfl,rfl⟩⟩
   ·simp[xM];omega
   ·simpa[xM]using rd1
  |false=>
   simp;simp[AY,bc1,wv,mh,rH];refine(acV S (by omega) hkb (EJ hs) gr1.rd).mono ?_;rintro o h2 aU ⟨rfl,e2⟩;have n2:=e2.n;have F2:=F0.trans (qw.qD e2 ob);have gr2:=gr1.ext e2;have rd2:=rd1.ext e2;have bc2:ae nx h2=Vv (eC c):=by rw[e2.g nx (by omega)];exact bc1
   have Tm:ae bj h2=Vv (wB X i cO s0):=by rw[e2.g bj (by omega)];exact bj1
   by_cases Re:c∈bad
   ·simp[Re];simp[AZ];exact⟨bad,c3,ob,afK,gr2,⟨[],by simp,by simp⟩,F2,.inr ⟨afK.no c Re,rfl⟩⟩
   ·simp[Re];simp[A6];refine W.cM (n:=os.length) (axu X i os L bj c ord bad c2 ob nx h2 aU) ⟨0,bad,c3,ob,by simp,by omega,by simp,by simp,by simp,by simp,by simp,gr2,afK,⟨[],by simp,by simp⟩,by simp[Sys.dh],qw.refl _ _ _⟩ ?_;rintro m dD h3 cF ⟨j,GM,cB,kK,rfl,hj,g0,g2,g5,g11,g3,G,BO,⟨t,et,ht⟩,pF,F⟩;have n3:=F.n;have Ps:ae bj h3=Vv (wB X i cO s0):=by rw[F.g bj (by omega) hbo];exact Tm
    have bc3:ae nx h3=Vv (eC c):=by rw[F.g nx (by omega) axv];exact bc2
    obtain⟨rd3,aMp⟩:=rd2.axt aEm F;have hb3:kK≠some bj:=F.ne (by omega) hbo;have hn3:kK≠some nx:=F.ne (by omega) axv;refine W.of ?_;simp[A7];by_cases bG:j<os.length
    ·have sZ:(j:Int)<os.length:=by omega
     have BX:cO=.sl (ag eO os) os.length 10 .any:=by
      rcases hc with⟨_,rfl⟩|e
      ·simp at bG
      ·exact e
     subst BX;have af:∀n H,aN n (aK c.2.kids) H=(aK c.2.kids,H):=dn _;have hco:=Oo hi qx (xF bG);have dy:=fI (aJ X i os) c j;have Td:=LC X i os c j;rw[mQ bG]at Td;simp[l8,g0,g11,Ps,wB,sZ];simp[A8,g0,g5,g11,bc3,eC,rO];refine(WE S ho hc bG hd Ps (by omega)).mono ?_;rintro o h4 jw ⟨rfl,e4⟩;have n4:=e4.n;have ZN:ae bj h4=Vv (wB X i (.sl (ag eO os) os.length 10 .any) s0):=by rw[e4.g bj (by omega)];exact Ps
     have bc4:ae nx h4=Vv (eC c):=by rw[e4.g nx (by omega)];exact bc3
     have G4:=G.ext e4;have F4:=F.trans (qw.qD e4 kK);have rd4:=rd3.ext e4;have next:∀(aW:T AV) (h5:T ah) (Gv:Key) (bd:List (Cf St)) (cC:AV) (ob5:Option Key),ae (K 0) aW=some (.ptr bj 0)→ae (K 2) aW=some c2→ae (K 5) aW=some (.ptr nx 0)→ae (K 11) aW=some (I j)→ae (K 3) aW=some cC→Gr 5 cC (ag eC bd) bd.length h5 Gv ob5→CA (aJ X i os) L bd→(∃t,bd=bad++t∧∀x∈t,c.1<x.1)→(∀x∈(aJ X i os).dh c (j+1),¬Good (aJ X i os) x.2)→qw h2 aU ob h5 Gv ob5→
       lH C (aM (fun tm h' nx'=>∃m,m<os.length-j∧axu X i os L bj c ord bad c2 ob nx h2 aU m tm h' nx') (aA 0 (aM (iH C (.seq (.ops kI) .ret) (MQ [.tmp (K 8),.tmp (K 9),.tmp (K 10)] (ant X i os L c ord bad c2 ob h nx))) (MQ [.tmp (K 8),.tmp (K 9),.tmp (K 10)] (ant X i os L c ord bad c2 ob h nx))))) qp aW h5 Gv:=by
      intro aW h5 Gv bd cC ob5 q0 q2 q5 q11 q3 G5 BO5 ht5 aEo F5;simp[qp,q11];rw[aC (by omega) (by omega)];exact⟨os.length-(j+1),by omega,j+1,bd,cC,ob5,rfl,by omega,by simp[q0],by simp[q2],by simp[q5],by simp,by simp[q3],G5,BO5,ht5,aEo,F5⟩
     cases ki:xN os j c.1 with
     |false=>rw[ki]at Td;simp;refine next _ _ _ GM cB kK ?_ ?_ ?_ ?_ ?_ G4 BO ⟨t,et,ht⟩ (by rw[dy,Td];simpa using pF) F4<;>simp[g0,g2,g5,g11,g3]
     |true=>
      rw[ki,if_pos rfl]at Td;simp;simp[A9,g0,g5,g11,bc4,eC,rT,af];refine(ac8 S hc hco hs ZN (by omega)).mono ?_;rintro out h5 Gv ⟨⟨u,rfl,hu⟩,e5⟩;have s5:=kTSu Gv;have n5:=e5.n;simp[uU,lenS,PB];have e6:=E0 h5 Gv (.cells (eS u) .fix);have e56:=e5.trans e6;have bj6:ae bj (av Gv (Vv (eS u)) h5)=Vv (wB X i (.sl (ag eO os) os.length 10 .any) s0):=by rw[e56.g bj (by omega)];exact ZN
      have bc6:ae nx (av Gv (Vv (eS u)) h5)=Vv (eC c):=by rw[e56.g nx (by omega)];exact bc4
      have bu6:ae Gv (av Gv (Vv (eS u)) h5)=Vv (eS u):=by simp
      have G6:=G4.ext e56;have F6:=F4.trans (qw.qD e56 kK);have rd6:=rd4.ext e56;generalize av Gv (Vv (eS u)) h5=h6 at *;cases Hr:X.take (cm i os[j]) os[j] c.2 with
      |none=>rw[Hr]at Td;simp;simp[sr];refine next _ _ _ GM cB kK ?_ ?_ ?_ ?_ ?_ G6 BO ⟨t,et,ht⟩ (by rw[dy,Td];simpa using pF) F6<;>simp[g0,g2,g5,g11,g3]
      |some u'=>
       rw[Hr]at Td;have:=hu u' Hr;subst this;simp;simp[sr];simp[yN];obtain⟨c14,h7,nx7,o14,ha7,G14,F7⟩:=Ww (h:=h6) (nx:=Gv.succ) (CB.rows ord) (by omega);simp[-appendTo,↓rd6.app CB ha7,yO,g2];have hp:0<2^j∧2^j≤65536:=⟨Nat.two_pow_pos j,jL (by omega)⟩;have asU:(aJ X i os).step c j=some (j,(c.1+2^j,u)):=Td;have Jg:(j,((c.1+2^j,u):Cf St))∈(aJ X i os).steps c:=List.mem_filterMap.2 ⟨j,List.mem_range.2 bG,asU⟩;have apo:=hL.closed c nR _ Jg;have axw:=OU hSo Jg alC;obtain⟨bq',esp⟩:=Qv (aJ X i os) c bG asU;have asV:pop os.length (c.1+2^j)=pop os.length c.1+1:=axw;have qX:=ab2 os.length (c.1+2^j);rw[asU]at dy;generalize Tr:2^j=p at hp Jg apo asV qX esp dy;have s7:=kTSu nx7;have n7:=F7.n;have e8:=E0 h7 nx7 (.cells [I j] .fix);obtain⟨c15,h9,nx9,o15,ha9,G15,F9⟩:=(G14.ext e8).IJ CB (by decide) (by decide) (by omega) (j:Int);have FF:=(F7.trans (qw.qD e8 o14)).trans F9;have bj9:ae bj h9=Vv (wB X i (.sl (ag eO os) os.length 10 .any) s0):=by rw[FF.g bj (by omega) (by simp)];exact bj6
       have bc9:ae nx h9=Vv (eC c):=by rw[FF.g nx (by omega) (by simp)];exact bc6
       have bu9:ae Gv h9=Vv (eS u):=by rw[FF.g Gv (by omega) (by simp)];exact bu6
       have bc7:ae nx h7=Vv (eC c):=by rw[F7.g nx (by omega) (by simp)];exact bc6
       have bu7:ae Gv h7=Vv (eS u):=by rw[F7.g Gv (by omega) (by simp)];exact bu6
       have bc8:ae nx (av nx7 (Vv [I j]) h7)=Vv (eC c):=by rw[e8.g nx (by omega)];exact bc7
       have bu8:ae Gv (av nx7 (Vv [I j]) h7)=Vv (eS u):=by rw[e8.g Gv (by omega)];exact bu7
       have G9:=G6.aEj FF;have Fm:qw h6 Gv.succ kK h9 nx9 kK:=⟨FF.n,fun b hb _=>FF.g b hb (by simp),.inl rfl⟩;have F69:=F2.trans (F6.trans Fm);have aEt:Apt c15 kK:=by
        intro b o n z' e hob;have akc:=G15.own e;have bY:=G6.lt b hob;rcases FF.o with e'|⟨y,e',hy⟩
        ·rw[akc]at e';cases e'
        ·rw[akc]at e';cases e';omega
       have hw:bP .i64 ((c.1:Int)+(p:Int))=(c.1:Int)+(p:Int):=aC (by omega) (by omega);have afu:∀n H,aN n (aK u.kids) H=(aK u.kids,H):=dn _;have q1:AV.beq (I c.1) (I c.1)=true:=beq_refl _ rfl;have q2:=aia u;have hej:eI (j:Int)=[I j]:=rfl;rw[hej]at ha9;simp[eS]at q2;simp[-appendTo,yP,g0,g3,g5,g11,bc7,bu7,eC,eS,rB];refine(ZU S (by omega)).mono ?_;rintro o hx nxx ⟨rfl,ex,exn⟩;rw[ex,exn,Tr];simp[-appendTo,hw,bc7,bu7,bc9,bu9,eC,eS,afu,ha9,q1,q2,rF];have hA:aql X i os (.sl (ag eO os) os.length 10 .any) s0 L bj (c.1+p,u) (ord ++ [(j:Int)]) GM c15 cB kK h9 nx9:=⟨bj9,by have:=FF.n;omega,hb3,apo,by rw[Ho];simp;omega,G15.rd,aEt,BO,G9⟩;have Pt:=ih (c:=(c.1+p,u)) (by show 2^os.length-(c.1+p)≤M;omega) hA;simp[eC]at Pt;refine Pt.mono ?_;rintro o h10 aMC ⟨asW,cB2,ob2,BO2,G10,⟨t2,et2,ht2⟩,F10,Pu⟩;have asX:=F69.trans F10;have ht3:∀x∈t++t2,c.1<x.1:=by
        intro x hx;rcases List.mem_append.1 hx with hx|hx
        ·exact ht x hx
        ·have h1:c.1+p≤x.1:=ht2 x hx;omega
       have et3:asW=bad++(t++t2):=by rw[et2,et,List.append_assoc]
       rcases Pu with⟨q,cR,hq,hql,hqr,hqn,rfl⟩|⟨hng,rfl⟩
       ·simp;simp[qq];simp[qs];simp[yQ];have el:ord ++ [(j:Int)]++xM q=ord++xM (j ::q):=by simp[xM]
        rw[el]at hql hqr;refine⟨asW,cB2,ob2,BO2,G10,⟨t++t2,et3,fun x hx=>Nat.le_of_lt (ht3 x hx)⟩,asX,.inl ⟨j ::q,cR,Path.step asT esp pF hq,hql,hqr,fun b o n z' e=>.inl ?_,rfl⟩⟩;have nFF:=FF.n;rcases hqn b o n z' e with e'|e'
        ·omega
        ·rw[e']at e;have akc:=G15.own e;rcases FF.o with e''|⟨y,e'',hy⟩
         ·rw[akc]at e'';cases e''
         ·rw[akc]at e'';cases e'';omega
       ·simp;simp[qq];simp[qs];have aEu:∀x∈(aJ X i os).dh c (j+1),¬Good (aJ X i os) x.2:=by
         rw[dy];intro x hx;rcases List.mem_append.1 hx with hx|hx
         ·exact pF x hx
         ·simp at hx;subst hx;exact hng
        refine next _ _ _ asW cB2 ob2 ?_ ?_ ?_ ?_ ?_ G10 BO2 ⟨t++t2,et3,ht3⟩ aEu (F.trans ((qw.qD (e4.trans e56) kK).trans (Fm.trans F10)))<;>simp[g0,g2,g5,g11]
    ·have vK:j=os.length:=by omega
     subst vK;have hng:¬Good (aJ X i os) c:=akd asT pF;have aEv:c∉GM:=by
      rw[et];intro hx;rcases List.mem_append.1 hx with hx|hx
      ·exact Re hx
      ·have:=ht c hx;omega
     have BO2:=BO.add nR aEv hng;have ahC:=BO.len;have s3:=kTSu cF;have e4:=E0 h3 cF (.cells (eC c) .fix);obtain⟨cC,h5,Gv,o5,ha5,G5,F5⟩:=(G.ext e4).IJ dE (by decide) (by decide) (by omega) c;have asX:=F2.trans (F.trans ((qw.qD e4 kK).trans F5));have fin:∀(aW:T AV),ae (K 3) aW=some cB→ae (K 5) aW=some (.ptr nx 0)→iH C (.seq (.ops kI) .ret) (MQ [.tmp (K 8),.tmp (K 9),.tmp (K 10)] (ant X i os L c ord bad c2 ob h nx)) aW h3 cF:=by
      intro aW q3 q5;simp;simp[-appendTo,kI,q3,q5,bc3,zP,mh,wv,acZ,Pv,ha5];exact⟨GM ++ [c],cC,o5,BO2,G5,⟨t ++ [c],by rw[et,List.append_assoc],fun x hx=>by
       rcases List.mem_append.1 hx with hx|hx
       ·exact Nat.le_of_lt (ht x hx)
       ·simp at hx;subst hx;exact fa _⟩,asX,.inr ⟨hng,rfl⟩⟩
     simp only[fH,kj]at fin;rcases id hc with⟨OF,zB⟩|OF
     ·have:(os.length:Int)=0:=by rw[zB];rfl
      simp[l8,g0,g11,Ps,wB,OF,this];refine fin _ ?_ ?_<;>simp[g3,g5]
     ·simp[l8,g0,g11,Ps,wB,OF];refine fin _ ?_ ?_<;>simp[g3,g5]
end Ln
namespace Ln
open Go.Sx Go
theorem _root_.Go.Sx.aqj{n:Nat}{b:Key}{len sz:Nat}{l:List AV}{H:T ah}(hg:ae b H=some (.cells l .ro))(hl:l.length=len*sz)(hs:∀x∈l,OQ x):aN (n+1) (.slice b 0 len sz) H=(.sl l len sz .any,H):=by simp only[aN,J7,hg,List.drop_zero];rw[if_pos (by omega),OV (by omega),cn hs]
theorem _root_.Go.Sx.Rd.EN{z:Nat}{c:AV}{α:Type}{enc:α→List AV}(F:Flat z enc){us:List α}{h:T ah}{nx n0:Key}(g:Rd z c (ag enc us) us.length h nx)(hn:∀b o n z',c=.slice b o n z'→n0.toNat≤b.toNat)(n:Nat) :
  iB z enc (aN (n+1) c h).1 us∧∀b:Key,b.toNat<n0.toNat→ae b (aN (n+1) c h).2=ae b h:=by
 rcases g with⟨rfl,e1,e2⟩|⟨f,rfl⟩|⟨b,k,rfl,hb,_,hl⟩
 ·exact⟨.inl ⟨rfl,SK e2⟩,fun _ _=>rfl⟩
 ·exact⟨.inr rfl,fun _ _=>rfl⟩
 ·have h0:=hn b _ _ _ rfl;cases k with
  |part=>rw[Ep hb hl (F.Er us)];exact⟨.inr rfl,fun x hx=>az (by omega)⟩
  |fix=>rw[BN hb hl (F.Er us)];exact⟨.inr rfl,fun x hx=>az (by omega)⟩
  |ro=>rw[aqj hb hl (F.Er us)];exact⟨.inr rfl,fun x hx=>rfl⟩
abbrev Uy(X:Kn)(i:Nat)(l:List Ev):Sys St:=aJ X i (bO 0 l)
def ahO(X:Kn)(i:Nat)(l:List Ev)(h:T ah)(nx:Key)(o:Out)(h':T ah)(nx':Key):Prop:=Ext h nx h' nx'∧
 ((mj X i l≠0∧o=.ret (.tuple [.nils,.nils,I (mj X i l)]))∨
  (mj X i l=0∧((On (Uy X i l) 1025 0 [(0,bZ i)]=none∧o=.ret (.tuple [.nils,.nils,I 4]))∨
   ∃L,On (Uy X i l) 1025 0 [(0,bZ i)]=some L∧((∃p cR,Path (Uy X i l) (0,bZ i) p∧(xM p).length≤16∧iB 1 eI cR (xM p)∧o=.ret (.tuple [cR,.nils,I 0]))∨
    (¬Good (Uy X i l) (0,bZ i)∧∃out cR,out.Pairwise J8∧(∀x,x∈out↔x∈L)∧iB 5 eC cR out∧o=.ret (.tuple [.nils,cR,I 0]))))))
variable{C:bK}{X:Kn}(S:Std C X)
include S
theorem ahP{i:Nat}(hi:i=2){ev:AV}{l:List Ev}(hv:iB 8 eE ev l)(hl:YY l){h:T ah}{nx:Key} :
  aH C lQ [X.m,fE i,ev,X.lim] h nx (ahO X i l h nx):=by
 have s1:=kTSu nx;have s2:=kTSu nx.succ;have rb:=S.r mU;have rR:=S.r jN;have rF:C.raw ft=true:=S.rw (by decide);have hz:∀H,aN 9999 ev H=(ev,H):=fun H=>hv.vV _ _;have vW:(bO 0 l).length≤16:=by have:=vX l 0;have:=hl.len;omega
 refine S.J9.call ?_;simp[IL];simp[Hy,Kn.m,Kn.lim];have e2:=(E0 h nx (.cells [.sl X.rows 7 45 .any] .fix)).trans (E0 _ nx.succ (.cells [I X.lf,I X.lb] .fix));have Rz:ae nx (av nx.succ (Vv [I X.lf,I X.lb]) (av nx (Vv [.sl X.rows 7 45 .any]) h))=Vv [.sl X.rows 7 45 .any]:=by rw[az (by omega)];simp
 have bl2:ae nx.succ (av nx.succ (Vv [I X.lf,I X.lb]) (av nx (Vv [.sl X.rows 7 45 .any]) h))=Vv [I X.lf,I X.lb]:=by simp
 generalize av nx.succ (Vv [I X.lf,I X.lb]) (av nx (Vv [.sl X.rows 7 45 .any]) h)=h2 at *;simp[Hz,Rz,bl2,rb,hz];refine(ahQ S hi hv hl).mono ?_;rintro o h3 cF ⟨e3,hR⟩;have NK:=e2.trans e3;have n3:=e3.n;rcases hR with⟨bU,rfl⟩|⟨NI,bj,cO,rfl,Ps,hc,bj0,bjn⟩
 ·simp;simp[zd,bq bU];simp[HA];exact⟨NK,.inl ⟨bU,rfl⟩⟩
 ·obtain⟨SQ,qx⟩:=MG hi hl NI;simp;simp[zd];simp[HB,rR];refine(ahR S hi qx vW hc (Uz hi) Ps bjn).mono ?_;rintro o h4 jw ⟨e4,hR⟩;have UA:=NK.trans e4;have n4:=e4.n;have ZN:ae bj h4=Vv (wB X i cO (bZ i)):=by rw[e4.g bj bjn];exact Ps
  rcases hR with⟨nC,rfl⟩|⟨L,out,cR,nC,kp,h0,BI,hpw,nR,hcR,rfl⟩
  ·simp;simp[ze];simp[HC];exact⟨UA,.inr ⟨NI,.inl ⟨nC,rfl⟩⟩⟩
  ·simp;simp[ze];have RA:=(bA (bZ i).kids).1;have wh:Whole (Uy X i l) L (0,bZ i):=⟨kp,h0⟩;have hL:Cls X i (bO 0 l) L:=⟨fun c hc=>wh.closed hc,kp.len,kp.lt,BI⟩;have hA:aql X i (bO 0 l) cO (bZ i) L bj (0,bZ i) [] [] .nils .nils none h4 jw:=⟨ZN,by omega,by simp,List.mem_of_getElem? h0,by simp,.inl ⟨rfl,rfl,rfl⟩,(fun _ _ _ _ e=>by cases e),CA.nil _ _,Gr.nil _ _ _⟩;have Pt:=ahS S hi qx vW hc hL (2^(bO 0 l).length) (Nat.sub_le _ _) hA;simp[eC]at Pt;simp[HD,ZN,wB,RA,rF];refine Pt.mono ?_;rintro o h5 Gv ⟨GM,cB,kK,BO,G,_,F,Pu⟩;have n5:=F.n;have e5:Ext h4 jw h5 Gv:=⟨F.n,fun b hb=>F.g b hb (by simp)⟩;have e25:=UA.trans e5;rcases Pu with⟨p,c8,hp,qX,hrd,DW,rfl⟩|⟨hng,rfl⟩
   ·simp;simp[zf];have fr:=hrd.EN CB (n0:=jw) (fun b o n z' e=>by
     rcases DW b o n z' e with h|h
     ·exact h
     ·rw[h]at e;cases e) 9998
    simp[HE];refine⟨⟨by have:=e25.n;omega,fun b hb=>?_⟩,.inr ⟨NI,.inr ⟨L,nC,.inl ⟨p,_,hp,qX,fr.1,rfl⟩⟩⟩⟩;have n24:=UA.n;rw[fr.2 b (by omega)];exact e25.g b hb
   ·simp;simp[zf];have hcz:∀n H,aN n cR H=(cR,H):=fun n H=>hcR.vV n H;simp[E5,hcz];exact⟨e25,.inr ⟨NI,.inr ⟨L,nC,.inr ⟨hng,out,cR,hpw,nR,hcR,rfl⟩⟩⟩⟩
end Ln
namespace Ln
open Go.Sx Go
abbrev Ci:=Int×St
def eD(c:Ci):List AV:=[I c.1,I c.2.k,I c.2.n,.str 0 0,aK c.2.kids]
def toC(c:Ci):Cf St:=(c.1.toNat,c.2)
def ofC(c:Cf St):Ci:=((c.1:Int),c.2)
theorem acE(c:Cf St):toC (ofC c)=c:=by simp[toC,ofC]
theorem aha(c:Cf St):eD (ofC c)=eC c:=rfl
def SP(a b:Ci):Prop:=a.1<b.1∨a.1=b.1∧ig a.2 b.2<0
theorem apX{a b c:Ci}(h:SP a b)(k:SP b c):SP a c:=by
 rcases h with h|⟨h1,h2⟩<;>rcases k with k|⟨k1,k2⟩
 ·exact .inl (by omega)
 ·exact .inl (by omega)
 ·exact .inl (by omega)
 ·exact .inr ⟨by omega,BH h2 k2⟩
def EI(n:Nat)(l:List Ci):Prop:=∀(q:Nat) (hq:q<l.length),0≤l[q].1∧l[q].1<((2^n:Nat):Int)∧∀_:0<q,SP l[q-1] l[q]
def IG(n:Nat)(l:List Ci)(j:Nat):Prop:=∀(q:Nat) (hq:q<l.length),q<j→0≤l[q].1∧l[q].1<((2^n:Nat):Int)∧∀_:0<q,SP l[q-1] l[q]
theorem IG.zero(n:Nat)(l:List Ci):IG n l 0:=fun q hq h=>absurd h (by omega)
theorem IG.all{n:Nat}{l:List Ci}(h:IG n l l.length):EI n l:=fun q hq=>h q hq hq
theorem IG.step{n:Nat}{l:List Ci}{j:Nat}(h:IG n l j)(hj:j<l.length)(h1:0≤l[j].1)(h2:l[j].1<((2^n:Nat):Int))(h3:∀_:0<j,SP l[j-1] l[j]):IG n l (j+1):=by
 intro q hq hqj;by_cases e:q=j
 ·subst e;exact⟨h1,h2,h3⟩
 ·exact h q hq (by omega)
theorem EI.pos{n:Nat}{l:List Ci}(h:EI n l):∀c∈l,0≤c.1:=by intro c hc;obtain⟨i,hi,rfl⟩:=List.getElem_of_mem hc;exact(h i hi).1
theorem EI.lt{n:Nat}{l:List Ci}(h:EI n l):∀c∈l.map toC,c.1<2^n:=by intro c hc;obtain⟨x,hx,rfl⟩:=Rh.1 hc;obtain⟨i,hi,rfl⟩:=List.getElem_of_mem hx;have:=h i hi;show l[i].1.toNat<_;omega
theorem EI.up{n:Nat}{l:List Ci}(h:EI n l):∀(d i:Nat) (hj:i+d+1<l.length),SP (l[i]'(by omega)) l[i+d+1]
 |0,i,hj=>by have:=(h (i+1) hj).2.2 (by omega);simpa using this
 |d+1,i,hj=>by
  have h1:=EI.up h d i (by omega);have h2:=(h (i+(d+1)+1) hj).2.2 (by omega);have e:i+(d+1)+1-1=i+d+1:=by omega
  simp only[e]at h2;exact apX h1 h2
def Zn(S:Sys St)(c0:Cf St)(l:List (Cf St)):Prop:=c0∈l∧∀c∈l,S.acc c.1=false∧∀x∈S.steps c,x.2∈l
def cI(a b:Int):Int:=if a<b then -1 else if b<a then 1 else 0
def W8(a b:Ci):Int:=if a.1<b.1 then -1 else if b.1<a.1 then 1 else ig a.2 b.2
theorem am1{a b:Ci}:W8 a b<0↔SP a b:=by
 unfold W8 SP;by_cases h:a.1<b.1
 ·simp[h]
 ·by_cases h2:b.1<a.1
  ·simp[h,h2];omega
  ·have:a.1=b.1:=by omega
   simp[h,h2,this]
theorem adg{a b:Ci}:W8 a b=0↔a=b:=by
 unfold W8;by_cases h:a.1<b.1
 ·simp[h];rintro rfl;omega
 ·by_cases h2:b.1<a.1
  ·simp[h,h2];rintro rfl;omega
  ·have e:a.1=b.1:=by omega
   simp[h,h2];constructor
   ·intro q;exact Prod.ext e (sM.1 q)
   ·rintro rfl;exact sM.2 rfl
variable{C:bK}{X:Kn}(S:Std C X)
include S
theorem akl(a:Int){h:T ah}{nx:Key}:aH C gP [I a] h nx (fun o h' nx'=>o=.ret (.bool false)∧h'=h∧nx'=nx):=by refine S.Dc.call ?_;simp[cmp_isNaN_int];simp[Bl];simp[Bm]
theorem afQ(a b:Int){h:T ah}{nx:Key}:aH C hZ [I a,I b] h nx (fun o h' nx'=>o=.ret (I (cI a b))∧h'=h∧nx'=nx):=by
 have rn:=S.r gP;refine S.yJ.call ?_;simp[tY];simp[xo];simp[xp,rn];refine(akl S a).mono ?_;rintro o h1 bF ⟨rfl,rfl,rfl⟩;simp;simp[xq,rn];refine(akl S b).mono ?_;rintro o h1 bF ⟨rfl,rfl,rfl⟩;simp;simp[xr];simp[xu];by_cases h1:a<b
 ·simp[nZ,h1];simp[vl,cI,h1]
 ·simp[nZ,h1];by_cases h2:b<a
  ·simp[mM,h2];simp[vm,cI,h1,h2]
  ·simp[mM,h2];simp[vo,cI,h1,h2]
omit S in
theorem anC{a b:Int}{j:Nat}(hj:j<2):List.take 1 (List.drop j [I a,I b])=[I (if j=0 then a else b)]:=by
 match j,hj with
 |0,_=>rfl
 |1,_=>rfl
def OrI(a b:Int)(h:T ah)(nx:Key)(m:Nat)(aw:T AV)(h':T ah)(nx':Key):Prop:=∃j:Nat,m=2-j∧j≤2∧ae (K 3) aw=some (I 0)∧ae (K 6) aw=some (.sl [I a,I b] 2 1 .any)∧ae (K 7) aw=some (I 2)∧ae (K 8) aw=some (I j)∧h'=h∧nx'=nx∧(0<j→a=0)∧(1<j→b=0)
theorem axA(a b:Int){h:T ah}{nx:Key}:aH C pY [.sl [I a,I b] 2 1 .any] h nx (fun o h' nx'=>o=.ret (I (if a=0 then b else a))∧h'=h∧nx'=nx):=by
 refine S.Kv.call ?_;simp[IW];simp[Ig];simp[Ih];simp[Ii];refine W.cM (n:=2) (OrI a b h nx) ⟨0,by simp,by omega,by simp,by simp,by simp,by simp,rfl,rfl,by omega,by omega⟩ ?_;rintro m dD h1 bF ⟨j,rfl,hj,g3,g6,g7,g8,rfl,rfl,ha,hb⟩;refine W.of ?_;simp[Ij];by_cases hj2:j<2
 ·have sZ:(j:Int)<2:=by omega
  have tx:1≤2-j:=by omega
  have tg:=anC (a:=a) (b:=b) hj2;simp[zx,g7,g8,sZ];simp[Ik,g6,g8,hj2,tx,tg];by_cases hz:(if j=0 then a else b)=0
  ·simp[zy,g3,hz];simp[Il,g8];rw[aC (by omega) (by omega)];refine⟨2-(j+1),by omega,j+1,rfl,by omega,by simp[g3],by simp[g6],by simp[g7],by simp,rfl,rfl,?_,?_⟩
   ·intro _;by_cases h0:j=0
    ·rw[if_pos h0]at hz;exact hz
    ·exact ha (by omega)
   ·intro _;rw[if_neg (by omega)]at hz;exact hz
  ·simp[zy,g3,bq hz];simp[Im];by_cases h0:j=0
   ·rw[if_pos h0]at hz;simp[h0,hz]
   ·have:=ha (by omega);simp[h0,this]
 ·have vK:j=2:=by omega
  subst vK;have h1:=ha (by omega);have h2:=hb (by omega);simp[zx,g7,g8];simp[Io,g3,h1,h2]
theorem P0{a b:Ci}(ha:a.2.kids.length≤3)(hb:b.2.kids.length≤3):TN C eN [.agg (eD a),.agg (eD b)] (·=.ret (I (W8 a b))):=by
 intro h nx;have s1:=kTSu nx;have s2:=kTSu nx.succ;have s3:=kTSu nx.succ.succ;have rC:=S.r hZ;have rV:=S.r iP;have rO:=S.r pY;have ac1:=bA a.2.kids;have ac2:=bA b.2.kids;have af1:∀n H,aN n (aK a.2.kids) H=(aK a.2.kids,H):=dn _;have af2:∀n H,aN n (aK b.2.kids) H=(aK b.2.kids,H):=dn _;obtain⟨a1,a2⟩:=a;obtain⟨b1,b2⟩:=b;refine S.AR.call ?_;simp[xd];simp[yR,eD,ac1.1,ac2.1];have e1:=(E0 h nx (.cells (eD (a1,a2)) .fix)).trans (E0 _ nx.succ (.cells (eD (b1,b2)) .fix));have q1:ae nx (av nx.succ (Vv (eD (b1,b2))) (av nx (Vv (eD (a1,a2))) h))=Vv (eD (a1,a2)):=by rw[az (by omega)];simp
 have q2:ae nx.succ (av nx.succ (Vv (eD (b1,b2))) (av nx (Vv (eD (a1,a2))) h))=Vv (eD (b1,b2)):=by simp
 simp only[eD]at e1 q1 q2;generalize av nx.succ (Vv [I b1,I b2.k,I b2.n,.str 0 0,aK b2.kids]) (av nx (Vv [I a1,I a2.k,I a2.n,.str 0 0,aK a2.kids]) h)=h1 at *;simp[yS,q1,q2,rC,af1,af2];refine(afQ S a1 b1).mono ?_;rintro o h2 aU ⟨rfl,rfl,rfl⟩;have bs1:=aia a2;have bs2:=aia b2;simp[eS]at bs1 bs2;simp[q1,q2,bs1,bs2,rV,af1,af2];refine aH.known (S.s_values_Compare a2 b2 ha hb _ _) ?_;have hz:aN 9999 (.slice nx.succ.succ 0 2 1) (av nx.succ.succ (Vv [I (cI a1 b1),I (ig a2 b2)]) h2)=(.sl [I (cI a1 b1),I (ig a2 b2)] 2 1 .any,av nx.succ.succ (some (.cells [I (cI a1 b1),I (ig a2 b2)] .ro)) (av nx.succ.succ (Vv [I (cI a1 b1),I (ig a2 b2)]) h2)):=by refine BN (n:=9998) (by simp) rfl ?_;intro y hy;simp at hy;rcases hy with rfl|rfl<;>exact dz _ _
 simp[rO,hz];refine(axA S (cI a1 b1) (ig a2 b2)).mono ?_;rintro o h2 aU ⟨rfl,rfl,rfl⟩;simp;refine⟨?_,?_⟩
 ·unfold cI W8;by_cases h1:a1<b1
  ·simp[h1]
  ·by_cases h2:b1<a1
   ·simp[h1,h2]
   ·simp[h1,h2]
 ·exact⟨by have:=e1.n;omega,fun b hb=>by rw[az (by omega)];exact e1.g b hb⟩
end Ln
namespace Ln
open Go.Sx Go
def V2(n:Int):Prop:=-9223372036854775808≤n∧n<9223372036854775808
def NB(n:Int)(m:Nat):Nat:=(if n<0 then -(n+1)else n).toNat%m
theorem ahs{m:Nat}(h:0<m)(n:Int):NB n m<m:=Nat.mod_lt _ h
variable{C:bK}{X:Kn}(S:Std C X)
include S
theorem SL{n:Int}(hn:V2 n){m:Nat}(hm:0<m)(NN:m≤1000000){h:T ah}{nx:Key}:aH C gh [I n,I m] h nx (fun o h' nx'=>o=.ret (I (NB n m))∧h'=h∧nx'=nx):=by
 obtain⟨h1,h2⟩:=hn;have Mp:((m:Int)==0)=false:=bq (by omega);refine S.Fo.call ?_;simp[B8];simp[C2];have fin:∀(aW:T AV) (k:Nat),(k:Int)<9223372036854775808→NB n m=k%m→ae (K 0) aW=some (I k)→ae (K 1) aW=some (I m)→iH C (.seq (.ops tU) .ret) (dF [.tmp (K 4)] fun o h' nx'=>o=.ret (I (NB n m))∧h'=h∧nx'=nx) aW h nx:=by intro aW k hk e q0 q1;have bY:k%m<m:=Nat.mod_lt _ hm;have ht:Int.tmod (k:Int) (m:Int)=((k%m:Nat):Int):=rfl;have hw:bP .i64 ((k%m:Nat):Int)=((k%m:Nat):Int):=aC (by omega) (by omega);rw[e];simp;simp[-Int.natCast_emod,tU,q0,q1,Mp,ht,hw];exact Int.natCast_emod k m
 simp only[fH,kj]at fin;by_cases bY:n<0
 ·obtain⟨k,hk⟩:=Int.eq_ofNat_of_zero_le (a:=-(n+1)) (by omega);have e:NB n m=k%m:=by unfold NB;rw[if_pos bY,hk];rfl
  have w1:bP .i64 (n+1)=n+1:=aC (by omega) (by omega);have w2:bP .i64 (-(n+1))=k:=by rw[aC (by omega) (by omega),hk]
  simp[tV,bY];simp[C3,w1,w2];refine fin _ k (by omega) e ?_ ?_<;>simp
 ·obtain⟨k,hk⟩:=Int.eq_ofNat_of_zero_le (a:=n) (by omega);have e:NB n m=k%m:=by unfold NB;rw[if_neg bY,hk];rfl
  simp[tV,bY];refine fin _ k (by omega) e ?_ ?_
  ·simp[hk]
  ·simp
end Ln
namespace Ln
open Go.Sx Go
theorem aDt(z:Ev):(eE z).length=8:=rfl
theorem awx(z:Ev):(eE z).all AV.aP=true:=vJ.2 (jo.cell z)
variable{C:bK}{X:Kn}(S:Std C X)
def EvI(l:List Ev)(c0:AV)(h:T ah)(nx:Key)(m:Nat)(aw:T AV)(h':T ah)(nx':Key):Prop:=∃(j:Nat) (c3:AV),m=l.length-j∧j≤l.length∧ae (K 0) aw=some c0∧ae (K 3) aw=some c3∧ae (K 4) aw=some (I j)∧App c3 (ag eE (l.take j)) (l.take j).length 8 h' nx' nx∧Ext h nx h' nx'
include S
theorem afP{l:List Ev}(hl:l.length≤1000){c0:AV}(hc:iB 8 eE c0 l){h:T ah}{nx:Key}:aH C lx [c0] h nx (fun o h' nx'=>∃cR,o=.ret cR∧iB 8 eE cR l∧Ext h nx h' nx'):=by
 refine S.FE.call ?_;simp[Cd];simp[Dz];simp[DA];simp[DB];refine W.cM (n:=l.length) (EvI l c0 h nx) ⟨0,.nils,by simp,by omega,by simp,by simp,by simp,App.nil _,Ext.refl _ _⟩ ?_;rintro m dD h1 bF ⟨j,c3,rfl,hj,g0,g3,g4,hA,e1⟩;refine W.of ?_;simp[DC];have hR:Rd 8 c0 (ag eE l) l.length h1 bF:=hc.rd _ _;by_cases bG:j<l.length
 ·have sZ:(j:Int)<l.length:=by omega
  have BX:c0=.sl (ag eE l) l.length 8 .any:=by
   rcases hc with⟨_,rfl⟩|e
   ·simp at bG
   ·exact e
  subst BX;have ec:=jo.at bG;have hr:=jo.rows l;have tx:8≤l.length*8-j*8:=by omega
  have n1:=e1.n;have s1:=kTSu bF;have RA:=bA l[j].args;have e2:=E0 h1 bF (.cells (eE l[j]) .fix);have bY:(l.take j).length=j:=by rw[V9,Nat.min_eq_left (by omega)]
  obtain⟨c6,h6,xI,ha,hA6,n6,k6,_⟩:=(hA.ext e2).IJ jo (by omega) (by omega) l[j];have ee:eE l[j]=[I l[j].kind,I l[j].client,.str l[j].name.1 l[j].name.2,aK l[j].args,I l[j].res.k,I l[j].res.n,.str 0 0,.nils]:=rfl;have af:∀n H,aN n (aK l[j].args) H=(aK l[j].args,H):=dn _;rw[←Zz bG]at hA6;rw[ee]at ec ha e2 k6;simp[ur,g0,g4,sZ];simp[-appendTo,DD,g0,g3,g4,bG,hr,tx,ec,RA.1,RA.2,af,ha];simp[DE,g4];rw[aC (by omega) (by omega)];exact⟨l.length-(j+1),by omega,j+1,c6,rfl,by omega,by simp[g0],by simp,by simp,hA6,by omega,fun b hb=>by rw[k6 b hb,e2.g b (by omega)];exact e1.g b hb⟩
 ·have vK:j=l.length:=by omega
  subst vK;rw[List.take_length]at hA;have fr:=hA.EN jo 9998;simp[↓hR.ln,ur,g0,g4];simp[DF,g3];exact⟨fr.1,e1.n,fun b hb=>by rw[fr.2 b hb];exact e1.g b hb⟩
end Ln
namespace Ln
open Go.Sx Go
def QR(c:AV)(len:Nat)(h:T ah)(nx:Key)(oQ:Option Key):Prop:=(c=.nils∧len=0∧oQ=none)∨
 (∃(b:Key) (off:Nat) (q:List Int),oQ=some b∧c=.slice b off len 1∧ae b h=some (.cells (ag eI q) .part)∧q.length=off+len∧b.toNat<nx.toNat)∨
 (∃(t:Key) (q:List Int),oQ=some t∧c=.sl (ag eI q) len 1 (.tok t)∧q.length=len∧ae t h=some .tok∧t.toNat<nx.toNat)
section
variable{c:AV}{len:Nat}{h h':T ah}{nx nx':Key}{oQ:Option Key}
theorem QR.lt(g:QR c len h nx oQ):∀b,oQ=some b→b.toNat<nx.toNat:=by
 intro b hb;rcases g with⟨_,_,e⟩|⟨b',off,q,e,_,_,_,h4⟩|⟨t,q,e,_,_,_,h4⟩
 ·rw[hb]at e;cases e
 ·rw[hb]at e;cases e;exact h4
 ·rw[hb]at e;cases e;exact h4
theorem QR.cy(g:QR c len h nx oQ)(hn:nx.toNat≤nx'.toNat)(hk:∀b,oQ=some b→ae b h'=ae b h):QR c len h' nx' oQ:=by
 rcases g with g|⟨b,off,q,e,h1,h2,h3,h4⟩|⟨t,q,e,h1,h2,h3,h4⟩
 ·exact .inl g
 ·exact .inr (.inl ⟨b,off,q,e,h1,by rw[hk b e];exact h2,h3,by omega⟩)
 ·exact .inr (.inr ⟨t,q,e,h1,h2,by rw[hk t e];exact h3,by omega⟩)
theorem QR.ext(g:QR c len h nx oQ)(e:Ext h nx h' nx'):QR c len h' nx' oQ:=g.cy e.n fun b hb=>e.g b (g.lt b hb)
theorem QR.add(g:QR c len h nx oQ)(hl:len+1≤1048576)(x:Int):∃c' h' nx' o',appendTo 1 c [I x] 1 h nx=.val c' h' nx'∧QR c' (len+1) h' nx' o'∧qw h nx oQ h' nx' o'∧c'.aP=true∧c'.cells=[c']:=by
 have s1:=kTSu nx;have hw:Cx 1=false:=rfl;rcases g with⟨rfl,rfl,rfl⟩|⟨b,off,q,rfl,rfl,h2,h3,h4⟩|⟨t,q,rfl,rfl,h2,h3,h4⟩
 ·exact⟨.slice nx 0 1 1,av nx (some (.cells (ag eI [x]) .part)) h,nx.succ,some nx,by simp[ag,eI],.inr (.inl ⟨nx,0,[x],rfl,rfl,by simp,rfl,by omega⟩),⟨by omega,fun b hb _=>az hb,.inr ⟨nx,rfl,fa _⟩⟩,rfl,rfl⟩
 ·have hr:(ag eI q).length=off+len:=by rw[kX,h3]
  have hd:List.drop off (ag eI q)=ag eI (q.drop off):=by have:=CB.drop q off;simpa using this
  refine⟨.sl (ag eI (q.drop off ++ [x])) (len+1) 1 (.tok nx),av nx (some .tok) (av b none h),nx.succ,some nx,?_,.inr (.inr ⟨nx,_,rfl,rfl,by simp;omega,by simp,by omega⟩),⟨by omega,fun y hy hk=>?_,.inr ⟨nx,rfl,fa _⟩⟩,rfl,rfl⟩
  ·simp[hl,h2,hr,hd,hw,fU,fj,eI]
  ·rw[az hy,aR];rintro rfl;exact hk rfl
 ·refine⟨.sl (ag eI (q ++ [x])) (len+1) 1 (.tok nx),av nx (some .tok) (av t none h),nx.succ,some nx,?_,.inr (.inr ⟨nx,_,rfl,rfl,by simp;omega,by simp,by omega⟩),⟨by omega,fun y hy hk=>?_,.inr ⟨nx,rfl,fa _⟩⟩,rfl,rfl⟩
  ·simp[hl,h3,fU,fj,eI]
  ·rw[az hy,aR];rintro rfl;exact hk rfl
theorem QR.ln(g:QR c len h nx oQ){C:bK}{Q:cH}{L:List ay}{tm:T AV}{h2:T ah}{n2 k1 d1:Key}(h1:ae k1 tm=some c):lH C Q (⟨some d1,.lenL (.t k1),none⟩ ::L) tm h2 n2=lH C Q L (av d1 (some (I len)) tm) h2 n2:=by rcases g with⟨rfl,rfl,_⟩|⟨b,off,q,_,rfl,_⟩|⟨t,q,_,rfl,_⟩<;>simp[h1]
theorem QR.head(g:QR c len h nx oQ)(hl:0<len):∃(z:Int) (v:AV),∀{C:bK} {Q:cH} {L:List ay} {tm:T AV} {n2 k1 d1 d2:Key},ae k1 tm=some c→lH C Q (⟨some d1,.indexL 1 (.t k1) (.v (.int .i64 (.lit 0))),none⟩ ::⟨some d2,.load false 1 (.t d1),none⟩ ::L) tm h n2=lH C Q L (av d2 (some (I z)) (av d1 (some v) tm)) h n2:=by
 rcases g with⟨rfl,rfl,_⟩|⟨b,off,q,_,rfl,h2,h3,_⟩|⟨t,q,_,rfl,h2,_⟩
 ·omega
 ·have hr:off<q.length:=by omega
  have hg:=Wu hr;refine⟨q[off],.ptr b off,fun h1=>?_⟩;simp[h1,hl,h2,hr,kX]
 ·have hr:0<q.length:=by omega
  have hd:=Gq hr;have T8:(ag eI q).length=q.length:=kX _;refine⟨q[0],.cref [I q[0]],fun h1=>?_⟩;simp at hd;have tl:1≤q.length:=hr;simp[h1,hl,T8,hd,tl]
theorem QR.tail(g:QR c len h nx oQ)(hl:0<len):∃c',QR c' (len-1) h nx oQ∧c'.aP=true∧c'.cells=[c']∧∀{C:bK} {Q:cH} {L:List ay} {tm:T AV} {h2:T ah} {n2 k1 d1:Key},ae k1 tm=some c→lH C Q (⟨some d1,.sliceL 1 (.t k1) (some (.v (.int .i64 (.lit 1)))) none,none⟩ ::L) tm h2 n2=lH C Q L (av d1 (some c') tm) h2 n2:=by
 rcases g with⟨rfl,rfl,_⟩|⟨b,off,q,rfl,rfl,h2,h3,h4⟩|⟨t,q,rfl,rfl,h2,h3,h4⟩
 ·omega
 ·refine⟨.slice b (off+1) (len-1) 1,.inr (.inl ⟨b,off+1,q,rfl,rfl,h2,by omega,h4⟩),rfl,rfl,fun h1=>?_⟩;have S7:1≤len:=hl;simp[h1,S7]
 ·have hd:List.drop 1 (ag eI q)=ag eI q.tail:=by have:=CB.drop q 1;simpa using this
  have S7:1≤len:=hl;have hql:q.tail.length=len-1:=by rw[List.length_tail,h2]
  refine⟨.sl (ag eI q.tail) (len-1) 1 (.tok t),.inr (.inr ⟨t,q.tail,rfl,rfl,hql,h3,h4⟩),rfl,rfl,fun h1=>?_⟩;have Y1:(ag eI q.tail).length=len-1:=by rw[kX,hql]
  have ht:List.take (len-1) (ag eI q.tail)=ag eI q.tail:=OV (by omega);have hr0:len≤(ag eI q.tail).length+1:=by omega
  simp[h1,S7,hd,hr0,ht]
end
end Ln
