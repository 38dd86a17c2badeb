/- A part of the proof. No condition. -/
import Derived.Test.YtecbfpngkfdkoaaGreatP35
import Derived.Test.YtecbfpngkfdkoaaGreatP34
set_option linter.unusedSimpArgs false
set_option linter.unusedVariables false
set_option linter.unusedSectionVars false
namespace Go.Sx
theorem Rd.ix1{c:AV}{cs:List AV}{h:T ah}{nx:Key}(g:Rd 1 c cs cs.length h nx){i:Nat}(hi:i<cs.length){C:bK}{Q:cH}{L:List ay}{tm:T AV}{n2 k1 k2 d1 d2:Key}(h1:ae k1 tm=some c)(h2:ae k2 tm=some (I i)) :
  lH C Q (⟨some d1,.indexL 1 (.t k1) (.t k2),none⟩ ::⟨some d2,.load false 1 (.t d1),none⟩ ::L) tm h n2=lH C Q L (av d2 (some cs[i]) (av d1 (some (GO 1 i c)) tm)) h n2:=by
 have tx:1≤cs.length-i:=by omega
 have hx:cs[i]?=some cs[i]:=xF hi;have hd:List.take 1 (List.drop i cs)=[cs[i]]:=by rw[zqt hi];rfl
 rcases g with⟨_,_,e⟩|⟨f,rfl⟩|⟨b,k,rfl,hb,_,_⟩
 ·omega
 ·simp[h1,h2,hi,tx,hx,hd,GO]
 ·simp[h1,h2,hi,tx,hx,hd,GO,hb]
end Go.Sx
namespace Ln
open Go.Sx Go
noncomputable def iQ(S:Sys St)(l:List (Cf St))(q:Nat):Bool:=match l[q]? with|some c=>pH S c|none=>false
noncomputable def cW(S:Sys St)(l:List (Cf St))(a:Nat):List Bool:=(List.range l.length).map fun q=>decide (a≤q)&&iQ S l q
theorem om(S:Sys St)(l:List (Cf St))(a:Nat):(cW S l a).length=l.length:=by simp[cW]
theorem LA{S:Sys St}{l:List (Cf St)}{a q:Nat}(hq:q<l.length):(cW S l a).getD q false=(decide (a≤q)&&iQ S l q):=by unfold cW;rw[List.getD_eq_getElem?_getD,List.getElem?_map,List.getElem?_range hq];rfl
theorem ZR(S:Sys St)(l:List (Cf St)):cW S l l.length=List.replicate l.length false:=by refine List.ext_getElem (by simp[cW]) fun q h1 h2=>?_;simp[cW]at h1 ⊢;intro hle;omega
theorem ZP{S:Sys St}{l:List (Cf St)}{p:Nat}(hp:p<l.length):cW S l p=(cW S l (p+1)).set p (iQ S l p):=by
 refine List.ext_getElem (by simp[cW]) fun q h1 h2=>?_;rw[List.getElem_set];by_cases e:p=q
 ·subst e;rw[if_pos rfl];simp[cW]
 ·rw[if_neg e];simp[cW];have:p≤q↔p+1≤q:=by omega
  simp[this]
theorem Wy{S:Sys St}(hS:S.Ok){l:List (Cf St)}(hk:Kept S l.length l){p:Nat}(hp:p<l.length):(∀t∈rowOf S l l[p],p<t.2∧t.2<l.length)∧(S.acc l[p].1||Hv (cW S l (p+1)) (rowOf S l l[p]))=iQ S l p:=by
 have hcp:l[p]?=some l[p]:=xF hp;have Jg:∀x∈S.steps l[p],x.2∈l:=hk.done p l[p] hp hcp;have hup:∀x∈S.steps l[p],p<l.idxOf x.2∧l.idxOf x.2<l.length:=fun x hx=>by obtain⟨q,c'⟩:=x;exact⟨hk.up hS hcp (GG (Jg _ hx)) hx,List.idxOf_lt_length_of_mem (Jg _ hx)⟩
 refine⟨fun t ht=>?_,?_⟩
 ·obtain⟨x,hx,rfl⟩:=Rh.1 ht;exact hup x hx
 ·have hgp:iQ S l p=pH S l[p]:=by unfold iQ;rw[hcp]
  rw[hgp,YL];congr 1;unfold Hv rowOf;rw[List.any_map];rw[Bool.eq_iff_iff,List.any_eq_true,List.any_eq_true];have key:∀x∈S.steps l[p],((fun t:Nat×Nat=>(cW S l (p+1)).getD t.2 false) ∘ fun x:Nat×Cf St=>(x.1,l.idxOf x.2)) x=pH S x.2:=fun x hx=>by
   obtain⟨h1,h2⟩:=hup x hx;show(cW S l (p+1)).getD (l.idxOf x.2) false=_;rw[LA h2];have h3:iQ S l (l.idxOf x.2)=pH S x.2:=by unfold iQ;rw[GG (Jg x hx)]
   rw[h3,decide_eq_true (by omega),Bool.true_and]
  constructor
  ·rintro⟨x,hx,h⟩;exact⟨x,hx,by rw[key x hx]at h;exact h⟩
  ·rintro⟨x,hx,h⟩;exact⟨x,hx,by rw[key x hx];exact h⟩
def Y3(Wx tm:T AV):Prop:=∀k,(k=K 8∨k=K 9∨k=K 10∨k=K 11∨k=K 12∨k=K 13)→ae k tm=ae k Wx
theorem Y3.refl(tm:T AV):Y3 tm tm:=fun _ _=>rfl
theorem Y3.set{Wx tm:T AV}(h:Y3 Wx tm){k:Key}{v:Option AV}(hk:14≤k.toNat):Y3 Wx (av k v tm):=fun k' HF=>by
 have h8:(K 8).toNat=8:=by decide
 have h9:(K 9).toNat=9:=by decide
 have h10:(K 10).toNat=10:=by decide
 have h11:(K 11).toNat=11:=by decide
 have h12:(K 12).toNat=12:=by decide
 have h13:(K 13).toNat=13:=by decide
 rw[aR]
 ·exact h k' HF
 ·rintro rfl;rcases HF with rfl|rfl|rfl|rfl|rfl|rfl<;>omega
structure FdH(X:Kn)(mi:Nat)(os:List Op)(cO:AV)(l:List (Cf St))(bj br bm:Key)(cC cS:AV)(cs:List AV)(h:T ah)(nx:Key):Prop where
 vj:ae bj h=Vv (jB X mi cO (bZ mi) (ik os os.length))
 vr:ae br h=Vv [cC,cS,.map bm]
 C:Rd 5 cC (ag eC l) l.length h nx
 S:Rd 1 cS cs cs.length h nx
 lt:bj.toNat<nx.toNat∧br.toNat<nx.toNat
 csl:cs.length=l.length
 row:∀q (hq:q<cs.length),∃c,l[q]?=some c∧iB 2 eT cs[q] (rowOf (aJ X mi os) l c)
theorem FdH.ext{X:Kn}{mi:Nat}{os:List Op}{cO:AV}{l:List (Cf St)}{bj br bm:Key}{cC cS:AV}{cs:List AV}{h h':T ah}{nx nx':Key}(F:FdH X mi os cO l bj br bm cC cS cs h nx)(e:Ext h nx h' nx'):FdH X mi os cO l bj br bm cC cS cs h' nx':=
 ⟨by rw[e.g _ F.lt.1];exact F.vj,by rw[e.g _ F.lt.2];exact F.vr,F.C.ext e,F.S.ext e,by have:=F.lt;have:=e.n;omega,F.csl,F.row⟩
def GvI(X:Kn)(mi:Nat)(os:List Op)(l:List (Cf St))(bj br b14 bg:Key)(h0:T ah)(nx0:Key)(Wx:T AV)(m:Nat)(aw:T AV)(h':T ah)(nx':Key):Prop:=∃a:Nat,m=a∧a≤l.length∧Y3 Wx aw∧ae (K 11) aw=some (.ptr bj 0)∧ae (K 13) aw=some (.ptr br 0)∧ae (K 14) aw=some (.ptr b14 0)∧ae (K 15) aw=some (I ((a:Int)-1))∧
 ae b14 h'=Vv [.slice bg 0 l.length 1]∧ae bg h'=Vv (eF (cW (aJ X mi os) l a))∧b14.toNat<nx'.toNat∧bg.toNat<nx'.toNat∧Ext h0 nx0 h' nx'
variable{C:bK}{X:Kn}(S:Std C X)(H:Mk C)
include S
theorem aeM{mi:Nat}{os:List Op}(ho:os.length≤16){cO:AV}{l:List (Cf St)}(hk:Kept (aJ X mi os) l.length l){bj br bm b14 bg:Key}{cC cS:AV}{cs:List AV}{h0:T ah}{nx0:Key}(F:FdH X mi os cO l bj br bm cC cS cs h0 nx0)(ge:nx0.toNat≤b14.toNat∧nx0.toNat≤bg.toNat)(bne:b14≠bg){Wx:T AV}{Q:cH}{m:Nat}{tm:T AV}{h1:T ah}{bF:Key}(A:GvI X mi os l bj br b14 bg h0 nx0 Wx m tm h1 bF)
  (fg:∀aw h' nx',Y3 Wx aw→ae (K 11) aw=some (.ptr bj 0)→ae (K 13) aw=some (.ptr br 0)→ae (K 14) aw=some (.ptr b14 0)→ae b14 h'=Vv [.slice bg 0 l.length 1]→ae bg h'=Vv (eF (cW (aJ X mi os) l 0))→b14.toNat<nx'.toNat→bg.toNat<nx'.toNat→Ext h0 nx0 h' nx'→Q .norm aw h' nx') :
  W C (.loop wM) (aA 0 Q) tm h1 bF:=by
 have rA:=S.r bX;have hSo:=Gu X mi os;have hl:=hk.len;refine W.cM (GvI X mi os l bj br b14 bg h0 nx0 Wx) A ?_;rintro m dD h nx ⟨a,rfl,ha,hKp,g11,g13,g14,g15,v14,vg,ZB,bgn,e0⟩;refine W.of ?_;simp[wM];cases m with
 |zero=>
  have avJ:((0:Nat):Int)-1<0:=by omega
  simp at g15;simp[wN,g15];exact fg _ _ _ ((hKp.set (by decide)).set (by decide)) (by simp[g11]) (by simp[g13]) (by simp[g14]) v14 vg ZB bgn e0
 |succ p=>
  have hp:p<l.length:=by omega
  have ahV:ae (K 15) dD=some (I (p:Int)):=by
   rw[g15];have:((p+1:Nat):Int)-1=(p:Int):=by omega
   rw[this]
  have F1:=F.ext e0;obtain⟨hto,aqq⟩:=Wy hSo hk hp;have bY:=hk.lt _ (Mg hp);have hd:l[p].1<65536:=Lk bY (jL ho);have hpc:p<cs.length:=by rw[F.csl];exact hp
  obtain⟨c,hc1,Lt⟩:=F.row p hpc;have hcp:c=l[p]:=by rw[xF hp]at hc1;exact(Option.some.inj hc1).symm
  subst hcp;have hnn:¬(p:Int)<0:=by omega
  simp[wN,ahV,hnn];simp[↓Rd.avK dE F1.C hp,CC,g11,g13,g14,ahV,v14,F1.vr,rA,zQ];refine(ac0 S ho hd F1.vj F1.lt.1).mono ?_;rintro o h2 aU ⟨rfl,e2⟩;have n2:=e2.n;have alO:ae b14 h2=Vv [.slice bg 0 l.length 1]:=by rw[e2.g _ ZB];exact v14
  have vg2:ae bg h2=Vv (eF (cW (aJ X mi os) l (p+1))):=by rw[e2.g _ bgn];exact vg
  have sq:AV.beq (.slice bg 0 l.length 1) (.slice bg 0 l.length 1)=true:=beq_refl _ rfl;have MB:(eF (cW (aJ X mi os) l (p+1))).length=l.length:=by rw[Gw,om]
  have h1p:p+1≤l.length:=hp;have Uv:=SV (l:=cW (aJ X mi os) l (p+1)) (i:=p) (by rw[om];exact hp) (Ag os l[p].1);have e02:=e0.trans e2;have F2:=F.ext e02;simp[g14,ahV,alO,vg2,sq,hp,MB,h1p,Uv];have e3:Ext h0 nx0 (av bg (Vv (eF ((cW (aJ X mi os) l (p+1)).set p (Ag os l[p].1)))) h2) aU:=e02.put ge.2;have v143:ae b14 (av bg (Vv (eF ((cW (aJ X mi os) l (p+1)).set p (Ag os l[p].1)))) h2)=Vv [.slice bg 0 (cW (aJ X mi os) l (p+1)).length 1]:=by rw[aR _ _ _ _ bne,om];exact alO
  have vg3:ae bg (av bg (Vv (eF ((cW (aJ X mi os) l (p+1)).set p (Ag os l[p].1)))) h2)=Vv (eF ((cW (aJ X mi os) l (p+1)).set p (Ag os l[p].1))):=by simp
  generalize av bg (Vv (eF ((cW (aJ X mi os) l (p+1)).set p (Ag os l[p].1)))) h2=h3 at *;have F3:=F.ext e3;have hR3:=Lt.rd h3 aU;have ahW:(rowOf (aJ X mi os) l l[p]).length≤1000:=by unfold rowOf Sys.steps;rw[List.length_map];have:=List.length_filterMap_le ((aJ X mi os).step l[p]) (List.range (aJ X mi os).n);rw[List.length_range]at this;have hn:(aJ X mi os).n=os.length:=rfl;omega
  have hg0:(cW (aJ X mi os) l (p+1)).length=l.length:=om _ _ _;simp[↓F3.S.ix1 hpc,↓hR3.ln,CD,g13,ahV,F3.vr];refine aqa (C:=C) Lt ahW (base:=cW (aJ X mi os) l (p+1)) (p:=p) (by rw[hg0];exact hp) (by rw[hg0];exact hl) (fun t ht=>by rw[hg0];exact hto t ht) (v0:=Ag os l[p].1) (b14:=b14) (bg:=bg) (h:=h3) (nx:=aU) v143 (by omega) (by omega) bne (P:=fun tm=>Y3 Wx tm∧ae (K 11) tm=some (.ptr bj 0)∧ae (K 13) tm=some (.ptr br 0)) ?_ (m:=(rowOf (aJ X mi os) l l[p]).length) ⟨0,by simp,by omega,⟨?_,by simp[g11],by simp[g13]⟩,by simp[g14],by simp[ahV],by simp,by simp,by simp,?_,fa _,fun _ _ _=>rfl⟩ ?_
  ·rintro tm k v ⟨h1,h2,h3⟩ HF;have K4:14≤k.toNat:=by
    have h17:(K 17).toNat=17:=by decide
    have h79:(K 79).toNat=79:=by decide
    rcases HF with rfl|rfl|h<;>omega
   have h11:(K 11).toNat=11:=by decide
   have h13:(K 13).toNat=13:=by decide
   have n11:(K 11)≠k:=fun e=>by rw[e]at h11;omega
   have n13:(K 13)≠k:=fun e=>by rw[e]at h13;omega
   exact⟨h1.set K4,by rw[aR _ _ _ _ n11];exact h2,by rw[aR _ _ _ _ n13];exact h3⟩
  ·repeat' (first|exact hKp|refine Y3.set ?_ (by decide))
  ·have:Hv (cW (aJ X mi os) l (p+1)) (List.take 0 (rowOf (aJ X mi os) l l[p]))=false:=by rw[List.take_zero];rfl
   rw[this,Bool.or_false];exact vg3
  ·rintro aw h' nx' ⟨q,q11,q13⟩ q15 q14 vg' hn' hf';have hga:(Ag os l[p].1||Hv (cW (aJ X mi os) l (p+1)) (rowOf (aJ X mi os) l l[p]))=iQ (aJ X mi os) l p:=aqq;rw[hga,←ZP hp]at vg';simp;simp[CE,q15];rw[aC (by omega) (by omega)];refine⟨p,by omega,p,rfl,by omega,?_,by simp[q11],by simp[q13],by simp[q14],by simp,by rw[hf' b14 (by omega) bne];rw[←hg0];exact v143,vg',by omega,by omega,⟨by have:=e3.n;omega,fun b hb=>?_⟩⟩
   ·repeat' (first|exact q|refine Y3.set ?_ (by decide))
   ·have:=e3.n;have g1:=ge.1;have g2:=ge.2;rw[hf' b (by omega) (fun e=>by rw[e]at hb;omega)];exact e3.g b hb
end Ln
namespace Ln
open Go.Sx Go
def GdB(b14 bg:Key)(gv:List Bool)(h:T ah)(nx:Key):Prop:=ae b14 h=Vv [.slice bg 0 gv.length 1]∧ae bg h=Vv (eF gv)∧b14.toNat<nx.toNat∧bg.toNat<nx.toNat
theorem GdB.ext{b14 bg:Key}{gv:List Bool}{h h':T ah}{nx nx':Key}(g:GdB b14 bg gv h nx)(e:Ext h nx h' nx'):GdB b14 bg gv h' nx':=⟨by rw[e.g _ g.2.2.1];exact g.1,by rw[e.g _ g.2.2.2];exact g.2.1,by have:=g.2.2.1;have:=e.n;omega,by have:=g.2.2.2;have:=e.n;omega⟩
variable{C:bK}{X:Kn}(S:Std C X)
include S
theorem akx{b14 bg:Key}{gv:List Bool}{h:T ah}{nx:Key}(G:GdB b14 bg gv h nx){t:Nat×Nat}(ht:t.2<gv.length):aH C eP [.agg (eT t),.ptr b14 0] h nx (fun o h' nx'=>o=.ret (.bool (gv.getD t.2 false))∧Ext h nx h' nx'):=by
 have s1:=kTSu nx;have hce:(eT t).all AV.aP=true:=vJ.2 (gi.cell _);have hle:(eT t).length=2:=rfl;have he1:(eT t)[1]?=some (I (t.2:Int)):=rfl;refine S.AQ.call ?_;simp[-List.getD_eq_getElem?_getD,xc];simp[-List.getD_eq_getElem?_getD,yV,hce,hle];have e1:=E0 h nx (.cells (eT t) .fix);have b1:ae nx (av nx (Vv (eT t)) h)=Vv (eT t):=by simp
 generalize av nx (Vv (eT t)) h=h1 at *;obtain⟨g1,g2,_,_⟩:=G.ext e1;have MB:(eF gv).length=gv.length:=Gw gv;have MC:∀hh,(eF gv)[t.2]'hh=.bool (gv.getD t.2 false):=fun hh=>by have:=Gx ht;rw[xF hh]at this;rw[Option.some.inj this,List.getD_eq_getElem?_getD,xF ht];rfl
 simp[-List.getD_eq_getElem?_getD,yW,b1,g1,g2,he1,ht,MB,MC];exact e1
def axY(gv:List Bool)(row:List (Nat×Nat))(j:Nat):Prop:=j<row.length∧gv.getD (row.getD j (0,0)).2 false=true∧∀q,q<j→gv.getD (row.getD q (0,0)).2 false=false
def IfI(row:List (Nat×Nat))(gv:List Bool)(c0:AV)(b14:Key)(h:T ah)(nx:Key)(m:Nat)(aw:T AV)(h':T ah)(nx':Key):Prop:=∃j:Nat,m=row.length-j∧j≤row.length∧ae (K 0) aw=some c0∧ae (K 1) aw=some (.fn eP [] [.ptr b14 0])∧ae (K 7) aw=some (I row.length)∧ae (K 8) aw=some (I j)∧Ext h nx h' nx'∧∀q,q<j→gv.getD (row.getD q (0,0)).2 false=false
theorem al5{b14 bg:Key}{gv:List Bool}{h:T ah}{nx:Key}(G:GdB b14 bg gv h nx){row:List (Nat×Nat)}(T8:row.length≤1000)(hto:∀t∈row,t.2<gv.length)(ah7:∃t∈row,gv.getD t.2 false=true){c0:AV}(hc:iB 2 eT c0 row) :
  aH C aX [c0,.fn eP [] [.ptr b14 0]] h nx (fun o h' nx'=>(∃j,axY gv row j∧o=.ret (I (j:Nat)))∧Ext h nx h' nx'):=by
 have r2:=S.r eP;have hR:=hc.rd h nx;refine S.ei.call ?_;simp[cw];simp[dQ];simp[↓hR.ln,dR];refine W.cM (n:=row.length) (IfI row gv c0 b14 h nx) ⟨0,by simp,by omega,by simp,by simp,by simp,by simp,Ext.refl _ _,fun q hq=>absurd hq (by omega)⟩ ?_;rintro m dD h1 bF ⟨j,rfl,hj,g0,g1,g7,g8,e1,pF⟩;refine W.of ?_;simp[dX];by_cases bG:j<row.length
 ·have sZ:(j:Int)<row.length:=by omega
  have hR1:=hc.rd h1 bF;have hz:∀H,bC (aN 9998) (eT row[j]) H=(eT row[j],H):=fun H=>cn (gi.vV _);have hgd:row.getD j (0,0)=row[j]:=by rw[List.getD_eq_getElem?_getD,xF bG];rfl
  simp[dS,g7,g8,sZ];simp[dT,g8];simp[↓hR1.ix gi bG,dU,g0,g1,r2,hz];refine(akx S (G.ext e1) (hto _ (Mg bG))).mono ?_;rintro o h2 aU ⟨rfl,e2⟩;cases hg:gv.getD row[j].2 false with
  |true=>simp;simp[dV];exact⟨⟨j,⟨bG,by rw[hgd];exact hg,pF⟩,rfl⟩,e1.trans e2⟩
  |false=>
   simp;simp[dW,g8];rw[aC (by omega) (by omega)];refine⟨row.length-(j+1),by omega,j+1,rfl,by omega,by simp[g0],by simp[g1],by simp[g7],by simp,e1.trans e2,fun q hq=>?_⟩;by_cases e:q=j
   ·subst e;rw[hgd];exact hg
   ·exact pF q (by omega)
 ·exfalso;obtain⟨t,ht,MC⟩:=ah7;obtain⟨q,hq,rfl⟩:=List.getElem_of_mem ht;have:=pF q (by omega);rw[List.getD_eq_getElem?_getD (l:=row),xF hq]at this;have h2:gv.getD row[q].2 false=false:=this;rw[MC]at h2;cases h2
end Ln
namespace Ln
open Go.Sx Go
variable{C:bK}{X:Kn}(S:Std C X)
include S
theorem aib{c:Cf St}(hk:c.2.kids.length≤3){h:T ah}{nx:Key}:aH C eM [.agg (eC c)] h nx (fun o h' nx'=>o=.ret (.agg (eC c))∧Ext h nx h' nx'):=by
 have rV:=S.r eR;have s1:=kTSu nx;have s2:=kTSu nx.succ;refine S.Ap.call ?_;simp[wS];simp[yB,zP,mh];have e2:=(E0 h nx (.cells (eC c) .fix)).trans (E0 _ nx.succ (.cells [.int .i64 (.lit 0),.int .i64 (.lit 0),.int .i64 (.lit 0),.str 0 0,.nils] .fix));have b1:ae nx (av nx.succ (Vv [.int .i64 (.lit 0),.int .i64 (.lit 0),.int .i64 (.lit 0),.str 0 0,.nils]) (av nx (Vv (eC c)) h))=Vv (eC c):=by rw[az (by omega)];simp
 have b2:ae nx.succ (av nx.succ (Vv [.int .i64 (.lit 0),.int .i64 (.lit 0),.int .i64 (.lit 0),.str 0 0,.nils]) (av nx (Vv (eC c)) h))=Vv [.int .i64 (.lit 0),.int .i64 (.lit 0),.int .i64 (.lit 0),.str 0 0,.nils]:=by simp
 generalize av nx.succ (Vv [.int .i64 (.lit 0),.int .i64 (.lit 0),.int .i64 (.lit 0),.str 0 0,.nils]) (av nx (Vv (eC c)) h)=h2 at *;have ec0:(eC c)[0]?=some (I c.1):=rfl;have aic:(eC c).head?=some (I c.1):=rfl;have et:List.take 4 (eC c).tail=eS c.2:=rfl;have iq:AV.beq (I c.1) (I c.1)=true:=beq_refl _ rfl;simp[yC,b1,ec0,aic,et,mh,rV,y8];refine aH.known (S.s_Clone c.2 hk _ _) ?_;simp[b1,b2,ec0,aic,iq,lenS,uU,PB];rw[td,y8];exact⟨rfl,e2.put (by omega)⟩
omit S in
theorem aid{l:List (Cf St)}{R0:List AV}{j:Nat}(hj:j<l.length)(hR:R0.length=l.length*5):List.take (j*5) (ag eC (l.take j)++R0.drop (j*5))++(eC l[j]++List.drop (j*5+5) (ag eC (l.take j)++R0.drop (j*5)))=ag eC (l.take (j+1))++R0.drop ((j+1)*5):=by
 have bY:(l.take j).length=j:=by rw[V9];omega
 have hr:(ag eC (l.take j)).length=j*5:=by rw[dE.rows,bY]
 rw[List.take_append_of_le_length (by omega),OV (by omega),zqq,hr,List.drop_eq_nil_of_le (by omega),List.nil_append,List.drop_drop];rw[Zz hj,fU,fj,List.append_assoc];congr 3;omega
def CpI(l:List (Cf St))(c0:AV)(R0:List AV)(bn:Key)(h:T ah)(nx:Key)(m:Nat)(aw:T AV)(h':T ah)(nx':Key):Prop:=∃j:Nat,m=l.length-j∧j≤l.length∧ae (K 0) aw=some c0∧ae (K 1) aw=some (.fn eM [] [])∧ae (K 5) aw=some (.slice bn 0 l.length 5)∧ae (K 14) aw=some (I l.length)∧ae (K 15) aw=some (I j)∧ae bn h'=Vv (ag eC (l.take j)++R0.drop (j*5))∧bn.toNat<nx'.toNat∧Ext h nx h' nx'
theorem ah1{l:List (Cf St)}(h0:0<l.length)(hl:l.length≤1024)(BI:∀y∈l,y.2.kids.length≤3){c0:AV}(hc:iB 5 eC c0 l){h:T ah}{nx:Key} :
  aH C cX [c0,.fn eM [] []] h nx (fun o h' nx'=>o=.ret (.slice nx 0 l.length 5)∧ae nx h'=Vv (ag eC l)∧nx.toNat<nx'.toNat∧Ext h nx h' nx'):=by
 have r1:=S.r eM;have s1:=kTSu nx;have hR:=hc.rd h nx;have bU:¬l.length=0:=by omega
 have aAJ:l≠[]:=fun e=>bU (by rw[e];rfl);have NJ:l.length≤1048576:=by omega
 refine S.lu.call ?_;simp[ir];simp[ku];simp[↓hR.ln,kv,bU,aAJ];simp[↓hR.ln,kx,NJ,-repL_eq];have hR0:∀(n:Nat) (a b c d e:AV),(Ll n [a,b,c,d,e] []).length=n*5:=fun n a b c d e=>by rw[repL_eq,List.append_nil];simp
 have avS:=hR0 l.length (.int .i64 (.lit 0)) (.int .i64 (.lit 0)) (.int .i64 (.lit 0)) (.str 0 0) .nils;generalize Ll l.length [AV.int .i64 (.lit 0),.int .i64 (.lit 0),.int .i64 (.lit 0),.str 0 0,.nils] []=R0 at *;have e1:=E0 h nx (.cells R0 .fix);have b1:ae nx (av nx (Vv R0) h)=Vv R0:=by simp
 generalize av nx (Vv R0) h=h1 at *;have hR1:=hc.rd h1 nx.succ;simp[↓hR1.ln,ky];refine W.cM (n:=l.length) (CpI l c0 R0 nx h nx) ⟨0,by simp,by omega,by simp,by simp,by simp,by simp,by simp,by simpa using b1,by omega,e1⟩ ?_;rintro m dD h2 aU ⟨j,rfl,hj,g0,g1,g5,g14,g15,vb,bn,e2⟩;refine W.of ?_;simp[kz];by_cases bG:j<l.length
 ·have sZ:(j:Int)<l.length:=by omega
  have hR2:=hc.rd h2 aU;have Uv:=aid bG avS;have MB:(ag eC (l.take j)++R0.drop (j*5)).length=l.length*5:=by rw[Ho,dE.rows,List.length_drop,V9,avS];omega
  have Hr:j*5+5≤l.length*5:=by omega
  have htx:5≤l.length*5-j*5:=by omega
  simp[fJ,g14,g15,sZ];simp[kB,g15];simp[↓hR2.ix dE bG,kC,g0,g1,g5,r1,zQ];refine(aib S (BI _ (Mg bG))).mono ?_;rintro o h3 cF ⟨rfl,e3⟩;have n3:=e3.n;have vb3:ae nx h3=Vv (ag eC (l.take j)++R0.drop (j*5)):=by rw[e3.g nx (by omega)];exact vb
  simp[vb3,bG,MB,Hr,htx,mh,zP,Uv];simp[kD,g15];rw[aC (by omega) (by omega)];exact⟨l.length-(j+1),by omega,j+1,rfl,by omega,by simp[g0],by simp[g1],by simp[g5],by simp[g14],by simp,by simp,by omega,(e2.trans e3).put (fa _)⟩
 ·have vK:j=l.length:=by omega
  subst vK;have hd:R0.drop (l.length*5)=[]:=List.drop_eq_nil_of_le (by omega);rw[List.take_length,hd,List.append_nil]at vb;simp[fJ,g14,g15];simp[kE,g5];exact⟨vb,by omega,e2⟩
end Ln
namespace Ln
open Go.Sx Go
theorem aeQ{S:Sys St}(hS:S.Ok){l:List (Cf St)}(hk:Kept S l.length l){p:Nat}(hp:p<l.length)(hg:pH S l[p]=true)(ha:S.acc l[p].1=false):(∃t∈rowOf S l l[p],(cW S l 0).getD t.2 false=true)∧∀j,axY (cW S l 0) (rowOf S l l[p]) j→∃(i q:Nat) (c':Cf St),(rowOf S l l[p])[j]?=some (i,q)∧l[q]?=some c'∧p<q∧pH S c'=true∧∀r,Path S c' r→Path S l[p] (i ::r):=by
 have hcp:l[p]?=some l[p]:=xF hp;have Jg:∀x∈S.steps l[p],x.2∈l:=hk.done p l[p] hp hcp;have hgd:∀x∈S.steps l[p],(cW S l 0).getD (l.idxOf x.2) false=pH S x.2:=fun x hx=>by
  have h2:l.idxOf x.2<l.length:=List.idxOf_lt_length_of_mem (Jg _ hx);rw[LA h2];have h3:iQ S l (l.idxOf x.2)=pH S x.2:=by unfold iQ;rw[GG (Jg x hx)]
  rw[h3];simp
 refine⟨?_,fun j hj=>?_⟩
 ·rw[YL,ha,Bool.false_or,List.any_eq_true]at hg;obtain⟨x,hx,hgx⟩:=hg;exact⟨_,Rh.2 ⟨x,hx,rfl⟩,by rw[hgd x hx];exact hgx⟩
 ·obtain⟨h1,h2,h3⟩:=hj;have hlen:(rowOf S l l[p]).length=(S.steps l[p]).length:=by unfold rowOf;rw[List.length_map]
  have hj':j<(S.steps l[p]).length:=by omega
  have DX:∀q (hq:q<(S.steps l[p]).length),(rowOf S l l[p])[q]?=some ((S.steps l[p])[q].1,l.idxOf (S.steps l[p])[q].2):=fun q hq=>by unfold rowOf;rw[List.getElem?_map,xF hq];rfl
  have hD:∀q (hq:q<(S.steps l[p]).length),(cW S l 0).getD ((rowOf S l l[p]).getD q (0,0)).2 false=pH S (S.steps l[p])[q].2:=fun q hq=>by rw[List.getD_eq_getElem?_getD (l:=rowOf S l l[p]),DX q hq];exact hgd _ (Mg hq)
  have hx:=Mg hj';rw[hD j hj']at h2;refine⟨_,_,(S.steps l[p])[j].2,DX j hj',GG (Jg _ hx),?_,h2,fun r hr=>?_⟩
  ·have hx2:((S.steps l[p])[j].1,(S.steps l[p])[j].2)∈S.steps l[p]:=hx;exact hk.up hS hcp (GG (Jg _ hx)) hx2
  ·refine Path.more (a:=(S.steps l[p]).take j) (b:=(S.steps l[p]).drop (j+1)) ha ?_ ?_ hr
   ·have:=List.take_append_drop j (S.steps l[p]);rw[zqt hj']at this;exact this.symm
   ·intro x hxa;obtain⟨q,hq,rfl⟩:=List.getElem_of_mem hxa;have hq1:q<j:=by rw[V9]at hq;omega
    have hq2:q<(S.steps l[p]).length:=by omega
    have:=h3 q hq1;rw[hD q hq2]at this;rw[List.getElem_take];exact Tb.1 this
def OlI(X:Kn)(mi:Nat)(os:List Op)(l:List (Cf St))(bj br b14 bg:Key)(h0:T ah)(nx0:Key)(Wx:T AV)(m:Nat)(aw:T AV)(h':T ah)(nx':Key):Prop:=∃(p:Nat) (pre:List Nat) (c19:AV) (o19:Option Key),m=l.length-p∧p<l.length∧iQ (aJ X mi os) l p=true∧pre.length≤p∧(∀r c,l[p]?=some c→Path (aJ X mi os) c r→∃c0,l[0]?=some c0∧Path (aJ X mi os) c0 (pre++r))∧Y3 Wx aw∧
 ae (K 11) aw=some (.ptr bj 0)∧ae (K 13) aw=some (.ptr br 0)∧ae (K 14) aw=some (.ptr b14 0)∧ae (K 20) aw=some (I (p:Int))∧ae (K 19) aw=some c19∧Gr 1 c19 (ag eI (xM pre)) (xM pre).length h' nx' o19∧(∀b,o19=some b→nx0.toNat≤b.toNat∧b≠b14∧b≠bg)∧GdB b14 bg (cW (aJ X mi os) l 0) h' nx'∧Ext h0 nx0 h' nx'
variable{C:bK}{X:Kn}(S:Std C X)
include S
theorem ZT{mi:Nat}{os:List Op}(ho:os.length≤16){cO:AV}{l:List (Cf St)}(hk:Kept (aJ X mi os) l.length l){bj br bm b14 bg:Key}{cC cS:AV}{cs:List AV}{h0:T ah}{nx0:Key}(F:FdH X mi os cO l bj br bm cC cS cs h0 nx0)(ge:nx0.toNat≤b14.toNat∧nx0.toNat≤bg.toNat){Wx:T AV}{Q:cH}{m:Nat}{tm:T AV}{h1:T ah}{bF:Key}(A:OlI X mi os l bj br b14 bg h0 nx0 Wx m tm h1 bF)
  (fg:∀aw h' nx' pre c19 o19,(∃c0,l[0]?=some c0∧Path (aJ X mi os) c0 pre)→Y3 Wx aw→ae (K 19) aw=some c19→Gr 1 c19 (ag eI (xM pre)) (xM pre).length h' nx' o19→(∀b,o19=some b→nx0.toNat≤b.toNat)→Ext h0 nx0 h' nx'→Q .norm aw h' nx') :
  W C (.loop wR) (aA 4 Q) tm h1 bF:=by
 have rA:=S.r bX;have rI:=S.r aX;have hSo:=Gu X mi os;have hl:=hk.len;refine W.cM (OlI X mi os l bj br b14 bg h0 nx0 Wx) A ?_;rintro m dD h nx ⟨p,pre,c19,o19,rfl,hp,hga,qX,aot,hKp,g11,g13,g14,g20,g19,G19,WC,GB,e0⟩;have F1:=F.ext e0;have bY:=hk.lt _ (Mg hp);have hd:l[p].1<65536:=Lk bY (jL ho);have hcp:l[p]?=some l[p]:=xF hp;have hpc:p<cs.length:=by rw[F.csl];exact hp
 obtain⟨c,hc1,Lt⟩:=F.row p hpc;have Kb:c=l[p]:=by rw[hcp]at hc1;exact(Option.some.inj hc1).symm
 subst Kb;have hgl:pH (aJ X mi os) l[p]=true:=by
  have:iQ (aJ X mi os) l p=pH (aJ X mi os) l[p]:=by unfold iQ;rw[hcp]
  rw[←this];exact hga
 refine W.of ?_;simp[wR];simp[↓F1.C.ix dE hp,CP,g11,g13,g20,F1.vr,rA,zQ];refine(ac0 S ho hd F1.vj F1.lt.1).mono ?_;rintro o h2 aU ⟨rfl,e2⟩;have e02:=e0.trans e2;cases RA:Ag os l[p].1 with
 |true=>
  obtain⟨c0,q1,q2⟩:=aot [] l[p] hcp (.now RA);rw[List.append_nil]at q2;simp;refine fg _ _ _ pre c19 o19 ⟨c0,q1,q2⟩ ?_ (by simp[g19]) (G19.ext e2) (fun b hb=>(WC b hb).1) e02
  repeat' (first|exact hKp|refine Y3.set ?_ (by decide))
 |false=>
  have F2:=F.ext e02;have hR2:=Lt.rd h2 aU;have hz:∀H,aN 9999 cs[p] H=(cs[p],H):=fun H=>Lt.vV _ _;have hzp:∀H,bC (aN 9998) [.ptr b14 0] H=([.ptr b14 0],H):=fun H=>rfl;obtain⟨ah7,aAz⟩:=aeQ hSo hk hp hgl RA;obtain⟨hto,_⟩:=Wy hSo hk hp;have aAA:(cW (aJ X mi os) l 0).length=l.length:=om _ _ _;have ahW:(rowOf (aJ X mi os) l l[p]).length≤1000:=by unfold rowOf Sys.steps;rw[List.length_map];have:=List.length_filterMap_le ((aJ X mi os).step l[p]) (List.range (aJ X mi os).n);rw[List.length_range]at this;have hn:(aJ X mi os).n=os.length:=rfl;omega
  simp;simp[↓F2.S.ix1 hpc,CQ,g13,g14,g20,F2.vr,rI,hz];refine(al5 S (GB.ext e2) ahW (fun t ht=>by rw[aAA];exact(hto t ht).2) ah7 Lt).mono ?_;rintro o h3 cF ⟨⟨j,hj,rfl⟩,e3⟩;obtain⟨ci,q,c',hjq,hq1,hpq,hgq,hpp⟩:=aAz j hj;have bG:j<(rowOf (aJ X mi os) l l[p]).length:=hj.1;have vK:(rowOf (aJ X mi os) l l[p])[j]=(ci,q):=by rw[xF bG]at hjq;exact Option.some.inj hjq
  have EO:=gi.at bG;rw[vK]at EO;have ah8:cs[p]=.sl (ag eT (rowOf (aJ X mi os) l l[p])) (rowOf (aJ X mi os) l l[p]).length 2 .any:=by
   rcases Lt with⟨_,e⟩|e
   ·rw[e]at bG;simp at bG
   ·exact e
  have hrr:=gi.rows (rowOf (aJ X mi os) l l[p]);have h2r:2≤(rowOf (aJ X mi os) l l[p]).length*2-j*2:=by omega
  have t0:(eT (ci,q))[0]?=some (I (ci:Int)):=rfl;have t0':(eT (ci,q)).head?=some (I (ci:Int)):=rfl;have t1:(eT (ci,q))[1]?=some (I (q:Int)):=rfl;have te:eT (ci,q)=[I (ci:Int),I (q:Int)]:=rfl;have s3:=kTSu cF;have e03:=e02.trans e3;have F3:=F.ext e03;have G3:=(G19.ext e2).ext e3;have GB3:=(GB.ext e2).ext e3;have e4:=E0 h3 cF (.cells [I (ci:Int)] .fix);have hol:(xM pre).length=pre.length:=List.length_map ..;obtain⟨Q7,h5,Gv,Q8,ha,G5,F5⟩:=(G3.ext e4).IJ CB (by decide) (by decide) (by omega) (ci:Int);have F35:=(qw.qD e4 o19).trans F5;have hej:eI (ci:Int)=[I (ci:Int)]:=rfl;rw[hej]at ha;have n35:=F35.n;have n03:=e03.n;have aKv:∀b:Key,o19=some b→b.toNat<cF.toNat:=fun b hb=>G3.lt b hb;have ah9:∀b,Q8=some b→nx0.toNat≤b.toNat∧b≠b14∧b≠bg:=fun b hb=>by
   rcases F35.o with e|⟨y,e,hy⟩
   ·rw[e]at hb;exact WC b hb
   ·rw[e]at hb;cases hb;have h1:=GB3.2.2.1;have h2:=GB3.2.2.2;exact⟨by omega,fun e=>by rw[e]at hy;omega,fun e=>by rw[e]at hy;omega⟩
  have e05:Ext h0 nx0 h5 Gv:=⟨by omega,fun b hb=>by rw[F35.g b (by omega) (fun e=>by have:=(WC b e).1;omega)];exact e03.g b hb⟩
  have F5':=F.ext e05;have GB5:GdB b14 bg (cW (aJ X mi os) l 0) h5 Gv:=by obtain⟨q1,q2,q3,q4⟩:=GB3;exact⟨by rw[F35.g b14 q3 (fun e=>(WC b14 e).2.1 rfl)];exact q1,by rw[F35.g bg q4 (fun e=>(WC bg e).2.2 rfl)];exact q2,by omega,by omega⟩
  simp;simp[-appendTo,↓F3.S.ix1 hpc,CR,g13,g19,g20,F3.vr,ah8,bG,hrr,h2r,EO,te,ha];simp[↓F5'.S.ix1 hpc,CT,g13,g20,F5'.vr,ah8,bG,hrr,h2r,EO,te];obtain⟨hql,hqc⟩:=List.getElem?_eq_some_iff.1 hq1;have aAE:iQ (aJ X mi os) l q=true:=by unfold iQ;rw[hq1];exact hgq
  have Zo:xM (pre ++ [ci])=xM pre ++ [(ci:Int)]:=by unfold xM;rw[List.map_append];rfl
  refine⟨l.length-q,by omega,q,pre ++ [ci],Q7,Q8,rfl,hql,aAE,by simp;omega,?_,?_,by simp[g11],by simp[g13],by simp[g14],by simp,by simp,by rw[Zo];exact G5,ah9,GB5,e05⟩
  ·intro r c hc hr;have Kb:c=c':=by rw[hq1]at hc;exact(Option.some.inj hc).symm
   subst Kb;obtain⟨c0,z1,z2⟩:=aot (ci ::r) l[p] hcp (hpp r hr);exact⟨c0,z1,by simpa using z2⟩
  ·repeat' (first|exact hKp|refine Y3.set ?_ (by decide))
end Ln
namespace Ln
open Go.Sx Go
variable{C:bK}{X:Kn}(S:Std C X)
include S
end Ln
namespace Ln
open Go.Sx Go
def ahY(X:Kn)(i:Nat)(l:List Ev)(h:T ah)(nx:Key)(o:Out)(h':T ah)(nx':Key):Prop:=Ext h nx h' nx'∧
 ((mj X i l≠0∧o=.ret (.tuple [.nils,.agg [.nils],I (mj X i l)]))∨
  (mj X i l=0∧((On (aJ X i (bO 0 l)) 1025 0 [(0,bZ i)]=none∧o=.ret (.tuple [.nils,.agg [.nils],I 4]))∨
   ∃L,On (aJ X i (bO 0 l)) 1025 0 [(0,bZ i)]=some L∧Kept (aJ X i (bO 0 l)) L.length L∧(∀y∈L,gV i y.2)∧((∃p cR,Path (aJ X i (bO 0 l)) (0,bZ i) p∧iB 1 eI cR (xM p)∧o=.ret (.tuple [cR,.agg [.nils],I 0]))∨
    (¬Good (aJ X i (bO 0 l)) (0,bZ i)∧∃cR,iB 5 eC cR (kl L)∧o=.ret (.tuple [.nils,.agg [cR],I 0]))))))
theorem ZQ(S:Sys St)(l:List (Cf St)):Ll l.length [AV.bool false] []=eF (cW S l l.length):=by rw[ZR,repL_eq,List.append_nil];unfold eF;rw[List.map_replicate];simp
variable{C:bK}{X:Kn}(S:Std C X)(H:Mk C)
include S H
theorem ahZ{i:Nat}(hi:i=2){ev:AV}{l:List Ev}(hv:iB 8 eE ev l)(hl:YY l)(vz:bI [] l=0→∀o∈bO 0 l,before o o=false){h:T ah}{nx:Key} :
  aH C jZ [X.m,fE i,ev,X.lim] h nx (ahY X i l h nx):=by
 have s1:=kTSu nx;have s2:=kTSu nx.succ;have s3:=kTSu nx.succ.succ;have rb:=S.r lp;have rE:=S.r dM;have rC:=S.r cX;have rS:C.raw bV=true:=S.rw (by decide);have hz:∀H,aN 9999 ev H=(ev,H):=fun H=>hv.vV _ _;have vW:(bO 0 l).length≤16:=by have:=vX l 0;have:=hl.len;omega
 refine S.HG.call ?_;simp[E6];simp[E7,Kn.m,Kn.lim];have e2:=((E0 h nx (.cells [.sl X.rows 7 45 .any] .fix)).trans (E0 _ nx.succ (.cells [I X.lf,I X.lb] .fix))).trans (E0 _ nx.succ.succ (.cells [.nils] .fix));have Rz:ae nx (av nx.succ.succ (Vv [.nils]) (av nx.succ (Vv [I X.lf,I X.lb]) (av nx (Vv [.sl X.rows 7 45 .any]) h)))=Vv [.sl X.rows 7 45 .any]:=by rw[az (by omega),az (by omega)];simp
 have bl2:ae nx.succ (av nx.succ.succ (Vv [.nils]) (av nx.succ (Vv [I X.lf,I X.lb]) (av nx (Vv [.sl X.rows 7 45 .any]) h)))=Vv [I X.lf,I X.lb]:=by rw[az (by omega)];simp
 have b92:ae nx.succ.succ (av nx.succ.succ (Vv [.nils]) (av nx.succ (Vv [I X.lf,I X.lb]) (av nx (Vv [.sl X.rows 7 45 .any]) h)))=Vv [.nils]:=by simp
 generalize av nx.succ.succ (Vv [.nils]) (av nx.succ (Vv [I X.lf,I X.lb]) (av nx (Vv [.sl X.rows 7 45 .any]) h))=h2 at *;simp[E8,Rz,bl2,rb,hz];refine(ah0 S hi hv hl).mono ?_;rintro o h3 cF ⟨e3,hR⟩;have NK:=e2.trans e3;have n3:=e3.n;have b93:ae nx.succ.succ h3=Vv [.nils]:=by rw[e3.g _ (by omega)];exact b92
 rcases hR with⟨bU,rfl⟩|⟨NI,bj,cO,rfl,Ps,hc,bj0,bjn⟩
 ·simp;simp[wO,bq bU];simp[E9,b93];exact⟨NK.put (by omega),.inl ⟨bU,rfl⟩⟩
 ·obtain⟨SQ,qx⟩:=MG hi hl NI;have hbo:=vz SQ;simp;simp[wO];simp[Fa,rE];refine(ZS S H hi qx hbo vW hc Ps bjn).mono ?_;rintro o h4 jw ⟨e4,hR⟩;have UA:=NK.trans e4;have n4:=e4.n;have b94:ae nx.succ.succ h4=Vv [.nils]:=by rw[e4.g _ (by omega)];exact b93
  have ZN:ae bj h4=Vv (jB X i cO (bZ i) (ik (bO 0 l) (bO 0 l).length)):=by rw[e4.g bj bjn];exact Ps
  rcases hR with⟨nC,rfl⟩|⟨L,br,cC,cS,cs,nC,rfl,kp,h0,BI,G⟩
  ·simp;simp[wP];simp[Fb,b94];exact⟨UA.put (by omega),.inr ⟨NI,.inl ⟨nC,rfl⟩⟩⟩
  ·simp;simp[wP];obtain⟨bm,oC,E,R⟩:=G.R;obtain⟨oS,GS⟩:=G.B;have F:FdH X i (bO 0 l) cO L bj br bm cC cS cs h4 jw:=⟨ZN,R.xG,R.C.rd,GS.rd,⟨by omega,R.Wv⟩,G.csl,G.row⟩;have hL:=kp.len;have hL0:0<L.length:=(List.getElem?_eq_some_iff.1 h0).1;have hLc:L.length≤1048576:=by omega
   have t1:=kTSu jw;have t2:=kTSu jw.succ;have hRC:=F.C;simp[↓hRC.ln,Fc,R.xG,hLc,-repL_eq];rw[ZQ (aJ X i (bO 0 l)) L];have e5:=(E0 h4 jw (.cells (eF (cW (aJ X i (bO 0 l)) L L.length)) .fix)).trans (E0 _ jw.succ (.cells [.slice jw 0 L.length 1] .fix));have vg:ae jw (av jw.succ (Vv [.slice jw 0 L.length 1]) (av jw (Vv (eF (cW (aJ X i (bO 0 l)) L L.length))) h4))=Vv (eF (cW (aJ X i (bO 0 l)) L L.length)):=by rw[az (by omega)];simp
   have v14:ae jw.succ (av jw.succ (Vv [.slice jw 0 L.length 1]) (av jw (Vv (eF (cW (aJ X i (bO 0 l)) L L.length))) h4))=Vv [.slice jw 0 L.length 1]:=by simp
   generalize av jw.succ (Vv [.slice jw 0 L.length 1]) (av jw (Vv (eF (cW (aJ X i (bO 0 l)) L L.length))) h4)=h5 at *;have F5:=F.ext e5;have aAp:=F5.C;have hw1:bP .i64 ((L.length:Int)-1)=(L.length:Int)-1:=aC (by omega) (by omega);simp[↓aAp.ln,Fe,F5.vr,hw1];refine aeM S vW kp F (b14:=jw.succ) (bg:=jw) (by omega) (fun e=>by have:=congrArg Key.toNat e;omega) (m:=L.length) ⟨L.length,rfl,fa _,Y3.refl _,by simp,by simp,by simp,by simp,v14,vg,by omega,by omega,e5⟩ ?_;intro aw h6 xI hKp q11 q13 q14 w14 wg ZB bgn e6;have q9:=hKp (K 9) (.inr (.inl rfl));simp at q9;have e26:=UA.trans e6;have n6:=e6.n;have b96:ae nx.succ.succ h6=Vv [.nils]:=by rw[e6.g _ (by omega)];exact b94
   have MB:(eF (cW (aJ X i (bO 0 l)) L 0)).length=L.length:=by rw[Gw,om]
   have hg0:∀hh,(eF (cW (aJ X i (bO 0 l)) L 0))[0]'hh=.bool (pH (aJ X i (bO 0 l)) (0,bZ i)):=fun hh=>by
    have bY:0<(cW (aJ X i (bO 0 l)) L 0).length:=by rw[om];exact hL0
    have h1:=Gx bY;rw[xF hh]at h1;rw[Option.some.inj h1];have h2:=LA (S:=aJ X i (bO 0 l)) (l:=L) (a:=0) hL0;rw[List.getD_eq_getElem?_getD,xF bY]at h2;have h3:iQ (aJ X i (bO 0 l)) L 0=pH (aJ X i (bO 0 l)) (0,bZ i):=by unfold iQ;rw[h0]
    rw[h3]at h2;simpa using h2
   simp;simp[CG,q14,w14,wg,hL0,MB,hg0];refine⟨fun hgf=>?_,fun MC=>?_⟩
   ·have t3:=kTSu xI;have hk3:∀y∈L,y.2.kids.length≤3:=fun y hy=>EJ (BI y hy);have GC6:=R.C.ext e6;obtain⟨hiC,Je⟩:=Gr.EN dE GC6 9998;have F6:=F.ext e6;have avM:∀b,oC=some b→cF.toNat≤b.toNat:=fun b hb=>(R.ow b (.inl hb)).2.2;simp[CH,q13,F6.vr,rC];generalize hcC:(aN 9999 cC h6).1=cC' at *;generalize hh7:(aN 9999 cC h6).2=h7 at *;refine(ah1 S hL0 hL hk3 hiC (h:=h7) (nx:=xI)).mono ?_;rintro o h8 nx8 ⟨rfl,vn,vlt,e8⟩;have t4:=kTSu nx8;have n8:=e8.n;simp;have b97:ae nx.succ.succ h7=Vv [.nils]:=by rw[Je _ (fun e=>by have:=avM _ e;omega)];exact b96
    have b98:ae nx.succ.succ h8=Vv [.nils]:=by rw[e8.g _ (by omega)];exact b97
    have low:∀b:Key,b.toNat<nx.toNat→ae b h8=ae b h:=fun b hb=>by rw[e8.g b (by omega),Je b (fun e=>by have:=avM _ e;omega)];exact e26.g b hb
    have v18:ae nx8 (av nx8 (Vv [.slice xI 0 L.length 5]) h8)=Vv [.slice xI 0 L.length 5]:=by simp
    have vn9:ae xI (av nx8 (Vv [.slice xI 0 L.length 5]) h8)=Vv (ag eC L):=by rw[az (by omega)];exact vn
    have b99:ae nx.succ.succ (av nx8 (Vv [.slice xI 0 L.length 5]) h8)=Vv [.nils]:=by rw[az (by omega)];exact b98
    have aAr:∀b:Key,b.toNat<nx.toNat→ae b (av nx8 (Vv [.slice xI 0 L.length 5]) h8)=ae b h:=fun b hb=>by rw[az (by omega)];exact low b hb
    generalize av nx8 (Vv [.slice xI 0 L.length 5]) h8=h9 at *;simp[CI,v18,rS];refine .inl ⟨_,_,_,H.ah2 L xI h9 nx8.succ hk3 kp.nodup hL vn9,?_⟩;simp;have n68:nx8≠xI:=fun e=>by rw[e]at vlt;omega
    have n62:nx.succ.succ≠xI:=fun e=>by rw[←e]at n6;omega
    have v182:ae nx8 (av xI (Vv (ag eC (kl L))) h9)=Vv [.slice xI 0 L.length 5]:=by rw[aR _ _ _ _ n68];exact v18
    have b9a:ae nx.succ.succ (av xI (Vv (ag eC (kl L))) h9)=Vv [.nils]:=by rw[aR _ _ _ _ n62];exact b99
    have vna:ae xI (av xI (Vv (ag eC (kl L))) h9)=Vv (ag eC (kl L)):=by simp
    have aAs:∀b:Key,b.toNat<nx.toNat→ae b (av xI (Vv (ag eC (kl L))) h9)=ae b h:=fun b hb=>by rw[az (by omega)];exact aAr b hb
    generalize av xI (Vv (ag eC (kl L))) h9=ha at *;have hsl:(kl L).length=L.length:=by unfold kl;rw[List.length_mergeSort]
    have hrw:(ag eC (kl L)).length=L.length*5:=by rw[dE.rows,hsl]
    have vnb:∀B,ae xI (av nx.succ.succ B ha)=Vv (ag eC (kl L)):=fun B=>by rw[aR _ _ _ _ (Ne.symm n62)];exact vna
    simp[CJ,v182,b9a,q9];have hz:=BN (n:=9997) (b:=xI) (len:=L.length) (sz:=5) (H:=av nx.succ.succ (Vv [.slice xI 0 L.length 5]) ha) (vnb _) hrw (dE.Er _);rw[hz];refine⟨⟨by omega,fun b hb=>?_⟩,.inr ⟨NI,.inr ⟨L,nC,kp,BI,.inr ⟨Tb.1 hgf,_,.inr (by rw[hsl]),rfl⟩⟩⟩⟩;show ae b (av xI _ (av nx.succ.succ _ ha))=ae b h;rw[az (by omega),az (by omega)];exact aAs b hb
   ·have t3:=kTSu xI;have aAt:iQ (aJ X i (bO 0 l)) L 0=true:=by unfold iQ;rw[h0];exact MC
    simp[CM];have e7:=E0 h6 xI (.cells [] .fix);have v19:ae xI (av xI (Vv []) h6)=Vv []:=by simp
    generalize av xI (Vv []) h6=h7 at *;have e47:=e6.trans e7;have GB:GdB jw.succ jw (cW (aJ X i (bO 0 l)) L 0) h7 xI.succ:=by refine⟨by rw[e7.g _ ZB,om];exact w14,by rw[e7.g _ bgn];exact wg,by omega,by omega⟩
    simp[CN];refine ZT S vW kp F (b14:=jw.succ) (bg:=jw) (by omega) (m:=L.length) ⟨0,[],.slice xI 0 0 1,some xI,by simp,hL0,aAt,by simp,fun r c hc hr=>⟨c,hc,by simpa using hr⟩,Y3.refl _,by simp[q11],by simp[q13],by simp[q14],by simp,by simp,.inr (.inl ⟨xI,.fix,rfl,rfl,v19,by omega,rfl,.inr rfl⟩),fun b hb=>by cases hb;exact⟨by omega,fun e=>by rw[e]at ZB;omega,fun e=>by rw[e]at bgn;omega⟩,GB,e47⟩ ?_;intro tm8 h8 nx8 pre c19 o19 hP hK8 g19 G19 WC e8;have p9:=hK8 (K 9) (.inr (.inl rfl));simp[q9]at p9;obtain⟨c0',z1,z2⟩:=hP;have aAu:c0'=(0,bZ i):=by rw[h0]at z1;exact(Option.some.inj z1).symm
    subst aAu;have b98:ae nx.succ.succ h8=Vv [.nils]:=by rw[e8.g _ (by omega)];exact b94
    simp;simp[CO,p9,g19,b98];have n8:=e8.n;have G20:Gr 1 c19 (ag eI (xM pre)) (xM pre).length (av nx.succ.succ (Vv [.nils]) h8) nx8 o19:=G19.cy (fa _) fun b hb=>aR _ _ _ _ (fun e=>by have:=WC b hb;rw[e]at this;omega);obtain⟨aAv,aAw⟩:=Gr.EN CB G20 9998;refine⟨⟨by omega,fun b hb=>?_⟩,.inr ⟨NI,.inr ⟨L,nC,kp,BI,.inl ⟨pre,_,z2,aAv,rfl⟩⟩⟩⟩;rw[aAw b (fun e=>by have:=WC b e;omega),az (by omega),e8.g b (by omega)];exact UA.g b hb
end Ln
namespace Ln
open Go.Sx Go
theorem TH{L:List (Cf St)}(x:Cf St):x∈kl L↔x∈L:=by unfold kl;exact List.mem_mergeSort
theorem XO(s t:St):ig s t≤0∨ig t s≤0:=by
 by_cases h:ig s t≤0
 ·exact .inl h
 ·right;have:ig t s<0:=(zT _ _).2 (by show 0<ig s t;omega);omega
theorem anI{a b c:St}(h:ig a b≤0)(k:ig b c≤0):ig a c≤0:=by
 by_cases h0:ig a b=0
 ·rw[sM.1 h0];exact k
 ·by_cases k0:ig b c=0
  ·rw[←sM.1 k0];exact h
  ·have:=BH (l:=sL a) (m:=sL b) (n:=sL c) (by show ig a b<0;omega) (by show ig b c<0;omega);exact Int.le_of_lt this
theorem akr{L:List (Cf St)}(hn:L.Nodup):(kl L).Pairwise J8:=by
 have h1:(kl L).Pairwise fun a b=>decide (a.1<b.1∨a.1=b.1∧ig a.2 b.2≤0)=true:=by
  unfold kl;refine List.pairwise_mergeSort (fun a b c h k=>?_) (fun a b=>?_) L
  ·rw[decide_eq_true_eq]at h k ⊢;rcases h with h|⟨h,h2⟩<;>rcases k with k|⟨k,k2⟩
   ·exact .inl (by omega)
   ·exact .inl (by omega)
   ·exact .inl (by omega)
   ·exact .inr ⟨by omega,anI h2 k2⟩
  ·rw[Bool.or_eq_true,decide_eq_true_eq,decide_eq_true_eq];rcases Nat.lt_trichotomy a.1 b.1 with h|h|h
   ·exact .inl (.inl h)
   ·rcases XO a.2 b.2 with k|k
    ·exact .inl (.inr ⟨h,k⟩)
    ·exact .inr (.inr ⟨h.symm,k⟩)
   ·exact .inr (.inl h)
 have h2:(kl L).Nodup:=(List.mergeSort_perm L _).nodup_iff.2 hn;refine(h1.and h2).imp fun {a b} ⟨h,bU⟩=>?_;rw[decide_eq_true_eq]at h;rcases h with h|⟨h,k⟩
 ·exact .inl h
 ·refine .inr ⟨h,?_⟩;have:ig a.2 b.2≠0:=fun e=>bU (Prod.ext h (sM.1 e));omega
end Ln
