/- A part of the proof. No condition. -/
import Derived.Test.YtecbfpngkfdkoaaGreatP39
import Derived.Test.YtecbfpngkfdkoaaGreatP7
import Derived.Lib.LaidTab
set_option linter.unusedSimpArgs false
set_option linter.unusedVariables false
set_option linter.unusedSectionVars false
namespace Go.Sx
theorem Fn.callV{C:cD}{f:Nat}{p:fK}(S:Fn C f p){l:List AV}{h:T ag}{nx:Key}{R:Out→T ag→Key→Prop}(hw:HY C p.body (Kt p.res R) [] (fV l (K 0) .nil) h nx):aI C f l h nx R:=
 aI.aMr (S.off _ _ _) S.get S.lS (qJ hw)
theorem CB.intro{C:cD}{l:Key}{args:List AV}{h:T ag}{nx:Key}{R:Out→T ag→Key→Prop}{fn:Nat}{tm dn:T AV}{res:List RV}{ps:List Key}{a b:aA}{d:Key}(M:T AV→T ag→Key→Prop)(hl:aa l h=some (.loop .ready none fn tm res ps a b d))(hz:axR ps args tm=some dn)
  (ha:eP C a (fun e ay h2 aH=>e=.norm∧M ay h2 aH) dn h nx) (hb:∀ ay h2 aH,M ay h2 aH→aa l h2=some (.loop .ready none fn tm res ps a b d)∧eP C b (Oy R l fn tm res ps a b d) ay (au l (some (.loop .busy none fn tm res ps a b d)) h2) aH):CB C l args h nx R:=by
 refine⟨fn,tm,res,ps,a,b,d,⟨_,hl⟩,dn,hz,(lg ha).mono ?_⟩
 rintro e ay h2 aH ⟨he,hm⟩
 exact⟨he,none,(hb _ _ _ hm).1,lg (hb _ _ _ hm).2⟩
section
variable(R:Out→T ag→Key→Prop)(l:Key)(fn:Nat)(tm ay:T AV)(res:List RV)(ps:List Key)(a b:aA)(d:Key)(h:T ag)(nx:Key)
@[simp] theorem azr:Oy R l fn tm res ps a b d .norm ay h nx=((∃ p,aa l h=some (.loop .busy p fn tm res ps a b d))∧R (.ret (.bool true)) (au l (some (.loop .ready none fn tm res ps a b d)) h) nx):=ug Iff.rfl
@[simp] theorem aCn:Oy R l fn tm res ps a b d .ret ay h nx=((∃ p,aa l h=some (.loop .busy p fn tm res ps a b d))∧R (.ret (.bool false)) (au l (some (.loop .done (some .ret) fn tm res ps a b d)) h) nx):=ug Iff.rfl
end
structure yF(n0:Key)(ds:List Key)(h:T ag)(nx:Key):Prop where
 nodup:ds.Nodup
 get:∀ b∈ds,aa b h=some (.dfs false)
 ge:∀ b∈ds,n0.toNat≤b.toNat
 lt:∀ b∈ds,b.toNat<nx.toNat
theorem yF.nil(n0:Key)(h:T ag)(nx:Key):yF n0 [] h nx:=⟨by simp,by simp,by simp,by simp⟩
theorem yF.ew{n0:Key}{ds:List Key}{h h':T ag}{nx nx':Key}(A:yF n0 ds h nx)(hn:nx.toNat≤nx'.toNat)(hg:∀ b,b.toNat<nx.toNat→aa b h=some (.dfs false)→aa b h'=some (.dfs false)):yF n0 ds h' nx':=
 ⟨A.nodup,fun b hb=>hg b (A.lt b hb) (A.get b hb),A.ge,fun b hb=>by have:=A.lt b hb;omega⟩
theorem yF.ext{n0:Key}{ds:List Key}{h h':T ag}{nx nx':Key}(A:yF n0 ds h nx)(e:Ext h nx h' nx'):yF n0 ds h' nx':=A.ew e.n fun b hb hg=>(e.g b hb).trans hg
theorem yF.cons{n0 d:Key}{ds:List Key}{h:T ag}{nx:Key}(A:yF n0 ds h nx)(hd:d∉ds)(hg:aa d h=some (.dfs false))(QJ:n0.toNat≤d.toNat)(bO:d.toNat<nx.toNat):yF n0 (d ::ds) h nx:=by
 refine⟨List.nodup_cons.2 ⟨hd,A.nodup⟩,?_,?_,?_⟩
 ·intro b hb
  rcases Ga.1 hb with rfl|hb
  ·exact hg
  ·exact A.get b hb
 ·intro b hb
  rcases Ga.1 hb with rfl|hb
  ·exact QJ
  ·exact A.ge b hb
 ·intro b hb
  rcases Ga.1 hb with rfl|hb
  ·exact bO
  ·exact A.lt b hb
end Go.Sx
namespace Ln
open Go.Sx Go
theorem Dc{b10 n0:Key}{code:Int}{ds:List Key}{tm:T AV}{h h':T ag}{nx':Key}(h10:aa (K 10) tm=some (.ptr b10 0))(hb:aa b10 h'=some (.cells [I code] .fix))(D:yF n0 ds h' nx')(e:Ext h n0 h' nx') :
  Kt [.cell (K 10) false 1] (fun o h' nx'=>o=.ret (I code)∧Ext h n0 h' nx') .ret ds tm h' nx':=by
 refine⟨D.nodup,D.get,fun h2 h3=>?_⟩
 have hn:b10∉ds:=fun hm=>by have:=D.get b10 hm;rw[hb] at this;cases this
 have Ch:aa b10 h2=some (.cells [I code] .fix):=by rw[h3 b10 hn];exact hb
 refine⟨[I code],by simp[h10,Ch],by simp,e.n,fun b Iq=>?_⟩
 have:b∉ds:=fun hm=>by have:=D.ge b hm;omega
 simp
 rw[h3 b this];exact e.g b Iq
structure RfB(X:Kn)(i:Nat)(os:List Op)(cO c3:AV)(b8 b10 bj b15 n0:Key)(h0:T ag)(ds:List Key)(tm:T AV)(h:T ag)(nx:Key):Prop where
 a:RfA X i os cO c3 b8 b10 bj tm h nx
 eg:aa (K 15) tm=some (.ptr b15 0)
 v15:aa b15 h=some (.cells [.fn aR [] [.ptr b8 0]] .fix)
 lt:b15.toNat<nx.toNat
 d:yF n0 ds h nx
 e:Ext h0 n0 h nx
 ge:n0.toNat≤b10.toNat
theorem RfB.ext{X:Kn}{i:Nat}{os:List Op}{cO c3:AV}{b8 b10 bj b15 n0:Key}{h0:T ag}{ds:List Key}{tm tm':T AV}{h h':T ag}{nx nx':Key}(A:RfB X i os cO c3 b8 b10 bj b15 n0 h0 ds tm h nx)(e:Ext h nx h' nx')(h8:aa (K 8) tm'=aa (K 8) tm)(h10:aa (K 10) tm'=aa (K 10) tm)(h11:aa (K 11) tm'=aa (K 11) tm)(h15:aa (K 15) tm'=aa (K 15) tm) :
  RfB X i os cO c3 b8 b10 bj b15 n0 h0 ds tm' h' nx':=
 ⟨A.a.ext e h8 h10 h11,h15.trans A.eg,(e.g b15 A.lt).trans A.v15,by have:=e.n;have:=A.lt;omega,A.d.ext e,A.e.trans e,A.ge⟩
def ayb(S:Sys St)(L:List (Cf St))(c:Cf St)(k:Nat):Prop:=∀ x∈S.ib c k,x.2∈L
def RfI(X:Kn)(i:Nat)(os:List Op)(cO c3:AV)(b8 b10 bj b15 n0:Key)(h0:T ag)(l:List Ci)(m:Nat)(ds:List Key)(tm':T AV)(h':T ag)(nx':Key):Prop:=∃ j:Nat,m=l.length-j∧j≤l.length∧RfB X i os cO c3 b8 b10 bj b15 n0 h0 ds tm' h' nx'∧aa (K 78) tm'=some c3∧aa (K 79) tm'=some (I l.length)∧aa (K 80) tm'=some (I j)∧Sq (bH X i os) l j
variable{C:cD}{X:Kn}(S:Std C X)
include S
omit S in
theorem RfB.put{i:Nat}{os:List Op}{cO c3:AV}{b8 b10 bj b15 n0 lk:Key}{h0:T ag}{ds:List Key}{tm:T AV}{h:T ag}{nx:Key}{v:Option ag}(A:RfB X i os cO c3 b8 b10 bj b15 n0 h0 ds tm h nx)(h1:∀ l k,aa lk h≠some (.cells l k))(h2:aa lk h≠some (.dfs false))(QJ:n0.toNat≤lk.toNat) :
  RfB X i os cO c3 b8 b10 bj b15 n0 h0 ds tm (au lk v h) nx:=by
 have hc:∀ b l k,aa b h=some (.cells l k)→aa b (au lk v h)=some (.cells l k):=fun b l k hb=>by
  rw[bG _ _ _ _ (by rintro rfl;exact h1 l k hb)];exact hb
 refine⟨⟨A.a.k8,A.a.bZ,A.a.cF,hc _ _ _ A.a.v8,hc _ _ _ A.a.v10,hc _ _ _ A.a.vj,A.a.lt⟩,A.eg,hc _ _ _ A.v15,A.lt,A.d.ew (fh _) fun b _ hg=>?_,A.e.put QJ,A.ge⟩
 rw[bG _ _ _ _ (by rintro rfl;exact h2 hg)];exact hg
structure RrI(X:Kn)(i:Nat)(os:List Op)(cO c3:AV)(b8 b10 bj b15 n0:Key)(h0:T ag)(ds:List Key)(tm:T AV)(L:List (Cf St))(c:Cf St)(b2 b3 d lk:Key)(fn:Nat)(res:List RV)(ps:List Key)(a b:aA)(k:Nat)(h:T ag)(nx:Key):Prop where
 fb:RfB X i os cO c3 b8 b10 bj b15 n0 h0 (d ::ds) tm h nx
 fl:aa lk h=some (.loop .ready none fn tm res ps a b d)
 f2:aa b2 h=some (.cells [.ptr bj 0] .fix)
 f3:aa b3 h=some (.cells (eC c) .fix)
 flt:lk.toNat<nx.toNat∧b2.toNat<nx.toNat∧b3.toNat<nx.toNat
 fin:ayb (bH X i os) L c k
omit S in
theorem ayb.succ{Sy:Sys St}{L:List (Cf St)}{c:Cf St}{k:Nat}(h:ayb Sy L c k)(hk:∀ x,Sy.step c k=some x→x.2∈L):ayb Sy L c (k+1):=by
 intro x hx
 rw[tT,List.mem_append] at hx
 rcases hx with hx|hx
 ·exact h x hx
 ·cases hs:Sy.step c k with
  |none=>rw[hs] at hx;simp at hx
  |some y=>
   rw[hs] at hx
   simp at hx
   subst hx
   exact hk _ hs
theorem arz{i:Nat}(hi:i<3){os:List Op}(nq:jR i os=0)(mB:∀ o∈os,before o o=false)(ho:os.length≤16){cO:AV}(hcO:jN 10 eO cO os){l:List Ci}(hl:l.length≤10000)(wQ:∀ y∈l,dR i y.2)(hf:cZ os.length l){c3:AV}(hc:jN 5 eD c3 l){b8 b10 bj b15 n0 b2 b3:Key}{h0:T ag}{c:Cf St}(bO:c.1<2^os.length)(hs:dR i c.2)
  {Q:pA} {ds:List Key} {tm:T AV} {h:T ag} {nx:Key} (B:RfB X i os cO c3 b8 b10 bj b15 n0 h0 ds tm h nx) (g89:aa (K 89) tm=some (.fn bX [] [.ptr b2 0,.ptr b3 0])) (v2:aa b2 h=some (.cells [.ptr bj 0] .fix)) (v3:aa b3 h=some (.cells (eC c) .fix)) (lt:b2.toNat<nx.toNat∧b3.toNat<nx.toNat)
  (vn:∀ ds h' nx',aa b10 h'=some (.cells [I 18] .fix)→yF n0 ds h' nx'→Ext h0 n0 h' nx'→¬ (∀ x∈(bH X i os).steps c,x.2∈l.map jJ)→Q .ret ds tm h' nx')
  (aF1:∀ ds h' nx',RfB X i os cO c3 b8 b10 bj b15 n0 h0 ds tm h' nx'→(∀ x∈(bH X i os).steps c,x.2∈l.map jJ)→Q .norm ds tm h' nx') :
  V C (.rangeF (.t (K 89)) [K 90,K 91] (.ops aw) (.block 5 (.seq (.ops gM) (.cond (.t (K 95)) (.seq (.ops gO) .ret) .skip)))) Q ds tm h nx:=by
 have rH:C.raw aR=false:=S.nr (by decide)
 have hd:c.1<65536:=JJ bO (kn ho)
 have s1:=kTSu nx
 have s2:=kTSu nx.succ
 have n0x:=B.e.n
 have hk3:∀ y∈l,y.2.kids.length≤3:=fun y hy=>Ah (wQ y hy)
 have auO:l.Pairwise D9:=by
  have:=hf.sorted
  rw[List.pairwise_map] at this
  exact this.imp_of_mem fun ha hb Us=>(LU (hf.pos _ ha) (hf.pos _ hb)).1 Us
 refine V.rangeF (g:=bX) (first:=[]) (cap:=[.ptr b2 0,.ptr b3 0]) g89 S.gY.off ?_
 intro fn res
 have e1:=(E0 h nx (.dfs false)).trans (E0 _ nx.succ (.loop .ready none fn tm res [K 90,K 91] (.ops aw) (.block 5 (.seq (.ops gM) (.cond (.t (K 95)) (.seq (.ops gO) .ret) .skip))) nx))
 generalize hb5:(aA.block 5 (.seq (.ops gM) (.cond (.t (K 95)) (.seq (.ops gO) .ret) .skip)))=body at *
 have P3:nx∉ds:=fun hm=>by have:=B.d.lt nx hm;omega
 have gd:aa nx (Ij fn tm res [K 90,K 91] (.ops aw) body h nx)=some (.dfs false):=by
  unfold Ij;rw[ax (by omega)];simp
 have gl:aa nx.succ (Ij fn tm res [K 90,K 91] (.ops aw) body h nx)=some (.loop .ready none fn tm res [K 90,K 91] (.ops aw) body nx):=by
  unfold Ij;simp
 have B1:=B.ext (tm':=tm) e1 rfl rfl rfl rfl
 have B1':RfB X i os cO c3 b8 b10 bj b15 n0 h0 (nx ::ds) tm (Ij fn tm res [K 90,K 91] (.ops aw) body h nx) nx.succ.succ:=⟨B1.a,B1.eg,B1.v15,B1.lt,B1.d.cons P3 gd n0x (by omega),B1.e,B1.ge⟩
 have gl2:∀ b l k,aa b h=some (.cells l k)→b.toNat<nx.toNat→aa b (Ij fn tm res [K 90,K 91] (.ops aw) body h nx)=some (.cells l k):=fun b l k hb Iq=>by rw[show aa b (Ij fn tm res [K 90,K 91] (.ops aw) body h nx)=aa b h from e1.g b Iq];exact hb
 refine aqS S hi nq mB ho hcO hd hs (bj:=bj) (b2:=b2) (b3:=b3) (lk:=nx.succ) (c:=c) (s0:=cd i) (Inv:=RrI X i os cO c3 b8 b10 bj b15 n0 h0 ds tm (l.map jJ) c b2 b3 nx nx.succ fn res [K 90,K 91] (.ops aw) body) ⟨?_,?_,?_,?_,?_⟩ ⟨B1',gl,gl2 _ _ _ v2 lt.1,gl2 _ _ _ v3 lt.2,by omega,fun x hx=>by simp[Sys.ib] at hx⟩
 ·rintro k h1 bN h2 aH ⟨a1,a2,a3,a4,a5,a6⟩ e
  have n:=e.n
  exact⟨a1.ext e rfl rfl rfl rfl,by rw[e.g _ a5.1];exact a2,by rw[e.g _ a5.2.1];exact a3,by rw[e.g _ a5.2.2];exact a4,by omega,a6⟩
 ·rintro k h1 bN ⟨a1,a2,a3,a4,a5,a6⟩
  exact⟨a1.a.vj,a3,a4,a1.a.lt.2.2,a5.2.1,a5.2.2⟩
 ·rintro k h1 bN hk dL ⟨a1,a2,a3,a4,a5,a6⟩
  exact⟨a1,a2,a3,a4,a5,a6.succ fun x hx=>by rw[dL] at hx;cases hx⟩
 ·rintro k x h1 bN hk dL ⟨a1,a2,a3,a4,a5,a6⟩
  have t1:=kTSu bN
  have hxs:dR i x.2:=IB S hi nq hs (k,x) (by obtain⟨b,e⟩:=O9 (bH X i os) c hk dL;rw[e];simp)
  suffices hs2:∀ R1:Out→T ag→Key→Prop,(∀ h' nx',RrI X i os cO c3 b8 b10 bj b15 n0 h0 ds tm (l.map jJ) c b2 b3 nx nx.succ fn res [K 90,K 91] (.ops aw) body (k+1) h' nx'→R1 (.ret (.bool true)) h' nx')→(∀ h' nx',aqa Q nx nx.succ fn tm res [K 90,K 91] (.ops aw) body ds (.ret (.tuple [])) h' nx'→R1 (.ret (.bool false)) h' nx')→CB C nx.succ [I k,.agg (eC x)] h1 bN R1 from
   hs2 _ (fun _ _ h=>.inl ⟨rfl,h⟩) (fun _ _ h=>.inr ⟨rfl,h⟩)
  intro R1 hT hF
  refine CB.intro (fun ay h2 aH=>aH=bN.succ∧h2=au bN (some (.cells (eC x) .fix)) h1∧aa (K 19) ay=some (.ptr bN 0)∧aa (K 15) ay=aa (K 15) tm∧aa (K 10) ay=aa (K 10) tm) a2 rfl ?_ ?_
  ·simp[aw,Nw,uI]
  ·rintro ay h2 aH ⟨rfl,Uy,g19,g15,DQ⟩
   have e2:=E0 h1 bN (.cells (eC x) .fix)
   have vx:aa bN (au bN (some (.cells (eC x) .fix)) h1)=some (.cells (eC x) .fix):=by simp
   have lk2:aa nx.succ (au bN (some (.cells (eC x) .fix)) h1)=some (.loop .ready none fn tm res [K 90,K 91] (.ops aw) body nx):=by rw[e2.g _ a5.1];exact a2
   have A2:=a1.ext (tm':=tm) e2 rfl rfl rfl rfl
   have v22:aa b2 (au bN (some (.cells (eC x) .fix)) h1)=some (.cells [.ptr bj 0] .fix):=by rw[e2.g _ a5.2.1];exact a3
   have v32:aa b3 (au bN (some (.cells (eC x) .fix)) h1)=some (.cells (eC c) .fix):=by rw[e2.g _ a5.2.2];exact a4
   rw[← Uy] at e2 vx lk2 A2 v22 v32
   clear Uy
   refine⟨lk2,?_⟩
   have nc2:∀ l k,aa nx.succ h2≠some (.cells l k):=fun l k q=>by rw[lk2] at q;cases q
   have pc:∀ (B:Option ag) (b:Key) (l:List AV) (k:CK),aa b h2=some (.cells l k)→aa b (au nx.succ B h2)=some (.cells l k):=fun B b l k hb=>by
    rw[bG _ _ _ _ (by rintro rfl;exact nc2 l k hb)];exact hb
   have A3:=A2.put (v:=some (.loop .busy none fn tm res [K 90,K 91] (.ops aw) body nx)) nc2 (by rw[lk2];simp) (by omega)
   have lk3:aa nx.succ (au nx.succ (some (.loop .busy none fn tm res [K 90,K 91] (.ops aw) body nx)) h2)=some (.loop .busy none fn tm res [K 90,K 91] (.ops aw) body nx):=by simp
   have vx3:=pc (some (.loop .busy none fn tm res [K 90,K 91] (.ops aw) body nx)) _ _ _ vx
   have v23:=pc (some (.loop .busy none fn tm res [K 90,K 91] (.ops aw) body nx)) _ _ _ v22
   have v33:=pc (some (.loop .busy none fn tm res [K 90,K 91] (.ops aw) body nx)) _ _ _ v32
   generalize au nx.succ (some (.loop .busy none fn tm res [K 90,K 91] (.ops aw) body nx)) h2=h3 at *
   have aTo:=hb5
   generalize hrq:Oy R1 nx.succ fn tm res [K 90,K 91] (.ops aw) body nx=RQ
   rw[← hb5]
   simp
   simp[gM,g15,g19,A3.eg,A3.v15,vx3,zD,uI,rH,GD]
   have hm:∀ y:Ci,jJ y=x→0≤y.1→y=R2 x:=fun y e hy=>by
    rw[← e];unfold R2 jJ;exact Prod.ext (by simp;omega) rfl
   have hph:=ap2 S hl hk3 auO (x:=R2 x) (Ah hxs) hc (h:=h3) (nx:=bN.succ) A3.a.v8 A3.a.lt.1
   rw[aj9] at hph
   refine hph.mono ?_
   rintro o h4 DE ⟨rfl,e4⟩
   have x4:R2 x∈l↔x∈l.map jJ:=by
    constructor
    ·intro h;exact Fa.2 ⟨_,h,ane x⟩
    ·intro h
     obtain⟨y,hy,e⟩:=Fa.1 h
     have:=hm y e (hf.pos _ hy)
     rw[← this];exact hy
   have n4:=e4.n
   have A4:=A3.ext (tm':=tm) e4 rfl rfl rfl rfl
   have lk4:aa nx.succ h4=some (.loop .busy none fn tm res [K 90,K 91] (.ops aw) body nx):=by rw[e4.g _ (by omega)];exact lk3
   have v24:aa b2 h4=some (.cells [.ptr bj 0] .fix):=by rw[e4.g _ (by omega)];exact v23
   have v34:aa b3 h4=some (.cells (eC c) .fix):=by rw[e4.g _ (by omega)];exact v33
   have nc4:∀ l k,aa nx.succ h4≠some (.cells l k):=fun l k q=>by rw[lk4] at q;cases q
   have pc4:∀ (B:Option ag) (b:Key) (l:List AV) (k:CK),aa b h4=some (.cells l k)→aa b (au nx.succ B h4)=some (.cells l k):=fun B b l k hb=>by
    rw[bG _ _ _ _ (by rintro rfl;exact nc4 l k hb)];exact hb
   by_cases hxl:x∈l.map jJ
   ·have hxo:=x4.2 hxl
    simp[hxo]
    rw[← hrq]
    simp
    refine⟨⟨_,lk4⟩,hT _ _ ⟨A4.put nc4 (by rw[lk4];simp) (by omega),by simp,pc4 _ _ _ _ v24,pc4 _ _ _ _ v34,by omega,a6.succ fun y hy=>?_⟩⟩
    rw[dL] at hy;cases hy;exact hxl
   ·have hxo:¬ R2 x∈l:=fun q=>hxl (x4.1 q)
    simp[hxo]
    simp[gO,DQ,A4.a.bZ,A4.a.v10]
    rw[← hrq]
    have bU:nx.succ≠b10:=by
     rintro rfl
     exact nc4 _ _ A4.a.v10
    simp
    refine⟨⟨none,by rw[bG _ _ _ _ bU];exact lk4⟩,hF _ _ ⟨_,rfl,.done,some .ret,by simp,by simp,?_⟩⟩
    have hds:yF n0 (nx ::ds) (au b10 (some (.cells [I 18] .fix)) h4) DE:=A4.d.ew (fh _) fun b _ hg=>by
     rw[bG _ _ _ _ (by rintro rfl;rw[A4.a.v10] at hg;cases hg)];exact hg
    have lk5:aa nx.succ (au b10 (some (.cells [I 18] .fix)) h4)=some (.loop .busy none fn tm res [K 90,K 91] (.ops aw) body nx):=by rw[bG _ _ _ _ bU];exact lk4
    rw[set_set]
    refine vn _ _ _ ?_ (hds.ew (fh _) fun b _ hg=>?_) ((A4.e.put A4.ge).put (by omega)) ?_
    ·rw[bG _ _ _ _ (fun e=>bU e.symm)];simp
    ·rw[bG _ _ _ _ (by rintro rfl;rw[lk5] at hg;cases hg)];exact hg
    ·intro oV
     refine hxl (oV (k,x) ?_)
     obtain⟨b,e⟩:=O9 (bH X i os) c hk dL
     rw[e];simp
 ·rintro h1 bN ⟨a1,a2,a3,a4,a5,a6⟩
  refine⟨_,rfl,.ready,none,a2,by simp,?_⟩
  have hnc:∀ l k,aa nx.succ h1≠some (.cells l k):=fun l k q=>by rw[a2] at q;cases q
  exact aF1 _ _ _ (a1.put hnc (by rw[a2];simp) (by omega)) a6
theorem auP{i:Nat}(hi:i<3){os:List Op}(nq:jR i os=0)(mB:∀ o∈os,before o o=false)(ho:os.length≤16){cO:AV}(hcO:jN 10 eO cO os){l:List Ci}(hl:l.length≤10000)(wQ:∀ y∈l,dR i y.2)(hf:cZ os.length l){c3:AV}(hc:jN 5 eD c3 l){b8 b10 bj b15 n0:Key}{h0:T ag}{Q:pA}{ds:List Key}{tm:T AV}{h1:T ag}{bN:Key}{m:Nat}(A:RfI X i os cO c3 b8 b10 bj b15 n0 h0 l m ds tm h1 bN)
  (oW:∀ ds tm' h' nx',aa (K 10) tm'=some (.ptr b10 0)→aa b10 h'=some (.cells [I 18] .fix)→yF n0 ds h' nx'→Ext h0 n0 h' nx'→¬ (∀ c∈l.map jJ,(bH X i os).acc c.1=false∧∀ x∈(bH X i os).steps c,x.2∈l.map jJ)→Q .ret ds tm' h' nx')
  (eK:∀ ds tm' h' nx',RfB X i os cO c3 b8 b10 bj b15 n0 h0 ds tm' h' nx'→(∀ c∈l.map jJ,(bH X i os).acc c.1=false∧∀ x∈(bH X i os).steps c,x.2∈l.map jJ)→Q .norm ds tm' h' nx') :
  V C (.loop iC) (n9 2 Q) ds tm h1 bN:=by
 have rA:C.raw dH=false:=S.nr (by decide)
 have rS:C.raw eA=false:=S.nr (by decide)
 have rH:C.raw aR=false:=S.nr (by decide)
 have hr:=dF.rows l
 refine V.dQ (RfI X i os cO c3 b8 b10 bj b15 n0 h0 l) A ?_
 rintro m ds dn h2 aH ⟨j,rfl,hj,B,g78,g79,g80,hg⟩
 refine qJ ?_
 simp[iC]
 by_cases bz:j<l.length
 ·have uA:(j:Int)<l.length:=by omega
  have Hr:c3=.sl (aj eD l) l.length 5 .any:=by
   rcases hc with⟨_,rfl⟩|e
   ·simp at bz
   ·exact e
  have aF3:=g78
  rw[Hr] at aF3
  have tx:5≤l.length*5-j*5:=by omega
  have xR:=hf.pos _ (Dn bz)
  have ec:=dF.at bz
  rw[← Mv xR] at ec
  have bO:=hf.lt (jJ l[j]) (Fa.2 ⟨_,Dn bz,rfl⟩)
  have hd:(jJ l[j]).1<65536:=JJ bO (kn ho)
  have hs:dR i (jJ l[j]).2:=wQ _ (Dn bz)
  have ej:jJ l[j]∈l.map jJ:=Fa.2 ⟨_,Dn bz,rfl⟩
  have aQf:∀ P:Cf St→Prop,(∀ c∈l.map jJ,P c)→P (jJ l[j]):=fun P h=>h _ ej
  have hgs:∀ (a1:(bH X i os).acc (jJ l[j]).1=false) (a2:∀ x∈(bH X i os).steps (jJ l[j]),x.2∈l.map jJ),Sq (bH X i os) l (j+1):=by
   intro a1 a2 q hq hqj
   by_cases e:q=j
   ·subst e;exact⟨a1,a2⟩
   ·exact hg q hq (by omega)
  generalize jJ l[j]=c at *
  have s2:=kTSu aH
  simp[oK,g79,g80,uA]
  simp[wJ,aF3,g80,bz,hr,tx,ec,uI,zD,Nw]
  have e3:=E0 h2 aH (.cells (eC c) .fix)
  have b17:aa aH (au aH (some (.cells (eC c) .fix)) h2)=some (.cells (eC c) .fix):=by simp
  generalize au aH (some (.cells (eC c) .fix)) h2=h3 at *
  have B3:=B.ext e3 (tm':=dn) rfl rfl rfl rfl
  simp[wK,B.a.cF,b17,zD,uI,rA,GD]
  refine(axi S ho hd B3.a.vj B3.a.lt.2.2).mono ?_
  rintro o h4 DE ⟨rfl,e4⟩
  have B4:=B3.ext e4 (tm':=dn) rfl rfl rfl rfl
  have n4:=e4.n
  have aMv:aa aH h4=some (.cells (eC c) .fix):=by rw[e4.g aH (by omega)];exact b17
  cases KP:HF os c.1 with
  |true=>
   have iI:¬ (∀ c∈l.map jJ,(bH X i os).acc c.1=false∧∀ x∈(bH X i os).steps c,x.2∈l.map jJ):=fun h=>by
    have:=(h c ej).1
    have e:(bH X i os).acc c.1=HF os c.1:=rfl
    rw[e,KP] at this;cases this
   simp
   simp[wL,B4.a.bZ,B4.a.v10]
   refine oW _ _ _ _ ?_ ?_ ?_ (B4.e.put B4.ge) iI
   ·simp[B4.a.bZ]
   ·simp
   ·refine B4.d.ew (fh _) fun b _ hg=>?_
    rw[bG _ _ _ _ (by rintro rfl;rw[B4.a.v10] at hg;cases hg)];exact hg
  |false=>
   simp
   simp[wM,B4.a.cF,aMv,zD,uI,rS,GD]
   refine(aqR S).mono ?_
   rintro o h5 Ut ⟨rfl,b25,b35,rfl,e5⟩
   simp
   have B5:=B4.ext e5 (tm':=dn) rfl rfl rfl rfl
   have t1:=kTSu DE
   have t2:=kTSu DE.succ
   have aB7:(bH X i os).acc c.1=false:=KP
   refine arz S hi nq mB ho hcO hl wQ hf hc bO hs (b2:=DE) (b3:=DE.succ) (n0:=n0) (h0:=h0) (b15:=b15) (B5.ext (Ext.refl _ _) ?_ ?_ ?_ ?_) ?_ b25 b35 (by omega) ?_ ?_
   ·simp
   ·simp
   ·simp
   ·simp
   ·simp
   ·intro Io h' nx' hb D e iI
    simp
    refine oW _ _ _ _ ?_ hb D e fun h=>iI (h c ej).2
    simp[B5.a.bZ]
   ·intro Io h' nx' B' oV
    simp
    simp[wN,g80]
    rw[aq (by omega) (by omega)]
    refine⟨l.length-(j+1),by omega,j+1,rfl,by omega,B'.ext (Ext.refl _ _) ?_ ?_ ?_ ?_,by simp[g78],by simp[g79],by simp,hgs aB7 oV⟩<;>simp
 ·have qL:j=l.length:=by omega
  subst qL
  simp[oK,g79,g80]
  refine eK _ _ _ _ (B.ext (Ext.refl _ _) ?_ ?_ ?_ ?_) ?_
  ·simp
  ·simp
  ·simp
  ·simp
  ·intro c hc2
   obtain⟨x,hx,rfl⟩:=Fa.1 hc2
   obtain⟨q,hq,rfl⟩:=List.getElem_of_mem hx
   exact hg q hq hq
end Ln
/-
 LN: Refute: the program, all of it. No condition.
-/
namespace Ln
open Go.Sx Go
variable{C:cD}{X:Kn}(S:Std C X)
include S
abbrev ap4:aA:=.seq (.ops oh)
 (.seq (.seq (.staged oi ⟨[K 70,K 71,K 72,K 73,K 74,K 75,K 76],[]⟩)
 (.cond (.t (K 76))
 (.seq (.ops oq)
 .ret)
 .skip))
 (.seq (.seq (.ops j5)
 (.block 2 (.loop iC)))
 (.seq (.ops j6)
 .ret)))
theorem auN{i:Nat}(hi:i<3){os:List Op}(nq:jR i os=0)(mB:∀ o∈os,before o o=false)(ho:os.length≤16){cO:AV}(hcO:jN 10 eO cO os){p:List Ci}(hp:p.length≤10000)(wQ:∀ y∈p,dR i y.2)(hf:cZ os.length p){c3:AV}(Mq:jN 5 eD c3 p){b8 b10 bj n0:Key}{h0:T ag}{tm:T AV}{h:T ag}{nx:Key}(A:RfA X i os cO c3 b8 b10 bj tm h nx)(e0:Ext h0 n0 h nx)(QJ:n0.toNat≤b10.toNat) :
  HY C ap4 (Kt [.cell (K 10) false 1] fun o h' nx'=>o=.ret (I (vQ (bH X i os) (0,cd i) p))∧Ext h0 n0 h' nx') [] tm h nx:=by
 have s1:=kTSu nx
 have n0x:=e0.n
 have rH:C.raw aR=false:=S.nr (by decide)
 have hk3:∀ y∈p,y.2.kids.length≤3:=fun y hy=>Ah (wQ y hy)
 have auO:p.Pairwise D9:=by
  have:=hf.sorted
  rw[List.pairwise_map] at this
  exact this.imp_of_mem fun ha hb Us=>(LU (hf.pos _ ha) (hf.pos _ hb)).1 Us
 have KP:=(aZ (cd i).kids).1
 have ec:[I 0,I (cd i).k,I (cd i).n,.str 0 0,aC (cd i).kids]=eC (0,cd i):=rfl
 simp
 simp[oh]
 have e1:=E0 h nx (.cells [.fn aR [] [.ptr b8 0]] .fix)
 have v15:aa nx (au nx (some (.cells [.fn aR [] [.ptr b8 0]] .fix)) h)=some (.cells [.fn aR [] [.ptr b8 0]] .fix):=by simp
 simp[A.k8]
 generalize au nx (some (.cells [.fn aR [] [.ptr b8 0]] .fix)) h=h1 at *
 have A1:=A.ext e1 (tm':=tm) rfl rfl rfl
 have af:∀ n H,aO n (aC (cd i).kids) H=(aC (cd i).kids,H):=dp _
 have hph:=ap2 S hp hk3 auO (x:=R2 (0,cd i)) (Ah (R5 hi)) Mq (h:=h1) (nx:=nx.succ) A1.v8 A1.lt.1
 rw[aj9] at hph
 have x4:R2 (0,cd i)∈p↔(0,cd i)∈p.map jJ:=by
  constructor
  ·intro h;exact Fa.2 ⟨_,h,ane _⟩
  ·intro h
   obtain⟨y,hy,e⟩:=Fa.1 h
   have h0:=hf.pos _ hy
   have:y=R2 (0,cd i):=by
    rw[← e];unfold R2 jJ;exact Prod.ext (by simp;omega) rfl
   rw[← this];exact hy
 simp[oi,v15,A.cF,A1.vj,jB,rH,af]
 refine hph.mono ?_
 rintro o h2 aH ⟨rfl,e2⟩
 have n2:=e2.n
 have A2:=A1.ext e2 (tm':=tm) rfl rfl rfl
 have aLS:aa nx h2=some (.cells [.fn aR [] [.ptr b8 0]] .fix):=by rw[e2.g nx (by omega)];exact v15
 have e02:=(e0.trans e1).trans e2
 by_cases ej:(0,cd i)∈p.map jJ
 ·have HH:=x4.2 ej
  simp[HH]
  have main:∀ ay:T AV,aa (K 8) ay=some (.ptr b8 0)→aa (K 10) ay=some (.ptr b10 0)→aa (K 11) ay=some (.ptr bj 0)→aa (K 15) ay=some (.ptr nx 0)→aa (K 78) ay=some c3→aa (K 79) ay=some (I p.length)→aa (K 80) ay=some (I 0)→
    V C (.loop iC) (n9 2 (OA (HY C (.seq (.ops j6) .ret) (Kt [.cell (K 10) false 1] fun o h' nx'=>o=.ret (I (vQ (bH X i os) (0,cd i) p))∧Ext h0 n0 h' nx')) (Kt [.cell (K 10) false 1] fun o h' nx'=>o=.ret (I (vQ (bH X i os) (0,cd i) p))∧Ext h0 n0 h' nx'))) [] ay h2 aH:=by
   intro ay q8 Sk K1 q15 q78 q79 q80
   refine auP S hi nq mB ho hcO hp wQ hf Mq (b8:=b8) (b10:=b10) (bj:=bj) (b15:=nx) (n0:=n0) (h0:=h0) (m:=p.length) ⟨0,by simp,by omega,⟨⟨q8,Sk,K1,A2.v8,A2.v10,A2.vj,A2.lt⟩,q15,aLS,by omega,yF.nil _ _ _,e02,QJ⟩,q78,q79,by simpa using q80,fun q hq h=>absurd h (by omega)⟩ ?_ ?_
   ·intro ds tm' h' nx' bZ v10 D e' iI
    have hr:vQ (bH X i os) (0,cd i) p=18:=LR hf fun Sm=>iI Sm.2
    rw[hr]
    exact Dc bZ v10 D e'
   ·intro ds tm' h' nx' B oV
    have hr:vQ (bH X i os) (0,cd i) p=0:=am8 hf ⟨ej,oV⟩
    rw[hr]
    simp
    simp[j6,B.a.bZ,B.a.v10]
    refine Dc (b10:=b10) ?_ ?_ (B.d.ew (fh _) fun b _ hg=>?_) (B.e.put B.ge)
    ·simp[B.a.bZ]
    ·simp
    ·rw[bG _ _ _ _ (by rintro rfl;rw[B.a.v10] at hg;cases hg)];exact hg
  rcases Mq with⟨ee,ee2⟩|ee
  ·have hl0:p.length=0:=by rw[ee2];rfl
   rw[hl0] at main
   simp[j5,A.k8,A2.v8,ee]
   refine main _ ?_ ?_ ?_ ?_ ?_ ?_ ?_<;>simp[ee,A.k8,A.bZ,A.cF]
  ·simp[j5,A.k8,A2.v8,ee]
   refine main _ ?_ ?_ ?_ ?_ ?_ ?_ ?_<;>simp[ee,A.k8,A.bZ,A.cF]
 ·have HH:¬ R2 (0,cd i)∈p:=fun q=>ej (x4.1 q)
  have hr:vQ (bH X i os) (0,cd i) p=18:=LR hf fun Sm=>ej Sm.1
  rw[hr]
  simp[HH]
  simp[oq,A.bZ,A2.v10]
  refine Dc (b10:=b10) ?_ ?_ (yF.nil _ _ _) (e02.put QJ)
  ·simp[A.bZ]
  ·simp
theorem amF{i:Nat}(hi:i<3){ev:AV}{l:List Ev}(hv:jN 8 eE ev l)(hl:Few l)(mB:bk [] l=0→∀ o∈cU 0 l,before o o=false){c3:AV}{p:List Ci}(hp:p.length≤10000)(wQ:∀ y∈p,dR i y.2)(Mq:jN 5 eD c3 p){h:T ag}{nx:Key} :
  aI C jw [X.m,dO i,ev,.agg [c3],kj] h nx (fun o h' nx'=>o=.ret (I (X.wT i l p))∧Ext h nx h' nx'):=by
 have s1:=kTSu nx
 have s2:=kTSu nx.succ
 have s3:=kTSu nx.succ.succ
 have s4:=kTSu nx.succ.succ.succ
 have rb:C.raw kG=false:=S.nr (by decide)
 have rH:C.raw aR=false:=S.nr (by decide)
 have hz:∀ H,aO 9999 ev H=(ev,H):=fun H=>hv.D3 _ _
 have rW:(cU 0 l).length≤16:=by have:=qW l 0;have:=hl.len;omega
 have hk3:∀ y∈p,y.2.kids.length≤3:=fun y hy=>Ah (wQ y hy)
 have c3c:c3.aN=true∧c3.cells=[c3]:=by rcases Mq with⟨rfl,_⟩|rfl<;>exact⟨rfl,rfl⟩
 refine S.AP.callV ?_
 simp[xd]
 simp[yG,Kn.m,kj]
 have e4:=(((E0 h nx (.cells [.sl X.rows 7 45 .any] .fix)).trans (E0 _ nx.succ (.cells [c3] .fix))).trans (E0 _ nx.succ.succ (.cells [I 200,I 50] .fix))).trans (E0 _ nx.succ.succ.succ (.cells [I 0] .fix))
 have bm:aa nx (au nx.succ.succ.succ (some (.cells [I 0] .fix)) (au nx.succ.succ (some (.cells [I 200,I 50] .fix)) (au nx.succ (some (.cells [c3] .fix)) (au nx (some (.cells [.sl X.rows 7 45 .any] .fix)) h))))=some (.cells [.sl X.rows 7 45 .any] .fix):=by rw[ax (by omega),ax (by omega),ax (by omega)];simp
 have b8:aa nx.succ (au nx.succ.succ.succ (some (.cells [I 0] .fix)) (au nx.succ.succ (some (.cells [I 200,I 50] .fix)) (au nx.succ (some (.cells [c3] .fix)) (au nx (some (.cells [.sl X.rows 7 45 .any] .fix)) h))))=some (.cells [c3] .fix):=by rw[ax (by omega),ax (by omega)];simp
 have bl:aa nx.succ.succ (au nx.succ.succ.succ (some (.cells [I 0] .fix)) (au nx.succ.succ (some (.cells [I 200,I 50] .fix)) (au nx.succ (some (.cells [c3] .fix)) (au nx (some (.cells [.sl X.rows 7 45 .any] .fix)) h))))=some (.cells [I 200,I 50] .fix):=by rw[ax (by omega)];simp
 have b10:aa nx.succ.succ.succ (au nx.succ.succ.succ (some (.cells [I 0] .fix)) (au nx.succ.succ (some (.cells [I 200,I 50] .fix)) (au nx.succ (some (.cells [c3] .fix)) (au nx (some (.cells [.sl X.rows 7 45 .any] .fix)) h))))=some (.cells [I 0] .fix):=by simp
 generalize au nx.succ.succ.succ (some (.cells [I 0] .fix)) (au nx.succ.succ (some (.cells [I 200,I 50] .fix)) (au nx.succ (some (.cells [c3] .fix)) (au nx (some (.cells [.sl X.rows 7 45 .any] .fix)) h)))=h4 at *
 simp[yH,bm,bl,rb,hz]
 refine(auQ S hi hv hl).mono ?_
 rintro o h5 Ut ⟨e5,hR⟩
 have n5:=e5.n
 have e45:=e4.trans e5
 have b85:aa nx.succ h5=some (.cells [c3] .fix):=by rw[e5.g _ (by omega)];exact b8
 have aFG:aa nx.succ.succ.succ h5=some (.cells [I 0] .fix):=by rw[e5.g _ (by omega)];exact b10
 rcases hR with⟨bU,rfl⟩|⟨Af,bj,cO,rfl,bj5,hc,bj0,bjn⟩
 ·have Fj:X.wT i l p=nw i l:=by unfold Kn.wT;rw[if_neg bU]
  rw[Fj]
  simp
  simp[qn,bq bU]
  simp[yI,aFG]
  refine Dc (b10:=nx.succ.succ.succ) ?_ ?_ (yF.nil _ _ _) (e45.put (by omega))<;>simp
 ·obtain⟨Po,nq⟩:=BU Af
  have hbo:=mB Po
  have Fj:X.wT i l p=vQ (bH X i (cU 0 l)) (0,cd i) p:=by unfold Kn.wT;rw[if_pos Af]
  rw[Fj]
  simp
  simp[qn]
  have main:∀ ay:T AV,aa (K 8) ay=some (.ptr nx.succ 0)→aa (K 10) ay=some (.ptr nx.succ.succ.succ 0)→aa (K 11) ay=some (.ptr bj 0)→aa (K 32) ay=some c3→aa (K 33) ay=some (I p.length)→aa (K 34) ay=some (I 0)→
    V C (.loop lv) (n9 0 (OA (HY C ap4 (Kt [.cell (K 10) false 1] fun o h' nx'=>o=.ret (I (vQ (bH X i (cU 0 l)) (0,cd i) p))∧Ext h nx h' nx')) (Kt [.cell (K 10) false 1] fun o h' nx'=>o=.ret (I (vQ (bH X i (cU 0 l)) (0,cd i) p))∧Ext h nx h' nx'))) [] ay h5 Ut:=by
   intro ay q8 Sk K1 q32 q33 q34
   refine V.aFu (arn S rW hc hp hk3 Mq (h:=h) (nx:=nx) (b8:=nx.succ) (b10:=nx.succ.succ.succ) (bj:=bj) (m:=p.length) (i:=i) (by omega) ⟨0,by simp,by omega,⟨q8,Sk,K1,b85,aFG,bj5,by omega⟩,q32,q33,by simpa using q34,e45,ny.zero _ _⟩ ?_ ?_)
   ·intro tm' h' nx' bZ v10 iI e'
    have hr:vQ (bH X i (cU 0 l)) (0,cd i) p=1:=U0 iI
    rw[hr]
    exact Dc bZ v10 (yF.nil _ _ _) e'
   ·intro tm' h' nx' A hf e'
    exact auN S hi nq hbo rW hc hp wQ hf Mq A e' (by omega)
  rcases Mq with⟨e1,e2⟩|e
  ·have hl0:p.length=0:=by rw[e2];rfl
   rw[hl0] at main
   simp[qp,b85,e1]
   refine main _ ?_ ?_ ?_ ?_ ?_ ?_<;>simp[e1]
  ·simp[qp,b85,e]
   refine main _ ?_ ?_ ?_ ?_ ?_ ?_<;>simp[e]
end Ln
/-
 LN: the law of Refute: the proofs, one by one. No condition.
-/
namespace Ln
open Go.Sx Go
structure Rw where
 c:AV
 l:List Ci
 o:Option Key
def Rw.At(r:Rw)(h:T ag)(nx:Key):Prop:=Gr 5 r.c (aj eD r.l) r.l.length h nx r.o∨(r.o=none∧jN 5 eD r.c r.l)
theorem Rw.At.rd{r:Rw}{h:T ag}{nx:Key}(a:r.At h nx):Rd 5 r.c (aj eD r.l) r.l.length h nx:=by
 rcases a with g|⟨_,g⟩
 ·exact g.rd
 ·exact g.rd h nx
theorem Rw.At.bq{r:Rw}{h:T ag}{nx:Key}(a:r.At h nx):AV.beq r.c r.c=true:=by
 rcases a with g|⟨_,g⟩
 ·exact g.lits dF
 ·rcases g with⟨e,_⟩|e
  ·rw[e];exact beq_refl _ rfl
  ·rw[e];exact beq_refl _ (by simp only[AV.lits];exact dF.asv _)
theorem Rw.At.cell{r:Rw}{h:T ag}{nx:Key}(a:r.At h nx):r.c.aN=true∧r.c.cells=[r.c]:=by
 rcases a with g|⟨_,g⟩
 ·exact g.cell
 ·exact g.cell
theorem Rw.At.ew{r:Rw}{h h':T ag}{nx nx':Key}(a:r.At h nx)(hn:nx.toNat≤nx'.toNat)(hk:∀ b,r.o=some b→aa b h'=aa b h):r.At h' nx':=by
 rcases a with g|g
 ·exact .inl (g.ew hn hk)
 ·exact .inr g
theorem Rw.At.lt{r:Rw}{h:T ag}{nx:Key}(a:r.At h nx):∀ b,r.o=some b→b.toNat<nx.toNat:=by
 rcases a with g|⟨e,_⟩
 ·exact g.lt
 ·intro b hb;rw[e] at hb;cases hb
theorem Rw.At.ext{r:Rw}{h h':T ag}{nx nx':Key}(a:r.At h nx)(e:Ext h nx h' nx'):r.At h' nx':=a.ew e.n fun b hb=>e.g b (a.lt b hb)
theorem Rw.At.Tk{r:Rw}{h:T ag}{nx:Key}(a:r.At h nx):∃ c' h',aO 9999 r.c h=(c',h')∧jN 5 eD c' r.l∧∀ b:Key,r.o≠some b→aa b h'=aa b h:=by
 rcases a with g|⟨_,g⟩
 ·obtain⟨h1,h2⟩:=Gr.GM dF g 9998
  exact⟨_,_,rfl,h1,h2⟩
 ·exact⟨_,_,g.D3 _ _,g,fun _ _=>rfl⟩
structure Rws(R:List Rw)(mi:Nat)(bm HG nxB:Key):Prop where
 n:R.length=4
 one:∀ r∈R,r.l.length≤10000∧(∀ y∈r.l,dR mi y.2)∧r.o≠some bm∧r.o≠some HG∧∀ b,r.o=some b→nxB.toNat≤b.toNat
 two:∀ p q (hp:p<R.length) (hq:q<R.length),p<q→∀ b,R[p].o=some b→R[q].o≠some b
structure LrS(X:Kn)(bm HG:Key)(n:Int)(ev:AV)(cs:List AV)(tm:T AV)(h:T ag)(nx:Key):Prop where
 q1:aa (K 1) tm=some (I n)
 K1:aa (K 11) tm=some (.ptr bm 0)
 q12:aa (K 12) tm=some ev
 q20:aa (K 20) tm=some (.slice HG 0 4 1)
 mb:aa bm h=some (.cells [.sl X.rows 7 45 .any] .fix)
 bb:aa HG h=some (.cells cs .fix)
 bn:bm.toNat<nx.toNat
 TP:HG.toNat<nx.toNat
def LrI(X:Kn)(bm HG:Key)(n:Int)(ev:AV)(R:List Rw)(hB:T ag)(nxB:Key)(m:Nat)(tm':T AV)(h':T ag)(nx':Key):Prop:=∃ i:Nat,m=4-i∧i≤4∧LrS X bm HG n ev (R.map Rw.c) tm' h' nx'∧aa (K 21) tm'=some (I i)∧(∀ q (hq:q<R.length),i≤q→(R[q]).At h' nx')∧Ext hB nxB h' nx'
variable{C:cD}{X:Kn}(S:Std C X)
include S
theorem arp(hX:AV.beq X.m X.m=true){bm HG:Key}{n:Int}(hn:qX n){ev:AV}{l:List Ev}(hv:jN 8 eE ev l)(hl:Few l){R:List Rw}{hB:T ag}{nxB:Key}(hR:Rws R (Mb n) bm HG nxB){Q:dN}{m:Nat}{tm:T AV}{h1:T ag}{bN:Key}(A:LrI X bm HG n ev R hB nxB m tm h1 bN)
  (eK:∀ tm' h' nx',Ext hB nxB h' nx'→Q .norm tm' h' nx') :
  W C (.loop dm) (al 1 Q) tm h1 bN:=by
 have rn:C.raw fg=false:=S.nr (by decide)
 have re:C.raw kF=false:=S.nr (by decide)
 have rl:C.raw eJ=false:=S.nr (by decide)
 have rp:C.raw mq=true:=S.rw (by decide)
 have rc:C.raw jw=false:=S.nr (by decide)
 have rk:C.raw km=false:=S.nr (by decide)
 have hvz:∀ H,aO 9999 ev H=(ev,H):=fun H=>hv.D3 _ _
 have aBW:l.length≤1000:=by have:=hl.len;omega
 have hmi:=ajW n
 have hnz:∀ H,aO 9999 (dO (Mb n)) H=(dO (Mb n),H):=fun H=>rfl
 have hlz:∀ H,aO 9999 kj H=(kj,H):=fun H=>rfl
 refine W.dQ (LrI X bm HG n ev R hB nxB) A ?_
 rintro m dn h2 aH ⟨i,rfl,hi,L,q21,hA,eB⟩
 obtain⟨q1,K1,q12,q20,hbm,mB,bn,TP⟩:=L
 have hX':=hX
 simp[Kn.m] at hX
 refine W.of ?_
 simp[dm]
 by_cases Pj:i<4
 ·have hii:(i:Int)<4:=by omega
  have hiR:i<R.length:=by rw[hR.n];exact Pj
  have hg:(R.map Rw.c)[i]?=some (R[i]).c:=by rw[List.getElem?_map,Pe hiR];rfl
  obtain⟨hlen,mD,om,o20,oB⟩:=hR.one _ (Dn hiR)
  have aLI:∀ q (hq:q<R.length),i<q→∀ b,(R[q]).o=some b→(R[i]).o≠some b:=fun q hq bO b hb e=>hR.two i q hiR hq bO b e hb
  have hr:=hA i hiR (fh _)
  have hbq:=hr.bq
  generalize hri:R[i]=r at *
  simp[jg,q21,hii]
  simp[oa,q1,K1,q12,q20,q21,hbm,mB,Pj,hg,rn]
  refine(LI S hn).mono ?_
  rintro o h3 bF ⟨rfl,e3⟩
  have b3:aa bm h3=some (.cells [.sl X.rows 7 45 .any] .fix):=by rw[e3.g bm bn];exact hbm
  have d3:aa HG h3=some (.cells (R.map Rw.c) .fix):=by rw[e3.g HG TP];exact mB
  simp[K1,q20,q21,b3,d3,Pj,hg,hbq,hX,re,hvz]
  refine(arq S aBW hv).mono ?_
  rintro o h4 DE ⟨cE,rfl,hE,e4⟩
  have e24:=e3.trans e4
  have b4:aa bm h4=some (.cells [.sl X.rows 7 45 .any] .fix):=by rw[e24.g bm bn];exact hbm
  have d4:aa HG h4=some (.cells (R.map Rw.c) .fix):=by rw[e24.g HG TP];exact mB
  simp[K1,q20,q21,b4,d4,Pj,hg,hbq,hX,rp]
  refine(auH S hlen (hr.ext e24).rd).mono ?_
  rintro o h5 Ut ⟨⟨cP,rfl,hP⟩,e5⟩
  have e25:=e24.trans e5
  have b5:aa bm h5=some (.cells [.sl X.rows 7 45 .any] .fix):=by rw[e25.g bm bn];exact hbm
  have d5:aa HG h5=some (.cells (R.map Rw.c) .fix):=by rw[e25.g HG TP];exact mB
  simp[K1,q20,q21,b5,d5,Pj,hg,hbq,hX,rl]
  refine(Ir S).mono ?_
  rintro o h6 nx6 ⟨rfl,e6⟩
  have e26:=e25.trans e6
  have b6:aa bm h6=some (.cells [.sl X.rows 7 45 .any] .fix):=by rw[e26.g bm bn];exact hbm
  have d6:aa HG h6=some (.cells (R.map Rw.c) .fix):=by rw[e26.g HG TP];exact mB
  have hEz:∀ H,aO 9999 cE H=(cE,H):=fun H=>hE.D3 _ _
  have hPz:∀ H,aO 9998 cP H=(cP,H):=fun H=>hP.D3 _ _
  have hPc:=hP.cell
  have hmz:∀ H,aO 9999 X.m H=(X.m,H):=fun H=>rfl
  simp[Kn.m] at hmz
  have hp:=amF S hmi hE hl (fun _=>Wv) hlen mD hP (h:=h6) (nx:=nx6)
  simp[Kn.m] at hp
  simp[K1,q20,q21,b6,d6,Pj,hg,hbq,hX,rc,hEz,hPz,hPc.1,hPc.2,hlz]
  refine hp.mono ?_
  rintro o h7 nx7 ⟨rfl,e7⟩
  have e27:=e26.trans e7
  have b7:aa bm h7=some (.cells [.sl X.rows 7 45 .any] .fix):=by rw[e27.g bm bn];exact hbm
  have d7:aa HG h7=some (.cells (R.map Rw.c) .fix):=by rw[e27.g HG TP];exact mB
  simp[K1,q20,q21,b7,d7,Pj,hg,hbq,hX,rn]
  refine(LI S hn).mono ?_
  rintro o h8 nx8 ⟨rfl,e8⟩
  have e28:=e27.trans e8
  have b8:aa bm h8=some (.cells [.sl X.rows 7 45 .any] .fix):=by rw[e28.g bm bn];exact hbm
  have d8:aa HG h8=some (.cells (R.map Rw.c) .fix):=by rw[e28.g HG TP];exact mB
  simp[K1,q20,q21,b8,d8,Pj,hg,hbq,hX,rl]
  refine(Ir S).mono ?_
  rintro o h9 nx9 ⟨rfl,e9⟩
  have e29:=e28.trans e9
  have b9:aa bm h9=some (.cells [.sl X.rows 7 45 .any] .fix):=by rw[e29.g bm bn];exact hbm
  have d9:aa HG h9=some (.cells (R.map Rw.c) .fix):=by rw[e29.g HG TP];exact mB
  obtain⟨c',hz,LX,Hr,hkz⟩:=(hr.ext e29).Tk
  have hq:=aj7 S hmi hv hl hlen mD Hr (h:=hz) (nx:=nx9)
  simp[Kn.m] at hq
  simp[K1,q20,q21,b9,d9,Pj,hg,hbq,hX,rk,hvz,hlz,LX]
  refine hq.mono ?_
  rintro o h10 aSr ⟨rfl,e10⟩
  have n29:=e29.n
  have n10:=e10.n
  have nB:=eB.n
  have ew:∀ b:Key,b.toNat<aH.toNat→r.o≠some b→aa b h10=aa b h2:=fun b hb ho=>by rw[e10.g b (by omega),hkz b ho,e29.g b hb]
  simp
  simp[od,q21]
  rw[aq (by omega) (by omega)]
  refine⟨4-(i+1),by omega,i+1,rfl,by omega,⟨by simp[q1],by simp[K1],by simp[q12],by simp[q20],by rw[ew bm bn om];exact hbm,by rw[ew HG TP o20];exact mB,by omega,by omega⟩,by simp,?_,?_⟩
  ·intro q hq bO
   have a:=hA q hq (by omega)
   refine a.ew (by omega) fun b hb=>ew b (a.lt b hb) (aLI q hq (by omega) b hb)
  ·refine⟨by omega,fun b hb=>?_⟩
   rw[ew b (by omega) (fun e=>by have:=oB b e;omega)]
   exact eB.g b hb
 ·have K5:i=4:=by omega
  subst K5
  simp[jg,q21]
  exact eK _ _ _ eB
end Ln
/-
 LN: the law of Refute: the four lists, and what follows. No condition.
-/
namespace Ln
open Go.Sx Go
structure LrT(X:Kn)(bm:Key)(n:Int)(ev cA:AV)(tm:T AV)(h:T ag)(nx:Key):Prop where
 q1:aa (K 1) tm=some (I n)
 K1:aa (K 11) tm=some (.ptr bm 0)
 q12:aa (K 12) tm=some ev
 q15:aa (K 15) tm=some cA
 mb:aa bm h=some (.cells [.sl X.rows 7 45 .any] .fix)
 bn:bm.toNat<nx.toNat
structure RwG(r:Rw)(mi:Nat)(bm nxB:Key)(h:T ag)(nx:Key):Prop where
 JF:r.At h nx
 len:r.l.length≤10000
 ok:∀ y∈r.l,dR mi y.2
 nm:r.o≠some bm
 lo:∀ b,r.o=some b→nxB.toNat≤b.toNat
theorem RwG.ext{r:Rw}{mi:Nat}{bm nxB:Key}{h h':T ag}{nx nx':Key}(a:RwG r mi bm nxB h nx)(e:Ext h nx h' nx'):RwG r mi bm nxB h' nx':=⟨a.JF.ext e,a.len,a.ok,a.nm,a.lo⟩
variable{C:cD}{X:Kn}(S:Std C X)
include S
theorem aqC(hX:AV.beq X.m X.m=true){bm:Key}{n:Int}(hn:qX n){ev cA:AV}{l:List Ev}(hv:jN 8 eE ev l)(hl:Few l){p:List Ci}{a b:Rw}{tm:T AV}{h hB:T ag}{nx nxB:Key}(A:LrT X bm n ev cA tm h nx)(q18:aa (K 18) tm=some a.c)(q19:aa (K 19) tm=some b.c)(gp:RwG ⟨cA,p,none⟩ (Mb n) bm nxB h nx)(ga:RwG a (Mb n) bm nxB h nx)(gb:RwG b (Mb n) bm nxB h nx)(Us:∀ k,a.o=some k→b.o≠some k)(eB:Ext hB nxB h nx) :
  eP C (.seq (.ops dV) (.seq (.seq (.ops dW) (.block 1 (.loop dm))) (.seq (.ops dX) .ret))) (bB [.tmp (K 10)] fun o h' nx'=>o=.ret (.bool true)∧Ext hB nxB h' nx') tm h nx:=by
 obtain⟨q1,K1,q12,q15,hbm,bn⟩:=A
 have rv:C.raw l8=false:=S.nr (by decide)
 have s1:=kTSu nx
 have cp:=gp.JF.cell
 have ca:=ga.JF.cell
 have cb:=gb.JF.cell
 have nB:=eB.n
 simp at cp
 simp only[bp,bE,jF]
 simp[dV,q15,q18,q19,cp.1,cp.2,ca.1,ca.2,cb.1,cb.2]
 have e1:=E0 h nx (.cells [cA,a.c,b.c,.nils] .fix)
 have g0:RwG ⟨.nils,[],none⟩ (Mb n) bm nxB h nx:=⟨.inr ⟨rfl,.inl ⟨rfl,rfl⟩⟩,by simp,by simp,by simp,by simp⟩
 have nl:∀ {r:Rw},RwG r (Mb n) bm nxB h nx→r.o≠some nx:=fun g e=>by have:=g.JF.lt _ e;omega
 have hR:Rws [⟨cA,p,none⟩,a,b,⟨.nils,[],none⟩] (Mb n) bm nx nxB:=by
  refine⟨rfl,?_,?_⟩
  ·intro r hr
   simp only[Ga,List.not_mem_nil,or_false] at hr
   rcases hr with rfl|rfl|rfl|rfl
   ·exact⟨gp.len,gp.ok,gp.nm,nl gp,gp.lo⟩
   ·exact⟨ga.len,ga.ok,ga.nm,nl ga,ga.lo⟩
   ·exact⟨gb.len,gb.ok,gb.nm,nl gb,gb.lo⟩
   ·exact⟨g0.len,g0.ok,g0.nm,nl g0,g0.lo⟩
  ·intro x y hx hy hxy k hk
   match x,y,hx,hy,hxy,hk with
   |0,_,_,_,_,hk=>cases hk
   |1,2,_,_,_,hk=>exact Us k hk
   |1,3,_,_,_,hk=>simp
   |2,3,_,_,_,hk=>simp
   |3,y,_,hy,hxy,_=>simp at hy;omega
   |x+4,_,hx,_,_,_=>simp at hx;omega
 have hA:∀ q (hq:q<([⟨cA,p,none⟩,a,b,⟨.nils,[],none⟩]:List Rw).length),0≤q→(([⟨cA,p,none⟩,a,b,⟨.nils,[],none⟩]:List Rw)[q]).At (au nx (some (.cells [cA,a.c,b.c,.nils] .fix)) h) nx.succ:=by
  intro q hq _
  match q,hq with
  |0,_=>exact gp.JF.ext e1
  |1,_=>exact ga.JF.ext e1
  |2,_=>exact gb.JF.ext e1
  |3,_=>exact g0.JF.ext e1
  |q+4,hq=>simp at hq;omega
 simp[dW]
 refine arp S hX hn hv hl hR (m:=4) ⟨0,rfl,by omega,⟨by simp[q1],by simp[K1],by simp[q12],by simp,by rw[e1.g bm bn];exact hbm,by simp,by omega,by omega⟩,by simp,hA,eB.trans e1⟩ ?_
 intro tm' h' nx' e'
 simp[dX,rv]
 refine aI.known (S.R6 _ _) ?_
 simp
 exact e'
end Ln
/-
 LN: the law of Refute: one configuration is changed, or added. No condition.
-/
namespace Ln
open Go.Sx Go
variable{C:cD}{X:Kn}(S:Std C X)
include S
theorem as5{bT:Key}{done:Int}(hd:qX done){p:List Ci}(hp:p.length≤1024){tm:T AV}{h:T ag}{nx:Key}(q4:aa (K 4) tm=some (I done))(q19:aa (K 19) tm=some (.slice bT 0 p.length 5))(hT:aa bT h=some (.cells (aj eD p) .part))(bTn:bT.toNat<nx.toNat){Q:dN}
  (hQ:∀ (tm':T AV) (c':AV) (v w:Int) (h':T ag) (nx':Key) (o':Option Key),aa (K 19) tm'=some c'→aa (K 1) tm'=aa (K 1) tm→aa (K 11) tm'=aa (K 11) tm→aa (K 12) tm'=aa (K 12) tm→aa (K 15) tm'=aa (K 15) tm→aa (K 18) tm'=aa (K 18) tm→Gr 5 c' (aj eD (p ++ [((v,⟨0,w,[]⟩):Ci)])) (p ++ [((v,⟨0,w,[]⟩):Ci)]).length h' nx' o'→tO h nx (some bT) h' nx' o'→Q .norm tm' h' nx') :
  eP C (.ops dU) Q tm h nx:=by
 have rA:C.raw bQ=false:=S.nr (by decide)
 have Q1:=dF.rows p
 have s2:=kTSu nx
 simp[-appendTo,dU,q4,q19,rA]
 have Ka:=ud S hd (m:=90) (by omega) (by omega) (h:=h) (nx:=nx)
 simp at Ka
 refine Ka.mono ?_
 rintro o h2 aH ⟨rfl,rfl,rfl⟩
 generalize aro done 90=v at *
 have e2:=E0 h2 aH (.cells (eD ((v:Int),⟨0,done.tmod 3,[]⟩)) .fix)
 have G0:Gr 5 (.slice bT 0 p.length 5) (aj eD p) p.length h2 aH (some bT):=.inr (.inl ⟨bT,.part,rfl,rfl,hT,bTn,Q1,.inl rfl⟩)
 obtain⟨c',h3,bF,o3,ha,G3,F3⟩:=(G0.ext e2).Fm dF (by decide) (by decide) (by omega) ((v:Int),⟨0,done.tmod 3,[]⟩)
 have ed:eD ((v:Int),⟨0,done.tmod 3,[]⟩)=[I v,I 0,I (done.tmod 3),.str 0 0,.nils]:=rfl
 rw[ed] at ha
 have F:=(tO.pr e2 (some bT)).trans F3
 simp[-appendTo,q4,q19,ha]
 exact hQ _ c' v (done.tmod 3) h3 bF o3 (by simp) (by simp) (by simp) (by simp) (by simp) (by simp) G3 F
theorem aqA(hX:AV.beq X.m X.m=true){bm bT:Key}{n how done:Int}(hn:qX n)(hw:qX how)(hd:qX done){ev cA:AV}{l:List Ev}(hv:jN 8 eE ev l)(hl:Few l){p:List Ci}{k:Nat}(hk:k<p.length)(hp:p.length≤1024){a:Rw}{tm:T AV}{h hB:T ag}{nx nxB:Key}(A:LrT X bm n ev cA tm h nx)(q3:aa (K 3) tm=some (I how))(q4:aa (K 4) tm=some (I done))(q17:aa (K 17) tm=some (I k))(q18:aa (K 18) tm=some a.c)(q19:aa (K 19) tm=some (.slice bT 0 p.length 5))(hT:aa bT h=some (.cells (aj eD p) .part))(bTn:bT.toNat<nx.toNat)(bTm:bT≠bm)(bTB:nxB.toNat≤bT.toNat)(gp:RwG ⟨cA,p,none⟩ (Mb n) bm nxB h nx)(ga:RwG a (Mb n) bm nxB h nx)(Us:a.o≠some bT)(eB:Ext hB nxB h nx) :
  eP C (.seq (.seq (.ops fi) (.block 0 (.seq (.ops cV) (.cond (.t (K 74)) (.ops fj) (.seq (.ops dT) (.cond (.t (K 83)) (.ops fk) (.ops dU))))))) (.seq (.ops dV) (.seq (.seq (.ops dW) (.block 1 (.loop dm))) (.seq (.ops dX) .ret)))) (bB [.tmp (K 10)] fun o h' nx'=>o=.ret (.bool true)∧Ext hB nxB h' nx') tm h nx:=by
 obtain⟨q1,K1,q12,q15,hbm,bn⟩:=A
 have rA:C.raw bQ=false:=S.nr (by decide)
 have key:=fun ay h2 aH b a1 a2 a3 a4 a5 a6 a7 a8=>aqC S hX (bm:=bm) hn hv hl (p:=p) (a:=a) (b:=b) (tm:=ay) (h:=h2) (nx:=aH) (hB:=hB) (nxB:=nxB) (cA:=cA) a1 a2 a3 a4 a5 a6 a7 a8
 simp only[bp,bE,jF] at key
 simp only[bp,bE,jF,eu]
 have SA:k*5+5≤p.length*5:=by omega
 have Q1:=dF.rows p
 have g19:∀ (y:Ci) (h2:T ag),dR (Mb n) y.2→aa bT h2=some (.cells (aj eD (p.set k y)) .part)→RwG ⟨.slice bT 0 p.length 5,p.set k y,some bT⟩ (Mb n) bm nxB h2 nx:=fun y h2 hy hg=>⟨.inl (.inr (.inl ⟨bT,.part,rfl,by simp,hg,bTn,by rw[dF.rows,List.length_set],.inl rfl⟩)),by rw[List.length_set];omega,fun z hz=>by
  rcases List.mem_or_eq_of_mem_set hz with h|h
  ·exact gp.ok z h
  ·rw[h];exact hy,by simpa using bTm,by simpa using bTB⟩
 have fin:∀ (y:Ci) (h2:T ag) (ay:T AV),dR (Mb n) y.2→(∀ b:Key,b≠bT→aa b h2=aa b h)→aa bT h2=some (.cells (aj eD (p.set k y)) .part)→aa (K 1) ay=some (I n)→aa (K 11) ay=some (.ptr bm 0)→aa (K 12) ay=some ev→aa (K 15) ay=some cA→aa (K 18) ay=some a.c→aa (K 19) ay=some (.slice bT 0 p.length 5)→_:=fun y h2 ay hy Nv hg p1 p11 p12 p15 p18 p19=>
  key ay h2 nx ⟨.slice bT 0 p.length 5,p.set k y,some bT⟩ ⟨p1,p11,p12,p15,by rw[Nv bm (Ne.symm bTm)];exact hbm,bn⟩ p18 p19 ⟨gp.JF.ew (fh _) (fun b hb=>by cases hb),gp.len,gp.ok,gp.nm,gp.lo⟩ ⟨ga.JF.ew (fh _) (fun b hb=>Nv b (fun e=>Us (by rw[hb,e]))),ga.len,ga.ok,ga.nm,ga.lo⟩ (g19 y h2 hy hg) (fun b hb e=>Us (by rw[hb];exact e.symm)) ⟨eB.n,fun b hb=>by rw[Nv b (fun e=>by rw[e] at hb;omega)];exact eB.g b hb⟩
 simp[fi,q3,rA]
 have Ka:=ud S hw (m:=3) (by omega) (by omega) (h:=h) (nx:=nx)
 simp at Ka
 refine Ka.mono ?_
 rintro o h1 bN ⟨rfl,rfl,rfl⟩
 have h3:=IU (m:=3) (by omega) how
 generalize aro how 3=w at *
 simp
 have hc:w=0∨w=1∨w=2:=by omega
 rcases hc with rfl|rfl|rfl
 ·-- aGO set
  simp[cV]
  simp[fj,q4,q17,q19,rA]
  have Ka:=ud S hd (m:=40) (by omega) (by omega) (h:=h1) (nx:=bN)
  simp at Ka
  refine Ka.mono ?_
  rintro o h2 aH ⟨rfl,rfl,rfl⟩
  have h40:=IU (m:=40) (by omega) done
  generalize aro done 40=v at *
  have hpa:=dF.BP (l:=p) (j:=k) (off:=0) (vs:=[I ((v:Int)-2)]) (y:=((v:Int)-2,p[k].2)) hk (by simp) (by simp[eD])
  have hwv:cu .i64 ((v:Int)-2)=(v:Int)-2:=aq (by omega) (by omega)
  simp at hpa
  have hk1:k*5+1≤p.length*5:=by omega
  have hkd:k*5≤p.length*5:=by omega
  simp[I] at hpa
  simp[hk,hT,hwv,Q1,hk1,hpa]
  have hy:dR (Mb n) p[k].2:=gp.ok _ (Dn hk)
  exact fin (((v:Int)-2),p[k].2) (au bT (some (.cells (aj eD (p.set k ((v:Int)-2,p[k].2))) .part)) h2) _ hy (fun b hb=>bG _ _ _ _ hb) (by simp) (by simp[q1]) (by simp[K1]) (by simp[q12]) (by simp[q15]) (by simp[q18]) (by simp[q19])
 ·simp[cV]
  simp[dT]
  have hpa:=dF.BP (l:=p) (j:=k) (off:=1) (vs:=[I 0,I (done.tmod 5),.str 0 0,.nils]) (y:=(p[k].1,⟨0,done.tmod 5,[]⟩)) hk (by simp) (by simp[eD];rfl)
  have hk1:k*5+1+4≤p.length*5:=by omega
  simp[I] at hpa
  simp[fk,q4,q17,q19,hk,hT,Q1,hk1,hpa]
  exact fin (p[k].1,⟨0,done.tmod 5,[]⟩) (au bT (some (.cells (aj eD (p.set k (p[k].1,⟨0,done.tmod 5,[]⟩))) .part)) h1) _ (Nat.zero_le _) (fun b hb=>bG _ _ _ _ hb) (by simp) (by simp[q1]) (by simp[K1]) (by simp[q12]) (by simp[q15]) (by simp[q18]) (by simp[q19])
 ·simp[cV]
  simp[dT]
  refine as5 S hd hp (h:=h1) (nx:=bN) (bT:=bT) (by simp[q4]) (by simp[q19]) hT bTn (fun ay c' v w h3 bF o3 p19 p1 p11 p12 p15 p18 G3 F=>?_)
  have n3:=F.n
  have kp:∀ b:Key,b.toNat<bN.toNat→b≠bT→aa b h3=aa b h1:=fun b hb bU=>F.g b hb (fun e=>bU (Option.some.inj e).symm)
  have ho3:∀ b:Key,b.toNat<bN.toNat→b≠bT→o3≠some b:=fun b hb bU=>F.ne hb (fun e=>bU (Option.some.inj e).symm)
  have nB:=eB.n
  simp at p1 p11 p12 p15 p18
  refine key ay h3 bF ⟨c',p ++ [(v,⟨0,w,[]⟩)],o3⟩ ⟨by rw[p1];exact q1,by rw[p11];exact K1,by rw[p12];exact q12,by rw[p15];exact q15,by rw[kp bm bn (Ne.symm bTm)];exact hbm,by omega⟩ (by rw[p18];exact q18) p19 ⟨gp.JF.ew n3 (fun b hb=>by cases hb),gp.len,gp.ok,gp.nm,gp.lo⟩ ⟨ga.JF.ew n3 (fun b hb=>kp b (ga.JF.lt b hb) (fun e=>Us (by rw[hb,e]))),ga.len,ga.ok,ga.nm,ga.lo⟩ ⟨.inl G3,by simp;omega,?_,ho3 bm bn (Ne.symm bTm),?_⟩ ?_ ⟨by omega,fun b hb=>?_⟩
  ·intro y hy
   rcases List.mem_append.1 hy with hy|hy
   ·exact gp.ok y hy
   ·simp at hy;subst hy;exact Nat.zero_le _
  ·intro b hb
   rcases F.o with e|⟨y,e,hy⟩
   ·rw[e] at hb;cases hb;exact bTB
   ·rw[e] at hb;cases hb;omega
  ·intro b hb e
   exact ho3 b (ga.JF.lt b hb) (fun e'=>Us (by rw[hb,e'])) e
  ·rw[kp b (by omega) (fun e=>by rw[e] at hb;omega)]
   exact eB.g b hb
end Ln
/-
 LN: the law of Refute: the four lists are made. No condition.
-/
namespace Ln
open Go.Sx Go
theorem as2{p:List Ci}(h0:0<p.length)(h1:p.length≤1024){h:T ag}{nx b:Key}(hb:aa b h=some (.cells [] .fix)):appendTo 5 (.slice b 0 0 5) (aj eD p) p.length h nx=.val (.slice nx 0 p.length 5) (au nx (some (.cells (aj eD p) .part)) h) nx.succ:=by
 have hl:p.length≤1048576:=by omega
 have ha:=dF.awn p
 have bU:¬ p.length=0:=by omega
 have PR:p≠[]:=fun e=>bU (by rw[e];rfl)
 have hr:=dF.rows p
 have hr5:¬ p.length*5=0:=by omega
 simp[hb,hl,ha,bU,PR,hr,hr5]
variable{C:cD}{X:Kn}(S:Std C X)
include S
theorem ajX(hX:AV.beq X.m X.m=true){bm:Key}{n JF how done:Int}(hn:qX n)(KI:qX JF)(hw:qX how)(hd:qX done){ev cA:AV}{l:List Ev}(hv:jN 8 eE ev l)(hl:Few l){p:List Ci}(S7:0<p.length)(hp:p.length≤1024)(mD:∀ y∈p,dR (Mb n) y.2)(hcA:jN 5 eD cA p){tm:T AV}{h hB:T ag}{nx nxB:Key}(A:LrT X bm n ev cA tm h nx)(q2:aa (K 2) tm=some (I JF))(q3:aa (K 3) tm=some (I how))(q4:aa (K 4) tm=some (I done))(eB:Ext hB nxB h nx) :
  eP C (.seq (.ops jT) (.seq (.staged iV ⟨[K 50,K 51,K 52,K 53,K 54,K 55,K 56,K 57,K 58,K 59,K 18],[]⟩) (.seq (.ops iW) (.seq (.seq (.ops fi) (.block 0 (.seq (.ops cV) (.cond (.t (K 74)) (.ops fj) (.seq (.ops dT) (.cond (.t (K 83)) (.ops fk) (.ops dU))))))) (.seq (.ops dV) (.seq (.seq (.ops dW) (.block 1 (.loop dm))) (.seq (.ops dX) .ret))))))) (bB [.tmp (K 10)] fun o h' nx'=>o=.ret (.bool true)∧Ext hB nxB h' nx') tm h nx:=by
 obtain⟨q1,K1,q12,q15,hbm,bn⟩:=A
 have rA:C.raw bQ=false:=S.nr (by decide)
 have key:=fun ay h2 aH bT k a a1 a2 a3 a4 a5 a6 a7 a8 a9 b1 b2 b3 b4 b5 b6 b7=>aqA S hX (bm:=bm) (bT:=bT) hn hw hd hv hl (p:=p) (k:=k) (a:=a) (tm:=ay) (h:=h2) (nx:=aH) (hB:=hB) (nxB:=nxB) (cA:=cA) a1 a2 a3 a4 a5 a6 a7 a8 a9 b1 b2 b3 b4 b5 b6 b7
 simp only[bp,bE,jF,eu] at key
 simp only[bp,bE,bw,jF,eu]
 have hA:cA=.sl (aj eD p) p.length 5 .any:=by
  rcases hcA with⟨_,rfl⟩|e
  ·simp at S7
  ·exact e
 subst hA
 have s1:=kTSu nx
 have nB:=eB.n
 simp[jT,q2,q15,rA]
 have Ka:=ud S KI (m:=p.length) S7 (by omega) (h:=h) (nx:=nx)
 refine Ka.mono ?_
 rintro o h1 bN ⟨rfl,rfl,rfl⟩
 have hk:=IU (m:=p.length) S7 JF
 generalize aro JF p.length=k at *
 have e1:=E0 h1 bN (.cells [] .fix)
 have G0:Gr 5 (.slice bN 0 0 5) (aj eD []) 0 (au bN (some (.cells [] .fix)) h1) bN.succ (some bN):=.inr (.inl ⟨bN,.fix,rfl,rfl,by simp,by omega,rfl,.inr rfl⟩)
 have Ny:(p.take k).length=k:=by rw[zqy];omega
 have hdk:(p.drop (k+1)).length=p.length-(k+1):=List.length_drop
 have Q1:=dF.rows p
 have hr1:=dF.rows (p.take k)
 have Pk:=dF.rows (p.drop (k+1))
 rw[Ny] at hr1
 rw[hdk] at Pk
 obtain⟨c54,h2,aH,o2,ha2,G2,F2⟩:=G0.akt (m:=k) (new:=aj eD (p.take k)) (by decide) (by decide) (by simp) (by rw[hr1]) (by omega) (dF.awn _)
 have G2':Gr 5 c54 (aj eD (p.take k)) k h2 aH o2:=by simpa using G2
 obtain⟨c59,h3,bF,o3,ha3,G3,F3⟩:=G2'.akt (m:=p.length-(k+1)) (new:=aj eD (p.drop (k+1))) (by decide) (by decide) (dF.Gp _) (by rw[Pk]) (by omega) (dF.awn _)
 have F13:=F2.trans F3
 have htr:=dF.take p k
 have hdr:=dF.drop p (k+1)
 have hwk:cu .i64 ((k:Int)+1)=(k:Int)+1:=aq (by omega) (by omega)
 have aIt:nD (AV.int .i64 (.lit ((k:Int)+1)))=some (k+1):=rfl
 have te:=G3.cell
 have hk1:k≤p.length:=by omega
 have Nv:k+1≤p.length:=by omega
 have c1:k*5≤p.length*5:=by omega
 have c2:(p.length-(k+1))*5≤p.length*5-(k+1)*5:=by omega
 have aIu:List.take ((p.length-(k+1))*5) (List.drop ((k+1)*5) (aj eD p))=aj eD (p.drop (k+1)):=by rw[hdr];exact Pu (by omega)
 simp
 simp[-appendTo,iV,q15,hwk,aIt,hk1,Nv,Q1,c1,c2,htr,aIu,ha2,ha3,te.1,te.2]
 -- a copy
 have n13:=F13.n
 have s3:=kTSu bF
 have s4:=kTSu bF.succ
 have e3:=E0 h3 bF (.cells [] .fix)
 have ha4:=as2 (p:=p) S7 hp (h:=au bF (some (.cells [] .fix)) h3) (nx:=bF.succ) (b:=bF) (by simp)
 simp[-appendTo,iW,q15,ha4]
 have e5:=e3.trans (E0 _ bF.succ (.cells (aj eD p) .part))
 have hT5:aa bF.succ (au bF.succ (some (.cells (aj eD p) .part)) (au bF (some (.cells [] .fix)) h3))=some (.cells (aj eD p) .part):=by simp
 generalize au bF.succ (some (.cells (aj eD p) .part)) (au bF (some (.cells [] .fix)) h3)=h5 at *
 have lo3:∀ b,o3=some b→bN.toNat≤b.toNat:=fun b hb=>by
  rcases F13.o with e|⟨y,e,hy⟩
  ·rw[e] at hb;cases hb;exact fh _
  ·rw[e] at hb;cases hb;omega
 have e13:Ext h1 bN h3 bF:=⟨by omega,fun b hb=>by rw[F13.g b (by omega) (fun e=>by have:=congrArg Key.toNat (Option.some.inj e);omega)];exact e1.g b hb⟩
 have e15:=e13.trans e5
 have ga:RwG ⟨c59,p.take k++p.drop (k+1),o3⟩ (Mb n) bm nxB h3 bF:=by
  refine⟨.inl ?_,?_,?_,?_,?_⟩
  ·have hlen:(p.take k++p.drop (k+1)).length=k+(p.length-(k+1)):=by rw[zqf,Ny,hdk]
   show Gr 5 c59 (aj eD (p.take k++p.drop (k+1))) (p.take k++p.drop (k+1)).length h3 bF o3
   rw[kU,hlen]
   exact G3
  ·show(p.take k++p.drop (k+1)).length≤10000
   rw[zqf,Ny,hdk]
   omega
  ·intro y hy
   rcases List.mem_append.1 hy with hy|hy
   ·exact mD y (List.mem_of_mem_take hy)
   ·exact mD y (List.mem_of_mem_drop hy)
  ·intro e
   have:=lo3 bm e
   omega
  ·intro b hb
   have:=lo3 b hb
   omega
 have ne3:o3≠some bF.succ:=fun e=>by
  have:=ga.JF.lt _ e
  omega
 refine key _ h5 bF.succ.succ bF.succ k ⟨c59,p.take k++p.drop (k+1),o3⟩ hk hp ⟨?_,?_,?_,?_,by rw[e15.g bm bn];exact hbm,by omega⟩ ?_ ?_ ?_ ?_ ?_ hT5 (by omega) (fun e=>by rw[← e] at bn;omega) (by omega) ⟨.inr ⟨rfl,.inr rfl⟩,by show p.length≤10000;omega,mD,by simp,by simp⟩ (ga.ext e5) ne3 (eB.trans e15)<;>simp[q1,K1,q12,q15,q3,q4]
end Ln
/-
 LN: the law of Check: the order that is turned. No condition.
-/
namespace Ln
open Go.Sx Go
variable{C:cD}{X:Kn}(S:Std C X)
include S
end Ln
/-
 LN: the law of Check, all of it. No condition.
-/
namespace Ln
open Go.Sx Go
variable{C:cD}{X:Kn}(S:Std C X)
include S
end Ln
/-
 LN: the law of Refute, all of it. No condition.
-/
namespace Ln
open Go.Sx Go
theorem arY{l:List (Cf St)}(h:l.Pairwise Ma):l.Nodup:=h.imp fun Us e=>by
 subst e
 exact avM _ Us
theorem jN.R2{cR:AV}{out:List (Cf St)}(h:jN 5 eC cR out):jN 5 eD cR (out.map R2):=by
 rcases h with⟨h1,h2⟩|h
 ·exact .inl ⟨h1,by rw[h2];rfl⟩
 ·exact .inr (by rw[UB,List.length_map];exact h)
variable{C:cD}{X:Kn}(S:Std C X)
include S
theorem ajV(hX:AV.beq X.m X.m=true){n JF how done:Int}(hn:qX n)(KI:qX JF)(hw:qX how)(hd:qX done){ks:List Int}(wQ:∀ x∈ks,qX x){c0:AV}(Af:jN 1 eI c0 ks)(hB:T ag)(nxB:Key) :
  aI C ki [c0,I n,I JF,I how,I done] hB nxB (fun o h' nx'=>o=.ret (.bool true)∧Ext hB nxB h' nx'):=by
 have rM:C.raw uo=false:=S.nr (by decide)
 have rn:C.raw fg=false:=S.nr (by decide)
 have rH:C.raw jo=false:=S.nr (by decide)
 have rl:C.raw eJ=false:=S.nr (by decide)
 have rS:C.raw gT=false:=S.nr (by decide)
 have rR:C.raw jq=false:=S.nr (by decide)
 have rv:C.raw l8=false:=S.nr (by decide)
 have aHE:∀ H,aO 9999 c0 H=(c0,H):=fun H=>Af.D3 _ _
 have s1:=kTSu nxB
 have hX':=hX
 have hmi:=ajW n
 simp[Kn.m] at hX'
 refine S.qY.call ?_
 have key:=fun ay h2 aH ev cA l p hv hl a1 a2 a3 a4 a5 a6 a7 a8 a9=>ajX S hX hn KI hw hd (ev:=ev) (cA:=cA) (l:=l) (p:=p) hv hl (tm:=ay) (h:=h2) (nx:=aH) (bm:=nxB) (hB:=hB) (nxB:=nxB) a1 a2 a3 a4 a5 a6 a7 a8 a9
 simp only[bp,bE,bw,jF,eu] at key
 simp only[mM,bp,bE,bw,jF,eu]
 simp[o7]
 simp[o9,rM]
 refine aI.known (S.UC _ _) ?_
 simp[Kn.m]
 have e1:=E0 hB nxB (.cells [.sl X.rows 7 45 .any] .fix)
 have b1:aa nxB (au nxB (some (.cells [.sl X.rows 7 45 .any] .fix)) hB)=some (.cells [.sl X.rows 7 45 .any] .fix):=by simp
 generalize au nxB (some (.cells [.sl X.rows 7 45 .any] .fix)) hB=h1 at *
 simp[pg,rn]
 refine(LI S hn).mono ?_
 rintro o h2 aH ⟨rfl,e2⟩
 have hz:∀ H,aO 9999 (dO (Mb n)) H=(dO (Mb n),H):=fun H=>rfl
 simp[rH,aHE]
 have hh:=ajY S (ajW n) wQ Af (most:=12) (by omega) (h:=h2) (nx:=aH)
 simp at hh
 refine hh.mono ?_
 rintro o h3 bF ⟨ev,l,g,rfl,hv,hll,hr,e3⟩
 have hl:=hr.aDH (by omega)
 have QN:=hr.code hmi
 have hvz:∀ H,aO 9999 ev H=(ev,H):=fun H=>hv.D3 _ _
 have e13:=(e1.trans e2).trans e3
 have n2:=e2.n
 have n3:=e3.n
 have b3:aa nxB h3=some (.cells [.sl X.rows 7 45 .any] .fix):=by rw[e3.g nxB (by omega),e2.g nxB (by omega)];exact b1
 simp
 simp[ph,b3,rn]
 refine(LI S hn).mono ?_
 rintro o h4 DE ⟨rfl,e4⟩
 have n4:=e4.n
 have b4:aa nxB h4=some (.cells [.sl X.rows 7 45 .any] .fix):=by rw[e4.g nxB (by omega)];exact b3
 simp[b4,hX',rl]
 refine(Ir S).mono ?_
 rintro o h5 Ut ⟨rfl,e5⟩
 have n5:=e5.n
 have b5:aa nxB h5=some (.cells [.sl X.rows 7 45 .any] .fix):=by rw[e5.g nxB (by omega)];exact b4
 have hf:=UD S hmi hv hl (h:=h5) (nx:=Ut)
 have hlz:∀ H,aO 9999 kj H=(kj,H):=fun H=>rfl
 simp[Kn.m] at hf
 simp[b5,hX',rS,hvz,hlz]
 refine hf.mono ?_
 rintro o h6 nx6 ⟨e6,hS⟩
 have n6:=e6.n
 rcases hS with⟨bU,_⟩|⟨Af,bj,cO,rfl,bj6,hcO,bj0,bjn⟩
 ·exact absurd QN bU
 obtain⟨Po,nq⟩:=BU Af
 have rW:(cU 0 l).length≤16:=by have:=qW l 0;omega
 have b6:aa nxB h6=some (.cells [.sl X.rows 7 45 .any] .fix):=by rw[e6.g nxB (by omega)];exact b5
 simp
 simp[pj]
 simp[pn,rR]
 refine(arZ S hmi nq rW hcO (R5 hmi) bj6 bjn).mono ?_
 rintro o h7 nx7 ⟨e7,hR⟩
 have n7:=e7.n
 have b7:aa nxB h7=some (.cells [.sl X.rows 7 45 .any] .fix):=by rw[e7.g nxB (by omega)];exact b6
 have e17:=(((e13.trans e4).trans e5).trans e6).trans e7
 rcases hR with⟨uq,rfl⟩|⟨L,out,cR,uq,kp,h0,wQ,hpw,ej,hcR,rfl⟩
 ·simp
  simp[jO]
  simp[pq,rv]
  refine aI.known (S.R6 _ _) ?_
  simp
  exact e17
 ·have hol:out.length≤1024:=Nat.le_trans (Is (arY hpw) fun x hx=>(ej x).1 hx) kp.len
  have ho0:0<out.length:=List.length_pos_of_mem ((ej _).2 (List.mem_of_getElem? h0))
  have aHI:∀ y∈out.map R2,dR (Mb n) y.2:=by
   intro y hy
   obtain⟨x,hx,rfl⟩:=Fa.1 hy
   exact wQ x ((ej x).1 hx)
  simp
  simp[jO]
  refine key _ h7 nx7 ev cR l (out.map R2) hv hl (by rw[List.length_map];exact ho0) (by rw[List.length_map];exact hol) aHI (jN.R2 hcR) ⟨?_,?_,?_,?_,b7,by omega⟩ ?_ ?_ ?_ e17<;>simp
end Ln
/-
 SX: package-level arrays of strings that a row lists, as the machine's blocks. No condition.
-/
namespace Go.Sx
def zW(W:World)(c i:Nat):Option Value:=match W.heap[c]? with
 |some (.cells arr _ _)=>arr[i]?
 |_=>none
theorem axX{W:World}:∀ c i v,zW W c i=some v→∃ arr elem f,W.heap[c]?=some (.cells arr elem f)∧arr[i]?=some v:=by
 intro c i v h
 unfold zW at h
 split at h
 ·rename_i arr e f he;exact⟨arr,e,f,he,h⟩
 ·cases h
end Go.Sx
