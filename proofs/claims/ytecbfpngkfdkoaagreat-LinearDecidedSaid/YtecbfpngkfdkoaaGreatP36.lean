/- A part of the proof. No condition. -/
import Derived.Test.YtecbfpngkfdkoaaGreatP35
import Derived.Test.YtecbfpngkfdkoaaGreatP34
import Derived.Test.YtecbfpngkfdkoaaGreatP9
import Derived.Test.YtecbfpngkfdkoaaGreatP19
set_option linter.unusedSimpArgs false
set_option linter.unusedVariables false
set_option linter.unusedSectionVars false
namespace Ln
open Go.Sx Go
structure RnI(X:Kn)(i:Nat)(os:List Op)(c:Cf St)(n0:Key)(l0:List (Cf St))(br bm b4 b6 lk d:Key)(cS:AV)(M0:Key→Prop)(ds:List Key)(L:ag)(hA:T ag)(nxA:Key)(k:Nat)(h:T ag)(nx:Key):Prop where
 a:∃(lk:List (Cf St)) (cC c6:AV) (oC o6:Option Key) (E:List Bk),xE (aK X i os) l0 c k=some lk∧Exp n0 lk (Bz (aK X i os) lk c k) br bm b4 b6 cC cS c6 oC o6 E h nx∧(∀b,lP br bm b6 oC o6 E b→M0 b∨nxA.toNat≤b.toNat)
 n:nxA.toNat≤nx.toNat
 g:∀b:Key,b.toNat<nxA.toNat→¬M0 b→ae b h=ae b hA
theorem RnI.ext{X:Kn}{i:Nat}{os:List Op}{c:Cf St}{n0:Key}{l0:List (Cf St)}{br bm b4 b6 lk d:Key}{cS:AV}{M0:Key→Prop}{ds:List Key}{L:ag}{hA:T ag}{nxA:Key}{k:Nat}{h h':T ag}{nx nx':Key}(I:RnI X i os c n0 l0 br bm b4 b6 lk d cS M0 ds L hA nxA k h nx)(e:Ext h nx h' nx'):RnI X i os c n0 l0 br bm b4 b6 lk d cS M0 ds L hA nxA k h' nx':=by
 have n:=e.n;have nI:=I.n;obtain⟨l,cC,c6,oC,o6,E,h1,h2,h3⟩:=I.a;refine⟨⟨l,cC,c6,oC,o6,E,h1,h2.bZ n fun b hb=>e.g b ?_,h3⟩,by omega,fun b hb hm=>by rw[e.g b (by omega)];exact I.g b hb hm⟩;rcases hb with hb|rfl
 ·exact(h2.ct hb).1
 ·exact h2.lt.1
variable{C:bU}{X:Kn}(S:Std C X)(H:PU C)
include S H
theorem aoq{i:Nat}(hi:i<3){os:List Op}(yb:ux i os=0)(sR:∀o∈os,before o o=false)(ho:os.length≤16){cO:AV}(Wt:gR 10 eO cO os){n0:Key}{l0:List (Cf St)}(Zx:l0.length≤1024)(Gg:l0.Nodup)(Hn:∀y∈l0,iX i y.2){c:Cf St}(hc:c∈l0)(cH:c.1<2^os.length){br bm b4 b6 bj b2 b3 r2 r3:Key}{cC cS:AV}{oC:Option Key}{E:List Bk}{u2 u3:AV}{h:T ag}{nx:Key}(A:Exp n0 l0 [] br bm b4 b6 cC cS .nils oC none E h nx)(hn0:n0.toNat≤nx.toNat)
  (vj:ae bj h=Qw (jB X i cO (aQ i) (iN os os.length))) (v2:ae b2 h=Qw [.ptr bj 0]) (v3:ae b3 h=Qw (eC c)) (w2:ae r2 h=Qw [u2]) (w3:ae r3 h=Qw [u3]) (lt:bj.toNat<nx.toNat∧b2.toNat<nx.toNat∧b3.toNat<nx.toNat∧r2.toNat<nx.toNat∧r3.toNat<nx.toNat) (nm:∀b,(b=bj∨b=b2∨b=b3∨b=r2∨b=r3)→¬lP br bm b6 oC none E b) (r23:r2≠r3) (rge:n0.toNat≤r2.toNat∧n0.toNat≤r3.toNat)
  {Q:pV} {ds:List Key} (D:jO n0 ds h nx) {tm:T AV} (WC:ae (K 35) tm=some (.fn bM [] [.ptr b2 0,.ptr b3 0])) (g2:ae (K 2) tm=some (.ptr r2 0)) (g3:ae (K 3) tm=some (.ptr r3 0)) (g4:ae (K 4) tm=some (.ptr b4 0)) (g6:ae (K 6) tm=some (.ptr b6 0))
  (aor:∀d BS h' nx',BS=d ::ds→ib l0 (((aK X i os).steps c).map (·.2))=none→ae r2 h'=Qw [.nilp]→ae r3 h'=Qw [I 4]→jO n0 BS h' nx'→(∀b:Key,b.toNat<n0.toNat→ae b h'=ae b h)→nx.toNat≤nx'.toNat→Q .ret BS tm h' nx')
  (ME:∀d BS h' nx' l' cC' c6' NH o6' E',BS=d ::ds→ib l0 (((aK X i os).steps c).map (·.2))=some l'→Exp n0 l' (rowOf (aK X i os) l' c) br bm b4 b6 cC' cS c6' NH o6' E' h' nx'→(∀b,lP br bm b6 NH o6' E' b→lP br bm b6 oC none E b∨nx.toNat≤b.toNat)→jO n0 BS h' nx'→(∀b:Key,b.toNat<nx.toNat→¬lP br bm b6 oC none E b→ae b h'=ae b h)→nx.toNat≤nx'.toNat→Q .norm BS tm h' nx') :
  V C (.rangeF (.t (K 35)) [K 36,K 37] (.seq (.ops eM) (.ops eN)) (.block 3 (.seq (.staged cU ⟨[K 38,K 39,K 40,K 41,K 42,K 43,K 44,K 45],[]⟩) (.seq (.ops cx) (.cond (.t (K 51)) (.seq (.ops dj) .ret) .skip))))) Q ds tm h nx:=by
 have hd:c.1<65536:=Lm cH (tz ho);have hs:=Hn c hc;have s1:=kTSu nx;have s2:=kTSu nx.succ;refine V.rangeF (g:=bM) (first:=[]) (cap:=[.ptr b2 0,.ptr b3 0]) WC S.gJ.off ?_;intro fn res;have e1:=(E0 h nx (.dfs false)).trans (E0 _ nx.succ (.loop .ready none fn tm res [K 36,K 37] (.seq (.ops eM) (.ops eN)) (.block 3 (.seq (.staged cU ⟨[K 38,K 39,K 40,K 41,K 42,K 43,K 44,K 45],[]⟩) (.seq (.ops cx) (.cond (.t (K 51)) (.seq (.ops dj) .ret) .skip)))) nx));generalize hba:(aL.seq (.ops eM) (.ops eN))=ca at *;generalize aIS:(aL.block 3 (.seq (.staged cU ⟨[K 38,K 39,K 40,K 41,K 42,K 43,K 44,K 45],[]⟩) (.seq (.ops cx) (.cond (.t (K 51)) (.seq (.ops dj) .ret) .skip))))=body at *;have I6:nx∉ds:=fun hm=>by have:=D.lt nx hm;omega
 have gd:ae nx (kW fn tm res [K 36,K 37] ca body h nx)=some (.dfs false):=by unfold kW;rw[aw (by omega)];simp
 have gl:ae nx.succ (kW fn tm res [K 36,K 37] ca body h nx)=some (.loop .ready none fn tm res [K 36,K 37] ca body nx):=by unfold kW;simp
 have Gp:Ext h nx (kW fn tm res [K 36,K 37] ca body h nx) nx.succ.succ:=e1;generalize kW fn tm res [K 36,K 37] ca body h nx=hA at *;have A1:=A.bZ (h':=hA) (nx':=nx.succ.succ) Gp.n (fun b hb=>Gp.g b (by
  rcases hb with hb|rfl
  ·exact(A.ct hb).1
  ·exact A.lt.1))
 have D1:jO n0 (nx ::ds) hA nx.succ.succ:=(D.ext Gp).cons I6 gd hn0 (by omega);have hM:∀b,lP br bm b6 oC none E b→b.toNat<nx.toNat:=fun b hb=>(A.ct hb).1;refine WK S hi yb sR ho Wt hd hs (bj:=bj) (b2:=b2) (b3:=b3) (lk:=nx.succ) (c:=c) (s0:=aQ i) (Inv:=fun k h' nx'=>RnI X i os c n0 l0 br bm b4 b6 nx.succ nx cS (lP br bm b6 oC none E) ds .tok hA nx.succ.succ k h' nx') ⟨?_,?_,?_,?_,?_⟩ ⟨⟨l0,cC,.nils,oC,none,E,aac _ _ _,A1,fun b hb=>.inl hb⟩,dQ _,fun _ _ _=>rfl⟩
 ·rintro k h1 bW h2 aN I e;exact I.ext e
 ·rintro k h1 bW I;have n1:=I.n;refine⟨?_,?_,?_,by omega,by omega,by omega⟩
  ·rw[I.g bj (by omega) (nm bj (.inl rfl)),Gp.g bj lt.1];exact vj
  ·rw[I.g b2 (by omega) (nm b2 (.inr (.inl rfl))),Gp.g b2 lt.2.1];exact v2
  ·rw[I.g b3 (by omega) (nm b3 (.inr (.inr (.inl rfl)))),Gp.g b3 lt.2.2.1];exact v3
 ·rintro k h1 bW hk fI I;obtain⟨l,cC1,c61,oC1,o61,E1,A7,UA,h3'⟩:=I.a;refine⟨⟨l,cC1,c61,oC1,o61,E1,by rw[aad fI];exact A7,?_,h3'⟩,I.n,I.g⟩;have:Bz (aK X i os) l c (k+1)=Bz (aK X i os) l c k:=by unfold Bz;rw[lO,fI];simp
  rw[this];exact UA
 ·rintro k x h1 bW hk fI J0;obtain⟨l,cC1,c61,oC1,o61,E1,hgr,A2,how⟩:=J0.a;have n1:=J0.n;have t1:=kTSu bW;have hsp:=nC hgr;have XG:l.length≤1024:=hsp.2.2.2.1 Zx;have hxs:∀z∈(aK X i os).steps c,iX i z.2.2:=Nk S hi yb hs;have aIT:(k,x)∈(aK X i os).steps c:=by obtain⟨b,e⟩:=KJ (aK X i os) c hk fI;rw[e];simp
  have hkl:∀y∈l,y.2.kids.length≤3:=fun y hy=>by
   rcases hsp.2.2.2.2 y hy with h1|h1
   ·exact Jn (Hn y h1)
   ·obtain⟨z,hz,rfl⟩:=KT.1 h1;obtain⟨t,e⟩:=Hh (aK X i os) c (Nat.le_of_lt hk);have e':(aK X i os).steps c=(aK X i os).kx c k++t:=e;exact Jn (hxs z (by rw[e'];exact List.mem_append_left _ hz))
  have hx3:=Jn (hxs (k,x) aIT);have aIU:(Bz (aK X i os) l c k).length≤1000:=by unfold Bz Sys.kx;rw[List.length_map];have:=List.length_filterMap_le ((aK X i os).step c) (List.range k);rw[List.length_range]at this;have IC:k<os.length:=hk;omega
  have flk:ae nx.succ h1=some (.loop .ready none fn tm res [K 36,K 37] ca body nx):=by rw[J0.g nx.succ (by omega) (fun hm=>by have:=hM _ hm;omega)];exact gl
  have lkM:¬lP br bm b6 oC1 o61 E1 nx.succ:=fun hm=>by rcases (A2.ct hm).2 with⟨_,_,e⟩|e|⟨_,e⟩<;>rw[flk]at e<;>cases e
  suffices hs2:∀R1:Out→T ag→Key→Prop,(∀h' nx',RnI X i os c n0 l0 br bm b4 b6 nx.succ nx cS (lP br bm b6 oC none E) ds .tok hA nx.succ.succ (k+1) h' nx'→R1 (.ret (.bool true)) h' nx')→(∀h' nx',YL Q nx nx.succ fn tm res [K 36,K 37] ca body ds (.ret (.tuple [])) h' nx'→R1 (.ret (.bool false)) h' nx')→AU C nx.succ [I k,.agg (eC x)] h1 bW R1 from
   hs2 _ (fun _ _ h=>.inl ⟨rfl,h⟩) (fun _ _ h=>.inr ⟨rfl,h⟩)
  intro R1 hT hF;refine AU.intro (fun tm2 h2 aN=>aN=bW.succ∧h2=au bW (Qw (eC x)) h1∧ae (K 7) tm2=some (I k)∧ae (K 8) tm2=some (.ptr bW 0)∧ae (K 2) tm2=ae (K 2) tm∧ae (K 3) tm2=ae (K 3) tm∧ae (K 4) tm2=ae (K 4) tm∧ae (K 6) tm2=ae (K 6) tm) flk rfl ?_ ?_
  ·rw[←hba];simp[eM];simp[eN,Mf,wR]
  ·rintro tm2 h2 aN ⟨rfl,rfl,p7,p8,p2,p3,p4,p6⟩;rw[g2]at p2;rw[g3]at p3;rw[g4]at p4;rw[g6]at p6;have e2:=E0 h1 bW (.cells (eC x) .fix);have vx:ae bW (au bW (Qw (eC x)) h1)=Qw (eC x):=by simp
   have aIV:ae nx.succ (au bW (Qw (eC x)) h1)=some (.loop .ready none fn tm res [K 36,K 37] ca body nx):=by rw[e2.g _ (by omega)];exact flk
   have kk2:∀b:Key,b.toNat<bW.toNat→ae b (au bW (Qw (eC x)) h1)=ae b h1:=fun b hb=>e2.g b hb;generalize au bW (Qw (eC x)) h1=h2 at *;refine⟨aIV,?_⟩;have lk3:ae nx.succ (au nx.succ (some (.loop .busy none fn tm res [K 36,K 37] ca body nx)) h2)=some (.loop .busy none fn tm res [K 36,K 37] ca body nx):=by simp
   have kk3:∀b:Key,b≠nx.succ→ae b (au nx.succ (some (.loop .busy none fn tm res [K 36,K 37] ca body nx)) h2)=ae b h2:=fun b hb=>aG _ _ _ _ hb;generalize au nx.succ (some (.loop .busy none fn tm res [K 36,K 37] ca body nx)) h2=h3 at *;have dT:∀b:Key,b.toNat<bW.toNat→b≠nx.succ→ae b h3=ae b h1:=fun b hb h1=>by rw[kk3 b h1,kk2 b hb]
   have A3:=A2.bZ (h':=h3) (nx':=bW.succ) (by omega) (fun b hb=>by
    rcases hb with hb|rfl
    ·exact dT b (A2.ct hb).1 (fun e=>lkM (by rw[←e];exact hb))
    ·exact dT _ A2.lt.1 (fun e=>by have:=A.lt.1;rw[e]at this;omega))
   have notM:∀b,b.toNat<nx.succ.succ.toNat→¬lP br bm b6 oC none E b→¬lP br bm b6 oC1 o61 E1 b:=fun b hb hm h=>by
    rcases how b h with h1|h1
    ·exact hm h1
    ·omega
   have small:∀b:Key,b.toNat<nx.toNat→¬lP br bm b6 oC none E b→ae b h3=ae b h:=fun b hb hm=>by rw[dT b (by omega) (fun e=>by rw[e]at hb;omega),J0.g b (by omega) hm,Gp.g b hb]
   have nr2:=nm r2 (.inr (.inr (.inr (.inl rfl))));have nr3:=nm r3 (.inr (.inr (.inr (.inr rfl))));generalize hrq:HS R1 nx.succ fn tm res [K 36,K 37] ca body nx=RQ;rw[←aIS];refine ar7 S H (by omega) hkl hx3 aIU A3 (by omega) (b8:=bW) (r2:=r2) (r3:=r3) (u2:=u2) (u3:=u3) (by rw[kk3 bW (fun e=>by rw[e]at n1;omega)];exact vx) (by omega) (by rw[small r2 lt.2.2.2.1 nr2];exact w2) (by rw[small r3 lt.2.2.2.2 nr3];exact w3) (by omega) ⟨notM r2 (by omega) nr2,notM r3 (by omega) nr3,r23⟩ p2 p3 p4 p6 p7 p8 ?_ ?_
   ·intro tm' h' nx' hov q2 q3 hn IC;rw[←hrq];have aBF:nx.succ≠r2:=fun e=>by have:=lt.2.2.2.1;rw[←e]at this;omega
    have aBG:nx.succ≠r3:=fun e=>by have:=lt.2.2.2.2;rw[←e]at this;omega
    have lk5:ae nx.succ h'=some (.loop .busy none fn tm res [K 36,K 37] ca body nx):=by rw[IC nx.succ (by omega) lkM aBF aBG];exact lk3
    have C4:ib l0 (((aK X i os).steps c).map (·.2))=none:=aae (k:=k+1) hk (by rw[Pa fI hgr,if_pos hov]);simp;refine⟨⟨none,lk5⟩,hF _ _ ⟨_,rfl,.done,some .ret,by simp,by simp,?_⟩⟩;rw[set_set];refine aor nx _ _ _ rfl C4 (by rw[aG _ _ _ _ (Ne.symm aBF)];exact q2) (by rw[aG _ _ _ _ (Ne.symm aBG)];exact q3) (D1.bZ (by omega) fun b hb hg=>?_) (fun b hb=>?_) (by omega)
    ·have yh:b≠nx.succ:=by rintro rfl;rw[gl]at hg;cases hg
     have hM0:¬lP br bm b6 oC none E b:=fun hm=>by rcases (A1.ct hm).2 with⟨_,_,e⟩|e|⟨_,e⟩<;>rw[hg]at e<;>cases e
     have ND:b≠r2:=by rintro rfl;rw[Gp.g _ lt.2.2.2.1,w2]at hg;cases hg
     have hr3:b≠r3:=by rintro rfl;rw[Gp.g _ lt.2.2.2.2,w3]at hg;cases hg
     rw[aG _ _ _ _ yh,IC b (by omega) (notM b hb hM0) ND hr3,dT b (by omega) yh,J0.g b hb hM0];exact hg
    ·have hM0:¬lP br bm b6 oC none E b:=fun hm=>by have:=A.ge' hm;omega
     rw[aG _ _ _ _ (fun e=>by rw[e]at hb;omega),IC b (by omega) (notM b (by omega) hM0) (fun e=>by have:=rge.1;rw[←e]at this;omega) (fun e=>by have:=rge.2;rw[←e]at this;omega)];exact small b (by omega) hM0
   ·intro tm' h' nx' j cC' c6' NH o6' E' hov hj A4 hn IC aIW;rw[←hrq];have lk5:ae nx.succ h'=some (.loop .busy none fn tm res [K 36,K 37] ca body nx):=by rw[IC nx.succ (by omega) lkM];exact lk3
    have aIX:xE (aK X i os) l0 c (k+1)=some (fX l x):=by rw[Pa fI hgr,if_neg hov]
    have aIY:(fX l x).Nodup:=Kf (hsp.2.2.1 Gg) x;have Bh:(fX l x).idxOf x=j:=awY aIY hj;have wO:Bz (aK X i os) (fX l x) c (k+1)=Bz (aK X i os) l c k ++ [(k,j)]:=by have:=adS fI (l:=l) (adR hgr).2;rw[this];show _ ++ [(k,(fX l x).idxOf x)]=_;rw[Bh]
    have aIZ:¬lP br bm b6 NH o6' E' nx.succ:=fun hm=>by rcases (A4.ct hm).2 with⟨_,_,e⟩|e|⟨_,e⟩<;>rw[lk5]at e<;>cases e
    simp;refine⟨⟨none,lk5⟩,hT _ _ ⟨⟨fX l x,cC',c6',NH,o6',E',aIX,?_,?_⟩,by omega,fun b hb hm=>?_⟩⟩
    ·rw[wO];refine A4.bZ (dQ _) fun b hb=>aG _ _ _ _ (fun e=>?_);rcases hb with hb|rfl
     ·exact aIZ (by rw[←e];exact hb)
     ·have:=A.lt.1;rw[e]at this;omega
    ·intro b hb;rcases aIW b hb with h1|h1
     ·exact how b h1
     ·exact .inr (by omega)
    ·by_cases e:b=nx.succ
     ·subst e;simp;exact gl.symm
     ·rw[aG _ _ _ _ e,IC b (by omega) (notM b hb hm),dT b (by omega) e,J0.g b hb hm]
 ·rintro h1 bW J0;obtain⟨l,cC1,c61,oC1,o61,E1,hgr,A2,how⟩:=J0.a;have n1:=J0.n;have flk:ae nx.succ h1=some (.loop .ready none fn tm res [K 36,K 37] ca body nx):=by rw[J0.g nx.succ (by omega) (fun hm=>by have:=hM _ hm;omega)];exact gl
  have lkM:¬lP br bm b6 oC1 o61 E1 nx.succ:=fun hm=>by rcases (A2.ct hm).2 with⟨_,_,e⟩|e|⟨_,e⟩<;>rw[flk]at e<;>cases e
  refine⟨_,rfl,.ready,none,flk,by simp,?_⟩;refine ME nx _ _ _ l cC1 c61 oC1 o61 E1 rfl hgr ?_ (fun b hb=>?_) (D1.bZ (by omega) fun b hb hg=>?_) (fun b hb hm=>?_) (by omega)
  ·refine A2.bZ (dQ _) fun b hb=>aG _ _ _ _ (fun e=>?_);rcases hb with hb|rfl
   ·exact lkM (by rw[←e];exact hb)
   ·have:=A.lt.1;rw[e]at this;omega
  ·rcases how b hb with h1|h1
   ·exact .inl h1
   ·exact .inr (by omega)
  ·have yh:b≠nx.succ:=by rintro rfl;rw[gl]at hg;cases hg
   have hM0:¬lP br bm b6 oC none E b:=fun hm=>by rcases (A1.ct hm).2 with⟨_,_,e⟩|e|⟨_,e⟩<;>rw[hg]at e<;>cases e
   rw[aG _ _ _ _ yh,J0.g b hb hM0];exact hg
  ·rw[aG _ _ _ _ (fun e=>by rw[e]at hb;omega),J0.g b (by omega) hm,Gp.g b hb]
end Ln
namespace Ln
open Go.Sx Go
structure Srw(l:List (Cf St))(br bm b4:Key)(n0:Key)(cS:AV)(oC oS:Option Key)(E:List Bk)(cs:List AV)(h:T ag)(nx:Key):Prop where
 G:Gr 1 cS cs cs.length h nx oS
 wH:∀y∈cs,UC y∧y.aV=true
 ap:∀b,oS=some b→b≠br∧b≠bm∧b≠b4∧oC≠some b∧(∀e∈E,e.o≠some b)∧n0.toNat≤b.toNat
variable{C:bU}{X:Kn}(S:Std C X)(H:PU C)
theorem axA{n0:Key}{l:List (Cf St)}{st:List (Nat×Nat)}{br bm b4 b6:Key}{cC cS c6:AV}{oC o6 oS:Option Key}{E:List Bk}{cs:List AV}{h:T ag}{nx:Key}(IN:cs.length≤1100)(A:Exp n0 l st br bm b4 b6 cC cS c6 oC o6 E h nx)(B:Srw l br bm b4 n0 cS oC oS E cs h nx)(hn0:n0.toNat≤nx.toNat)(h6S:∀b,o6=some b→oS≠some b){Q:cJ}{tm:T AV}(g4:ae (K 4) tm=some (.ptr b4 0))(g6:ae (K 6) tm=some (.ptr b6 0))
  (hQ:∀tm' h' nx' cS' oS' c6',gR 2 eT c6' st→Vj n0 l br bm cC cS' oC E h' nx'→Srw l br bm b4 n0 cS' oC oS' E (cs ++ [c6']) h' nx'→nx.toNat≤nx'.toNat→(∀b:Key,b.toNat<nx.toNat→b≠br→oS≠some b→o6≠some b→ae b h'=ae b h)→(∀b,oS'=some b→oS=some b∨nx.toNat≤b.toNat)→(∀k,(k=K 0∨k=K 2∨k=K 3∨k=K 4∨k=K 5)→ae k tm'=ae k tm)→Q .norm tm' h' nx') :
  fJ C (.staged ju ⟨[K 52,K 53,K 54,K 55,K 56,K 57,K 58,K 59,K 60,K 61],[]⟩) Q tm h nx:=by
 have s1:=kTSu nx;have k6:=A.G6.cell;have kS:=B.G.cell;have e1:=E0 h nx (.cells [c6] .fix);have G6:=A.G6.ext e1;obtain⟨hi6,hf6⟩:=Gr.OC jb G6 9998;have Ov:cn (aW 9999) [c6] (au nx (Qw [c6]) h)=([(aW 9999 c6 (au nx (Qw [c6]) h)).1],(aW 9999 c6 (au nx (Qw [c6]) h)).2):=by simp only[cn]
 generalize hc7:(aW 9999 c6 (au nx (Qw [c6]) h)).1=c7 at *;generalize hh2:(aW 9999 c6 (au nx (Qw [c6]) h)).2=h2 at *;have k7:=hi6.cell;have st7:UC c7:=hi6.wH;have k2:∀b:Key,b.toNat<nx.toNat→o6≠some b→ae b h2=ae b h:=fun b hb ho=>by rw[hf6 b ho];exact e1.g b hb
 have GS2:Gr 1 cS cs cs.length h2 nx.succ oS:=B.G.bZ (by omega) fun b hb=>k2 b (B.G.lt b hb) (fun e=>h6S b e hb);obtain⟨c8,h3,bP,o8,ha,G8,F8⟩:=GS2.add (new:=[c7]) (m:=1) (by decide) (by decide) (by decide) (fun y hy=>(B.wH y hy).1) rfl (by omega) (by simp[k7.1]);have n3:=F8.n;have k8:=G8.cell;have l4:=A.lt.1;have lr:=A.R.brn;have lm:=A.R.bmn;have k3:∀b:Key,b.toNat<nx.toNat→oS≠some b→o6≠some b→ae b h3=ae b h:=fun b hb h1 h2=>by rw[F8.g b (by omega) h1,k2 b hb h2]
 have v43:ae b4 h3=Qw [.ptr br 0]:=by rw[k3 b4 l4 (fun e=>(B.ap b4 e).2.2.1 rfl) (fun e=>(A.o6 b4 e).2.2.1 rfl)];exact A.v4
 have br3:ae br h3=Qw [cC,cS,.map bm]:=by rw[k3 br lr (fun e=>(B.ap br e).1 rfl) (fun e=>(A.o6 br e).1 rfl)];exact A.R.mD
 have pq:AV.beq (.ptr br 0) (.ptr br 0)=true:=beq_refl _ rfl;simp[-appendTo,ju,g4,g6,A.v4,A.v6,A.R.mD,k6.1,k6.2,Ov,ha,v43,br3,k8.1,k8.2];refine⟨pq,?_⟩;have o8n:∀b:Key,o8=some b→oS=some b∨nx.toNat≤b.toNat:=fun b hb=>by
  rcases F8.o with e|⟨y,e,hy⟩
  ·rw[e]at hb;exact .inl hb
  ·rw[e]at hb;cases hb;exact .inr (by omega)
 have o8b:∀b:Key,o8=some b→b≠br∧b≠bm∧b≠b4∧oC≠some b∧(∀e∈E,e.o≠some b)∧n0.toNat≤b.toNat:=fun b hb=>by
  rcases o8n b hb with h1|h1
  ·exact B.ap b h1
  ·exact⟨fun e=>by rw[e]at h1;omega,fun e=>by rw[e]at h1;omega,fun e=>by rw[e]at h1;omega,fun e=>by have:=A.R.olt (.inl e);omega,fun e he ho=>by have:=A.R.olt (.inr ⟨e,he,ho⟩);omega,by omega⟩
 have k4:∀b:Key,b.toNat<nx.toNat→b≠br→oS≠some b→o6≠some b→ae b (au br (Qw [cC,c8,.map bm]) h3)=ae b h:=fun b hb h0 h1 h2=>by rw[aG _ _ _ _ h0,k3 b hb h1 h2]
 have ow:∀b,(oC=some b∨∃e∈E,e.o=some b)→ae b (au br (Qw [cC,c8,.map bm]) h3)=ae b h:=fun b hb=>by
  refine k4 b (A.R.olt hb) (A.R.ow b hb).1 (fun e=>?_) (fun e=>(A.ap b hb).2.2 e);have h1:=B.ap b e;rcases hb with hb|⟨y,hy,hb⟩
  ·exact h1.2.2.2.1 hb
  ·exact h1.2.2.2.2.1 y hy hb
 refine hQ _ _ _ c8 o8 c7 hi6 ⟨by simp,?_,by omega,by omega,A.R.C.bZ (by omega) fun b hb=>ow b (.inl hb),fun e he=>(A.R.B e he).bZ (by omega) fun b hb=>ow b (.inr ⟨e,he,hb⟩),A.R.nd,A.R.cov,A.R.aiE,A.R.sep,A.R.ow,k8,A.R.bb⟩ ⟨?_,?_,o8b⟩ (by omega) k4 o8n ?_
 ·rw[k4 bm lm (Ne.symm A.R.bb.1) (fun e=>(B.ap bm e).2.1 rfl) (fun e=>(A.o6 bm e).2.1 rfl)];exact A.R.map
 ·have:=G8.bZ (h':=au br (Qw [cC,c8,.map bm]) h3) (dQ _) fun b hb=>aG _ _ _ _ (o8b b hb).1;simpa using this
 ·intro y hy;rcases List.mem_append.1 hy with hy|hy
  ·exact B.wH y hy
  ·simp at hy;subst hy;exact⟨st7,k7.1⟩
 ·rintro k (rfl|rfl|rfl|rfl|rfl)<;>simp
end Ln
namespace Ln
open Go.Sx Go
def AtH(bj b4 r2 r3 b:Key):Prop:=b=bj∨b=b4∨b=r2∨b=r3
structure ExA(X:Kn)(mi:Nat)(os:List Op)(cO:AV)(c0:Cf St)(bj b4 r2 r3 br bm n0:Key)(h0:T ag)(i:Nat)(l:List (Cf St))(cC cS:AV)(oC oS:Option Key)(E:List Bk)(cs:List AV)(ds:List Key)(tm:T AV)(h:T ag)(nx:Key):Prop where
 g0:ae (K 0) tm=some (.ptr bj 0)
 g2:ae (K 2) tm=some (.ptr r2 0)
 g3:ae (K 3) tm=some (.ptr r3 0)
 g4:ae (K 4) tm=some (.ptr b4 0)
 g5:ae (K 5) tm=some (I (i:Int))
 R:Vj n0 l br bm cC cS oC E h nx
 B:Srw l br bm b4 n0 cS oC oS E cs h nx
 csl:cs.length=i
 row:∀q (hq:q<cs.length),∃c,l[q]?=some c∧gR 2 eT cs[q] (rowOf (aK X mi os) l c)
 v4:ae b4 h=Qw [.ptr br 0]
 vj:ae bj h=Qw (jB X mi cO (aQ mi) (iN os os.length))
 w2:∃u,ae r2 h=Qw [u]
 w3:∃u,ae r3 h=Qw [u]
 lt:bj.toNat<nx.toNat∧b4.toNat<nx.toNat∧r2.toNat<nx.toNat∧r3.toNat<nx.toNat
 sep:∀b,AtH bj b4 r2 r3 b→b≠br∧b≠bm∧oC≠some b∧(∀e∈E,e.o≠some b)∧oS≠some b
 r23:r2≠r3
 ge:n0.toNat≤b4.toNat∧n0.toNat≤r2.toNat∧n0.toNat≤r3.toNat
 kp:Kept (aK X mi os) i l
 fst:l[0]?=some c0
 bf:Rt (aK X mi os) (1025-i) i l=Rt (aK X mi os) 1025 0 [c0]
 ok:∀x∈l,iX mi x.2
 il:i≤l.length
 d:jO n0 ds h nx
 e:Ext h0 n0 h nx
def ExI(X:Kn)(mi:Nat)(os:List Op)(cO:AV)(c0:Cf St)(bj b4 r2 r3 br bm n0:Key)(h0:T ag)(m:Nat)(ds:List Key)(tm:T AV)(h:T ag)(nx:Key):Prop:=∃(i:Nat) (l:List (Cf St)) (cC cS:AV) (oC oS:Option Key) (E:List Bk) (cs:List AV),m=1024-i∧ExA X mi os cO c0 bj b4 r2 r3 br bm n0 h0 i l cC cS oC oS E cs ds tm h nx
variable{C:bU}{X:Kn}(S:Std C X)(H:PU C)
include S H
theorem ar6{mi:Nat}(hi:mi<3){os:List Op}(yb:ux mi os=0)(sR:∀o∈os,before o o=false)(ho:os.length≤16){cO:AV}(Wt:gR 10 eO cO os){c0:Cf St}{bj b4 r2 r3 br bm n0:Key}{h0:T ag}{Q:pV}{m:Nat}{ds:List Key}{tm:T AV}{h1:T ag}{bW:Key}(A:ExI X mi os cO c0 bj b4 r2 r3 br bm n0 h0 m ds tm h1 bW)
  (uz:∀ds tm' h' nx',ae (K 2) tm'=some (.ptr r2 0)→ae (K 3) tm'=some (.ptr r3 0)→ae r2 h'=Qw [.nilp]→ae r3 h'=Qw [I 4]→Rt (aK X mi os) 1025 0 [c0]=none→jO n0 ds h' nx'→Ext h0 n0 h' nx'→Q .ret ds tm' h' nx')
  (gC:∀ds tm' h' nx' l cC cS oC oS E cs,ExA X mi os cO c0 bj b4 r2 r3 br bm n0 h0 l.length l cC cS oC oS E cs ds tm' h' nx'→Rt (aK X mi os) 1025 0 [c0]=some l→Q .norm ds tm' h' nx') :
  V C (.loop kh) (si 0 Q) ds tm h1 bW:=by
 have rS:=S.r dA;have hSo:=ID X mi os;refine V.eB (ExI X mi os cO c0 bj b4 r2 r3 br bm n0 h0) A ?_;rintro m ds dF h nx ⟨i,l,cC,cS,oC,oS,E,cs,rfl,A⟩;have hR:=A.R.C.rd;have hl:=A.kp.len;have nE:=A.e.n;have s1:=kTSu nx;refine sQ ?_;simp[kh];by_cases zz:i<l.length
 ·have Zn:(i:Int)<l.length:=by omega
  have hci:l[i]?=some l[i]:=A6 zz;have Ld:=DX zz;simp[↓hR.ln,ke,A.g4,A.g5,A.v4,A.R.mD,Zn];simp[qV];have e1:=E0 h nx (.cells [.nils] .fix);have v6:ae nx (au nx (Qw [.nils]) h)=Qw [.nils]:=by simp
  generalize au nx (Qw [.nils]) h=h2 at *;have R2:=A.R.ext e1;have hR2:=R2.C.rd;have v42:ae b4 h2=Qw [.ptr br 0]:=by rw[e1.g b4 A.lt.2.1];exact A.v4
  simp[↓hR2.ix wM zz,qW,A.g0,A.g4,A.g5,v42,R2.mD,rS,JD];refine(WJ S).mono ?_;rintro o h3 bP ⟨rfl,b23,b33,rfl,e3⟩;have s3:=kTSu nx.succ;have s4:=kTSu nx.succ.succ;have UD:=e1.trans e3;have dT:∀b:Key,b.toNat<nx.toNat→ae b h3=ae b h:=fun b hb=>UD.g b hb;have R3:=A.R.ext UD;have v63:ae nx h3=Qw [.nils]:=by rw[e3.g nx (by omega)];exact v6
  obtain⟨u2,w2⟩:=A.w2;obtain⟨u3,w3⟩:=A.w3;have hnx:∀b:Key,b.toNat<nx.toNat→b≠nx:=fun b hb e=>by rw[e]at hb;omega
  have l4:=A.lt.2.1;have s4':=A.sep b4 (.inr (.inl rfl));have EX:Exp n0 l [] br bm b4 nx cC cS .nils oC none E h3 nx.succ.succ.succ:=by
   refine⟨R3,by rw[dT b4 l4];exact A.v4,v63,Gr.nil _ _ _,by omega,⟨s4'.1,s4'.2.1,hnx b4 l4,fun e=>hnx br A.R.brn e.symm,fun e=>hnx bm A.R.bmn e.symm⟩,?_,by simp,by have:=A.ge;omega⟩;intro b hb;have Ch:=A.R.olt hb;refine⟨fun e=>?_,hnx b Ch,by simp⟩;subst e;rcases hb with hb|⟨y,hy,hb⟩
   ·exact s4'.2.2.1 hb
   ·exact s4'.2.2.2.1 y hy hb
  have notM:∀b:Key,b.toNat<nx.toNat→b≠br→b≠bm→oC≠some b→(∀e∈E,e.o≠some b)→¬lP br bm nx oC none E b:=fun b hb h1 h2 h3 h4 hm=>by
   rcases hm with hm|hm|hm|hm|⟨y,hy,hm⟩|hm
   ·exact h1 hm
   ·exact h2 hm
   ·exact hnx b hb hm
   ·exact h3 hm
   ·exact h4 y hy hm
   ·cases hm
  have ltA:=A.lt;have ao2:∀b,AtH bj b4 r2 r3 b→b.toNat<nx.toNat→¬lP br bm nx oC none E b:=fun b hb hn=>by have h1:=A.sep b hb;exact notM b hn h1.1 h1.2.1 h1.2.2.1 h1.2.2.2.1
  have aCs:∀b:Key,nx.toNat<b.toNat→¬lP br bm nx oC none E b:=fun b hb hm=>by
   rcases hm with hm|hm|hm|hm|⟨y,hy,hm⟩|hm
   ·have:=A.R.brn;rw[hm]at hb;omega
   ·have:=A.R.bmn;rw[hm]at hb;omega
   ·rw[hm]at hb;omega
   ·have:=A.R.olt (.inl hm);omega
   ·have:=A.R.olt (.inr ⟨y,hy,hm⟩);omega
   ·cases hm
  have hgm:∀b,(b=bj∨b=nx.succ∨b=nx.succ.succ∨b=r2∨b=r3)→¬lP br bm nx oC none E b:=fun b hb=>by
   rcases hb with rfl|rfl|rfl|rfl|rfl
   ·exact ao2 _ (.inl rfl) ltA.1
   ·exact aCs _ (by omega)
   ·exact aCs _ (by omega)
   ·exact ao2 _ (.inr (.inr (.inl rfl))) ltA.2.2.1
   ·exact ao2 _ (.inr (.inr (.inr rfl))) ltA.2.2.2
  have BB:=A.bf;rw[show 1025-i=(1024-i)+1 by omega,ao3 hci]at BB;have D3:=A.d.ext UD;simp;refine aoq S H hi yb sR ho Wt hl A.kp.nodup A.ok Ld (A.kp.lt _ Ld) (b2:=nx.succ) (b3:=nx.succ.succ) (r2:=r2) (r3:=r3) (bj:=bj) EX (by omega) (by rw[dT bj ltA.1];exact A.vj) b23 b33 (by rw[dT r2 ltA.2.2.1];exact w2) (by rw[dT r3 ltA.2.2.2];exact w3) (by omega) hgm A.r23 A.ge.2 D3 ?_ ?_ ?_ ?_ ?_ ?_ ?_
  ·simp
  ·simp[A.g2]
  ·simp[A.g3]
  ·simp[A.g4]
  ·simp
  ·intro d BS h' nx' hds C4 q2 q3 D' fr hn;rw[C4]at BB;simp;exact uz _ _ _ _ (by simp[A.g2]) (by simp[A.g3]) q2 q3 BB.symm D' ⟨by omega,fun b hb=>by rw[fr b hb,dT b (by omega)];exact A.e.g b hb⟩
  ·intro d BS h' nx' l' cC' c6' NH o6' E' hds C4 A' how D' fr hn;rw[C4]at BB;have aJ0:Rt (aK X mi os) (1024-i) (i+1) l'=Rt (aK X mi os) 1025 0 [c0]:=BB;have hsp:=nC C4;obtain⟨t,et⟩:=hsp.1;have oSn:∀b:Key,oS=some b→b.toNat<nx.toNat:=fun b hb=>A.B.G.lt b hb;have oSM:∀b:Key,oS=some b→¬lP br bm nx oC none E b:=fun b hb=>by have h1:=A.B.ap b hb;exact notM b (oSn b hb) h1.1 h1.2.1 h1.2.2.2.1 h1.2.2.2.2.1
   have axz:∀b:Key,oS=some b→¬lP br bm nx NH o6' E' b:=fun b hb hm=>by
    rcases how b hm with h1|h1
    ·exact oSM b hb h1
    ·have:=oSn b hb;omega
   have MZ:∀b:Key,b.toNat<nx.toNat→¬lP br bm nx oC none E b→ae b h'=ae b h:=fun b hb hm=>by rw[fr b (by omega) hm,dT b hb]
   have B':Srw l' br bm b4 n0 cS NH oS E' cs h' nx':=by refine⟨A.B.G.bZ (by omega) fun b hb=>MZ b (oSn b hb) (oSM b hb),A.B.wH,fun b hb=>?_⟩;have h1:=A.B.ap b hb;exact⟨h1.1,h1.2.1,h1.2.2.1,fun e=>axz b hb (.inr (.inr (.inr (.inl e)))),fun e he ho=>axz b hb (.inr (.inr (.inr (.inr (.inl ⟨e,he,ho⟩))))),h1.2.2.2.2.2⟩
   have alT:=A.csl;simp;refine axA (C:=C) (by omega) A' B' (by omega) (fun b hb e=>axz b e (.inr (.inr (.inr (.inr (.inr hb)))))) (by simp[A.g4]) (by simp) (fun tm2 h5 nx5 cS2 oS2 c62 wO R5 B5 hn5 k5 hoS hk=>?_);have p0:=hk (K 0) (.inl rfl);have p2:=hk (K 2) (.inr (.inl rfl));have p3:=hk (K 3) (.inr (.inr (.inl rfl)));have p4:=hk (K 4) (.inr (.inr (.inr (.inl rfl))));have p5:=hk (K 5) (.inr (.inr (.inr (.inr rfl))));simp[A.g0]at p0;simp[A.g2]at p2;simp[A.g3]at p3;simp[A.g4]at p4;simp[A.g5]at p5;have aCt:∀b:Key,AtH bj b4 r2 r3 b→b.toNat<nx.toNat→¬lP br bm nx NH o6' E' b:=fun b hb hn' hm=>by
    rcases how b hm with h1|h1
    ·exact ao2 b hb hn' h1
    ·omega
   have at5:∀b:Key,AtH bj b4 r2 r3 b→b.toNat<nx.toNat→ae b h5=ae b h:=fun b hb hn'=>by have hm:=aCt b hb hn';have h1:=A.sep b hb;rw[k5 b (by omega) h1.1 h1.2.2.2.2 (fun e=>hm (.inr (.inr (.inr (.inr (.inr e)))))),MZ b hn' (ao2 b hb hn')]
   simp;simp[pZ,p5];rw[aH (by omega) (by omega)];have aJ2:i+1≤l'.length:=by rw[et,Ll];omega
   refine⟨1024-(i+1),by omega,i+1,l',cC',cS2,NH,oS2,E',cs ++ [c62],rfl,?_⟩;refine⟨by simp[p0],by simp[p2],by simp[p3],by simp[p4],by simp,R5,B5,by simp[alT],?_,by rw[at5 b4 (.inr (.inl rfl)) ltA.2.1];exact A.v4,by rw[at5 bj (.inl rfl) ltA.1];exact A.vj,⟨u2,by rw[at5 r2 (.inr (.inr (.inl rfl))) ltA.2.2.1];exact w2⟩,⟨u3,by rw[at5 r3 (.inr (.inr (.inr rfl))) ltA.2.2.2];exact w3⟩,by omega,?_,A.r23,A.ge,A.kp.next hSo hci C4,by rw[et,List.getElem?_append_left (by omega)];exact A.fst,?_,?_,aJ2,?_,?_⟩
   ·intro q hq;by_cases hqc:q<cs.length
    ·obtain⟨c,h1,h2⟩:=A.row q hqc;have NF:∀x∈(aK X mi os).steps c,x.2∈l:=A.kp.done q c (by omega) h1;refine⟨c,by rw[et,List.getElem?_append_left (by omega)];exact h1,?_⟩;rw[List.getElem_append_left hqc,et,ake NF];exact h2
    ·have hqe:q=cs.length:=by simp at hq;omega
     subst hqe;refine⟨l[i],by rw[et,alT,List.getElem?_append_left zz];exact hci,?_⟩;rw[List.getElem_append_right (dQ _)];simpa using wO
   ·intro b hb;have Ch:b.toNat<nx.toNat:=by rcases hb with rfl|rfl|rfl|rfl<;>omega
    have h1:=A.sep b hb;have hm:=aCt b hb Ch;refine⟨h1.1,h1.2.1,fun e=>hm (.inr (.inr (.inr (.inl e)))),fun e he ho=>hm (.inr (.inr (.inr (.inr (.inl ⟨e,he,ho⟩))))),fun e=>?_⟩;rcases hoS b e with h2|h2
    ·exact h1.2.2.2.2 h2
    ·omega
   ·rw[show 1025-(i+1)=1024-i by omega];exact aJ0
   ·intro y hy;rcases hsp.2.2.2.2 y hy with h1|h1
    ·exact A.ok y h1
    ·obtain⟨z,hz,rfl⟩:=KT.1 h1;exact Nk S hi yb (A.ok _ Ld) z hz
   ·refine D'.bZ (by omega) fun b hb hg=>?_;rw[k5 b hb (by rintro rfl;rw[A'.R.mD]at hg;cases hg) (fun e=>by rcases B'.G.ct e with⟨_,_,h1⟩|h1<;>rw[hg]at h1<;>cases h1) (fun e=>by rcases A'.G6.ct e with⟨_,_,h1⟩|h1<;>rw[hg]at h1<;>cases h1)];exact hg
   ·refine⟨by omega,fun b hb=>?_⟩;have hbM:¬lP br bm nx oC none E b:=fun hm=>by have:=EX.ge' hm;omega
    rw[k5 b (by omega) (fun e=>by have:=A.R.bb.2.1;rw[←e]at this;omega) (fun e=>by have:=(A.B.ap b e).2.2.2.2.2;omega) (fun e=>by have:=(A'.o6 b e).2.2.2.2;omega),MZ b (by omega) hbM];exact A.e.g b hb
 ·have IQ:i=l.length:=by have:=A.il;omega
  subst IQ;have BB:=A.bf;rw[asC (by omega)]at BB;simp[↓hR.ln,ke,A.g4,A.g5,A.v4,A.R.mD];refine gC _ _ _ _ l cC cS oC oS E cs {A with g0:=?_,g2:=?_,g3:=?_,g4:=?_,g5:=?_} BB.symm
  ·simp[A.g0]
  ·simp[A.g2]
  ·simp[A.g3]
  ·simp[A.g4]
  ·simp[A.g5]
end Ln
namespace Ln
open Go.Sx Go
structure ExG(X:Kn)(mi:Nat)(os:List Op)(n0:Key)(l:List (Cf St))(br:Key)(cC cS:AV)(cs:List AV)(h:T ag)(nx:Key):Prop where
 R:∃bm oC E,Vj n0 l br bm cC cS oC E h nx
 B:∃oS,Gr 1 cS cs cs.length h nx oS
 wH:∀y∈cs,UC y∧y.aV=true
 csl:cs.length=l.length
 row:∀q (hq:q<cs.length),∃c,l[q]?=some c∧gR 2 eT cs[q] (rowOf (aK X mi os) l c)
def ExR(X:Kn)(mi:Nat)(os:List Op)(c0:Cf St)(h:T ag)(nx:Key)(o:Out)(h':T ag)(nx':Key):Prop:=Ext h nx h' nx'∧
 ((Rt (aK X mi os) 1025 0 [c0]=none∧o=.ret (.tuple [.nilp,I 4]))∨
  ∃l br cC cS cs,Rt (aK X mi os) 1025 0 [c0]=some l∧o=.ret (.tuple [.ptr br 0,I 0])∧Kept (aK X mi os) l.length l∧l[0]?=some c0∧(∀x∈l,iX mi x.2)∧ExG X mi os nx l br cC cS cs h' nx')
theorem aon{r2 r3 n0:Key}{v2 v3:AV}{ds:List Key}{tm:T AV}{h:T ag}{nx':Key}{R:Out→T ag→Key→Prop}(g2:ae (K 2) tm=some (.ptr r2 0))(g3:ae (K 3) tm=some (.ptr r3 0))(w2:ae r2 h=Qw [v2])(w3:ae r3 h=Qw [v3])(z2:∀H,aW 9999 v2 H=(v2,H))(z3:∀H,aW 9999 v3 H=(v3,H))(D:jO n0 ds h nx')(hR:∀h2:T ag,(∀b,b∉ds→ae b h2=ae b h)→R (.ret (.tuple [v2,v3])) h2 nx') :
  MI [.cell (K 2) false 1,.cell (K 3) false 1] R .ret ds tm h nx':=by
 refine⟨D.nodup,D.get,fun h2 h3=>?_⟩;have n2:r2∉ds:=fun hm=>by have:=D.get r2 hm;rw[w2]at this;cases this
 have n3:r3∉ds:=fun hm=>by have:=D.get r3 hm;rw[w3]at this;cases this
 have b2:ae r2 h2=Qw [v2]:=by rw[h3 r2 n2];exact w2
 have b3:ae r3 h2=Qw [v3]:=by rw[h3 r3 n3];exact w3
 have hz:cn (aW 9999) [v2,v3] h2=([v2,v3],h2):=by simp only[cn,z2,z3]
 refine⟨[v2,v3],by simp[g2,g3,b2,b3],?_⟩;rw[hz];exact hR h2 h3
theorem aBA{n0:Key}{ds:List Key}{h:T ag}{nx b:Key}(D:jO n0 ds h nx)(hb:(∃l k,ae b h=some (.cells l k))∨ae b h=some .tok∨∃l,ae b h=some (.map l)):b∉ds:=fun hm=>by have:=D.get b hm;rcases hb with⟨_,_,e⟩|e|⟨_,e⟩<;>rw[this]at e<;>cases e
variable{C:bU}{X:Kn}(S:Std C X)(H:PU C)
include S H
theorem adZ{mi:Nat}(hi:mi<3){os:List Op}(yb:ux mi os=0)(sR:∀o∈os,before o o=false)(ho:os.length≤16){cO:AV}(Wt:gR 10 eO cO os){h:T ag}{nx bj:Key}(vj:ae bj h=Qw (jB X mi cO (aQ mi) (iN os os.length)))(bjn:bj.toNat<nx.toNat) :
  aM C fi [.ptr bj 0] h nx (ExR X mi os (0,aQ mi) h nx):=by
 have rA:=S.r dL;have s1:=kTSu nx;have s2:=kTSu nx.succ;have s3:=kTSu nx.succ.succ;have s4:=kTSu nx.succ.succ.succ;have s5:=kTSu nx.succ.succ.succ.succ;refine S.sH.callV ?_;simp[mK];simp[qR];simp[qS]
 try simp only[show(AV.int IntKind.i64 (SI.lit 0))=I 0 from rfl]
 obtain⟨br,hbr⟩:∃br,br=nx.succ.succ.succ:=⟨_,rfl⟩;obtain⟨b4,hb4⟩:∃b4,b4=nx.succ.succ.succ.succ:=⟨_,rfl⟩;obtain⟨bm,hbm⟩:∃bm,bm=nx.succ.succ:=⟨_,rfl⟩;obtain⟨r3,hr3⟩:∃r3,r3=nx.succ:=⟨_,rfl⟩;have e1:=((((E0 h nx (.cells [.nilp] .fix)).trans (E0 _ nx.succ (.cells [I 0] .fix))).trans (E0 _ nx.succ.succ (.map []))).trans (E0 _ nx.succ.succ.succ (.cells [.nils,.nils,.map nx.succ.succ] .fix))).trans (E0 _ nx.succ.succ.succ.succ (.cells [.ptr nx.succ.succ.succ 0] .fix));have q4:ae b4 (au nx.succ.succ.succ.succ (Qw [.ptr nx.succ.succ.succ 0]) (au nx.succ.succ.succ (Qw [.nils,.nils,.map nx.succ.succ]) (au nx.succ.succ (some (.map [])) (au nx.succ (Qw [I 0]) (au nx (Qw [.nilp]) h)))))=Qw [.ptr br 0]:=by rw[hb4,hbr];simp
 have qr:ae br (au nx.succ.succ.succ.succ (Qw [.ptr nx.succ.succ.succ 0]) (au nx.succ.succ.succ (Qw [.nils,.nils,.map nx.succ.succ]) (au nx.succ.succ (some (.map [])) (au nx.succ (Qw [I 0]) (au nx (Qw [.nilp]) h)))))=Qw [.nils,.nils,.map bm]:=by rw[hbr,hbm,aw (by omega)];simp
 have qm:ae bm (au nx.succ.succ.succ.succ (Qw [.ptr nx.succ.succ.succ 0]) (au nx.succ.succ.succ (Qw [.nils,.nils,.map nx.succ.succ]) (au nx.succ.succ (some (.map [])) (au nx.succ (Qw [I 0]) (au nx (Qw [.nilp]) h)))))=some (.map []):=by rw[hbm,aw (by omega),aw (by omega)];simp
 have q3:ae r3 (au nx.succ.succ.succ.succ (Qw [.ptr nx.succ.succ.succ 0]) (au nx.succ.succ.succ (Qw [.nils,.nils,.map nx.succ.succ]) (au nx.succ.succ (some (.map [])) (au nx.succ (Qw [I 0]) (au nx (Qw [.nilp]) h)))))=Qw [I 0]:=by rw[hr3,aw (by omega),aw (by omega),aw (by omega)];simp
 have q2:ae nx (au nx.succ.succ.succ.succ (Qw [.ptr nx.succ.succ.succ 0]) (au nx.succ.succ.succ (Qw [.nils,.nils,.map nx.succ.succ]) (au nx.succ.succ (some (.map [])) (au nx.succ (Qw [I 0]) (au nx (Qw [.nilp]) h)))))=Qw [.nilp]:=by rw[aw (by omega),aw (by omega),aw (by omega),aw (by omega)];simp
 have n4:b4.toNat=nx.toNat+4:=by rw[hb4];omega
 have nr:br.toNat=nx.toNat+3:=by rw[hbr];omega
 have nm:bm.toNat=nx.toNat+2:=by rw[hbm];omega
 have n3:r3.toNat=nx.toNat+1:=by rw[hr3];omega
 rw[←hb4,←hr3]at *;generalize au b4 _ _=h1 at *;have s6:=kTSu b4;have vj1:ae bj h1=Qw (jB X mi cO (aQ mi) (iN os os.length)):=by rw[e1.g bj bjn];exact vj
 have hj5:List.take 5 (List.drop 5 (jB X mi cO (aQ mi) (iN os os.length)))=eC (0,aQ mi):=rfl;have bY:(jB X mi cO (aQ mi) (iN os os.length)).length=11:=rfl;have aIP:(aQ mi).kids.length≤3:=Jn (Q4 hi);have R1:Vj nx [] br bm .nils .nils none [] h1 b4.succ:=by refine⟨qr,qm,by omega,by omega,Gr.nil _ _ _,by simp,by simp,by simp,by simp,by simp,by simp,⟨rfl,rfl⟩,⟨fun e=>by rw[e]at nr;omega,by omega,by omega⟩⟩
 simp[qT,q4,vj1,hj5,bY,rA,JD];refine(alD S H (l:=[]) (by simp) (by simp) (x:=(0,aQ mi)) aIP (by omega) R1).mono ?_;rintro o h2 aN ⟨⟨j,cC,oC,E,hj,rfl,R2,how⟩,n2,k2⟩;have C4:fX ([]:List (Cf St)) (0,aQ mi)=[(0,aQ mi)]:=rfl;rw[C4]at R2;simp;simp[qU];have k2':∀b:Key,b.toNat<b4.succ.toNat→b≠br→b≠bm→ae b h2=ae b h1:=fun b hb h1 h2=>k2 b hb h1 h2 (by simp) (by simp);have own:∀b,(oC=some b∨∃e∈E,e.o=some b)→b4.succ.toNat≤b.toNat:=fun b hb=>by
  rcases how b hb with(h1|⟨e,he,_⟩)|h1
  ·cases h1
  ·simp at he
  ·exact h1
 have ne:∀b:Key,b.toNat≠nx.toNat+3→b.toNat≠nx.toNat+2→b≠br∧b≠bm:=fun b h1 h2=>⟨fun e=>h1 (by rw[e];exact nr),fun e=>h2 (by rw[e];exact nm)⟩;have A0:ExA X mi os cO (0,aQ mi) bj b4 nx r3 br bm nx h 0 [(0,aQ mi)] cC .nils oC none E [] [] (au (K 5) (some (I 0)) (au (K 17) (some (I j)) (au (K 4) (some (.ptr b4 0)) (au (K 3) (some (.ptr r3 0)) (au (K 2) (some (.ptr nx 0)) (au (K 0) (some (.ptr bj 0)) .nil)))))) h2 aN:=by
  refine⟨by simp,by simp,by simp,by simp,by simp,R2,⟨Gr.nil _ _ _,by simp,by simp⟩,rfl,by simp,?_,?_,⟨.nilp,?_⟩,⟨I 0,?_⟩,by omega,?_,fun e=>by rw[←e]at n3;omega,by omega,Kept.start (by omega),rfl,rfl,?_,by simp,jO.nil _ _ _,?_⟩
  ·have h1:=ne b4 (by omega) (by omega);rw[k2' b4 (by omega) h1.1 h1.2];exact q4
  ·have h1:=ne bj (by omega) (by omega);rw[k2' bj (by omega) h1.1 h1.2];exact vj1
  ·have h1:=ne nx (by omega) (by omega);rw[k2' nx (by omega) h1.1 h1.2];exact q2
  ·have h1:=ne r3 (by omega) (by omega);rw[k2' r3 (by omega) h1.1 h1.2];exact q3
  ·intro b hb;have Ch:b.toNat<b4.succ.toNat∧b.toNat≠nx.toNat+3∧b.toNat≠nx.toNat+2:=by rcases hb with rfl|rfl|rfl|rfl<;>omega
   have h1:=ne b Ch.2.1 Ch.2.2;refine⟨h1.1,h1.2,fun e=>by have:=own b (.inl e);omega,fun e he ho=>by have:=own b (.inr ⟨e,he,ho⟩);omega,by simp⟩
  ·intro y hy;simp at hy;subst hy;exact Q4 hi
  ·refine⟨by omega,fun b hb=>?_⟩;have h1:=ne b (by omega) (by omega);rw[k2' b (by omega) h1.1 h1.2];exact e1.g b hb
 refine ar6 S H hi yb sR ho Wt (c0:=(0,aQ mi)) (bj:=bj) (b4:=b4) (r2:=nx) (r3:=r3) (br:=br) (bm:=bm) (n0:=nx) (h0:=h) (m:=1024) ⟨0,[(0,aQ mi)],cC,.nils,oC,none,E,[],rfl,{A0 with g0:=?_,g2:=?_,g3:=?_,g4:=?_,g5:=?_}⟩ ?_ ?_
 ·simp
 ·simp
 ·simp
 ·simp
 ·simp
 ·intro ds tm' h' nx' g2 g3 w2 w3 hb D e;refine aon g2 g3 w2 w3 (fun _=>rfl) (fun _=>rfl) D fun h2 h3=>?_;refine⟨⟨e.n,fun b Ch=>?_⟩,.inl ⟨hb,rfl⟩⟩;rw[h3 b (fun hm=>by have:=D.ge b hm;omega)];exact e.g b Ch
 ·intro ds tm' h' nx' l cC cS oC oS E cs A hb;obtain⟨u2,w2⟩:=A.w2;obtain⟨u3,w3⟩:=A.w3;have r23:=A.r23;have w33:∀B,ae r3 (au nx B h')=Qw [u3]:=fun B=>by rw[aG _ _ _ _ (Ne.symm r23)];exact w3
  simp;simp[pY,A.g2,A.g3,A.g4,A.v4,w2,w33];have k5:∀b:Key,b≠nx→b≠r3→ae b (au r3 (Qw [I 0]) (au nx (Qw [.ptr br 0]) h'))=ae b h':=fun b h1 h2=>by rw[aG _ _ _ _ h2,aG _ _ _ _ h1]
  have z2:ae nx (au r3 (Qw [I 0]) (au nx (Qw [.ptr br 0]) h'))=Qw [.ptr br 0]:=by rw[aG _ _ _ _ r23];simp
  have z3:ae r3 (au r3 (Qw [I 0]) (au nx (Qw [.ptr br 0]) h'))=Qw [I 0]:=by simp
  have D5:jO nx ds (au r3 (Qw [I 0]) (au nx (Qw [.ptr br 0]) h')) nx':=A.d.bZ (dQ _) fun b _ hg=>by rw[k5 b (by rintro rfl;rw[w2]at hg;cases hg) (by rintro rfl;rw[w3]at hg;cases hg)];exact hg
  generalize au r3 (Qw [I 0]) (au nx (Qw [.ptr br 0]) h')=h5 at *;refine aon (by simp[A.g2]) (by simp[A.g3]) z2 z3 (fun _=>rfl) (fun _=>rfl) D5 fun h2 h3=>?_;have bZ:∀b:Key,((∃l k,ae b h'=some (.cells l k))∨ae b h'=some .tok∨∃l,ae b h'=some (.map l))→b≠nx→b≠r3→ae b h2=ae b h':=fun b hb h1 h4=>by have h6:=k5 b h1 h4;rw[h3 b (aBA D5 (by rw[h6];exact hb)),h6]
  have aoo:=A.sep nx (.inr (.inr (.inl rfl)));have aop:=A.sep r3 (.inr (.inr (.inr rfl)));refine⟨⟨A.e.n,fun b Ch=>?_⟩,.inr ⟨l,br,cC,cS,cs,hb,rfl,A.kp,A.fst,A.ok,⟨⟨bm,oC,E,A.R.bZ (dQ _) fun b hb=>?_⟩,⟨oS,A.B.G.bZ (dQ _) fun b hb=>?_⟩,A.B.wH,A.csl,A.row⟩⟩⟩
  ·rw[h3 b (fun hm=>by have:=D5.ge b hm;omega),k5 b (fun e=>by rw[e]at Ch;omega) (fun e=>by rw[e]at Ch;omega)];exact A.e.g b Ch
  ·rcases hb with rfl|rfl|hb|⟨e,he,hb⟩
   ·exact bZ _ (.inl ⟨_,_,A.R.mD⟩) (Ne.symm aoo.1) (Ne.symm aop.1)
   ·exact bZ _ (.inr (.inr ⟨_,A.R.map⟩)) (Ne.symm aoo.2.1) (Ne.symm aop.2.1)
   ·refine bZ b ?_ (fun e=>aoo.2.2.1 (by rw[←e];exact hb)) (fun e=>aop.2.2.1 (by rw[←e];exact hb));rcases A.R.C.ct hb with h1|h1
    ·exact .inl h1
    ·exact .inr (.inl h1)
   ·refine bZ b ?_ (fun e'=>aoo.2.2.2.1 e he (by rw[←e'];exact hb)) (fun e'=>aop.2.2.2.1 e he (by rw[←e'];exact hb));rcases (A.R.B e he).ct hb with h1|h1
    ·exact .inl h1
    ·exact .inr (.inl h1)
  ·refine bZ b ?_ (fun e=>aoo.2.2.2.2 (by rw[←e];exact hb)) (fun e=>aop.2.2.2.2 (by rw[←e];exact hb));rcases A.B.G.ct hb with h1|h1
   ·exact .inl h1
   ·exact .inr (.inl h1)
end Ln
namespace Ln
open Go.Sx Go
def c9(l:List Bool):List AV:=l.map fun b=>.bool b
theorem gT(l:List Bool):(c9 l).length=l.length:=List.length_map ..
theorem ze{l:List Bool}{i:Nat}(h:i<l.length):(c9 l)[i]?=some (.bool l[i]):=by unfold c9;rw[List.getElem?_map,A6 h];rfl
theorem C3{l:List Bool}{i:Nat}(h:i<l.length)(v:Bool):List.take i (c9 l) ++ .bool v ::List.drop (i+1) (c9 l)=c9 (l.set i v):=by unfold c9;rw[List.map_set,List.set_eq_take_append_cons_drop,if_pos (by rw[List.length_map];exact h)]
def Jx(base:List Bool)(row:List (Nat×Nat)):Bool:=row.any fun t=>base.getD t.2 false
def GdI(row:List (Nat×Nat))(base:List Bool)(p:Nat)(v0:Bool)(c77:AV)(b14 bg:Key)(h:T ag)(nx:Key)(P:T AV→Prop)(m:Nat)(tm':T AV)(h':T ag)(nx':Key):Prop:=∃j:Nat,m=row.length-j∧j≤row.length∧P tm'∧ae (K 14) tm'=some (.ptr b14 0)∧ae (K 15) tm'=some (I (p:Int))∧ae (K 77) tm'=some c77∧ae (K 78) tm'=some (I row.length)∧ae (K 79) tm'=some (I j)∧ae bg h'=Qw (c9 (base.set p (v0||Jx base (row.take j))))∧nx.toNat≤nx'.toNat∧∀b:Key,b.toNat<nx.toNat→b≠bg→ae b h'=ae b h
variable{C:bU}{X:Kn}(S:Std C X)(H:PU C)
theorem au2{row:List (Nat×Nat)}{c77:AV}(wO:gR 2 eT c77 row)(hrl:row.length≤1000){base:List Bool}{p:Nat}(hp:p<base.length)(yh:base.length≤1024)(hto:∀t∈row,p<t.2∧t.2<base.length){v0:Bool}{b14 bg:Key}{h:T ag}{nx:Key}(v14:ae b14 h=Qw [.slice bg 0 base.length 1])(adH:b14.toNat<nx.toNat)(bgn:bg.toNat<nx.toNat)(bne:b14≠bg){P:T AV→Prop}(hP:∀tm k v,P tm→(k=K 17∨k=K 79∨(80≤k.toNat∧k.toNat≤97))→P (au k v tm)){Q:cJ}{m:Nat}{tm:T AV}{h1:T ag}{bW:Key}(A:GdI row base p v0 c77 b14 bg h nx P m tm h1 bW)
  (gC:∀tm' h' nx',P tm'→ae (K 15) tm'=some (I (p:Int))→ae (K 14) tm'=some (.ptr b14 0)→ae bg h'=Qw (c9 (base.set p (v0||Jx base row)))→nx.toNat≤nx'.toNat→(∀b:Key,b.toNat<nx.toNat→b≠bg→ae b h'=ae b h)→Q .norm tm' h' nx') :
  W C (.loop zL) (az 2 Q) tm h1 bW:=by
 refine W.eB (GdI row base p v0 c77 b14 bg h nx P) A ?_;rintro m dF h2 aN ⟨j,rfl,hj,hPt,g14,g15,g77,g78,g79,vg,hn,hf⟩;refine W.of ?_;simp[zL];by_cases bY:j<row.length
 ·have Bh:(j:Int)<row.length:=by omega
  have hR:=wO.rd h2 aN;have s2:=kTSu aN;have aqt:ae b14 h2=Qw [.slice bg 0 base.length 1]:=by rw[hf b14 adH bne];exact v14
  obtain⟨ht1,ht2⟩:=hto _ (DX bY);have QV:Jx base (row.take (j+1))=(Jx base (row.take j)||base.getD row[j].2 false):=by unfold Jx;rw[zqu bY,List.any_append];simp
  have hce:(eT row[j]).all AV.aV=true:=AQ.2 (jb.cell _);have hle:(eT row[j]).length=2:=rfl;have he1:(eT row[j])[1]?=some (I (row[j].2:Int)):=rfl;simp[xA,g78,g79,Bh];simp only[EO,Ls,SG,SH,Lw,SJ,Lx,SK,SL,Lt,Lu,SM,SN,SO,SP];simp[↓hR.ix jb bY,g77,g79,hce,hle];generalize row[j]=t at *;generalize hv:(v0||Jx base (row.take j))=vj at *;have e3:=E0 h2 aN (.cells (eT t) .fix);have v17:ae aN (au aN (Qw (eT t)) h2)=Qw (eT t):=by simp
  have v143:ae b14 (au aN (Qw (eT t)) h2)=Qw [.slice bg 0 base.length 1]:=by rw[e3.g b14 (by omega)];exact aqt
  have vg3:ae bg (au aN (Qw (eT t)) h2)=Qw (c9 (base.set p vj)):=by rw[e3.g bg (by omega)];exact vg
  have k3:∀b:Key,b.toNat<nx.toNat→b≠bg→ae b (au aN (Qw (eT t)) h2)=ae b h:=fun b hb bT=>by rw[e3.g b (by omega)];exact hf b hb bT
  generalize au aN (Qw (eT t)) h2=h3 at *;have hls:(base.set p vj).length=base.length:=List.length_set;have adI:(c9 (base.set p vj)).length=base.length:=by rw[gT,hls]
  have hgp:(c9 (base.set p vj))[p]?=some (.bool vj):=by rw[ze (by rw[hls];exact hp)];simp
  have O0:(c9 (base.set p vj))[t.2]?=some (.bool (base.getD t.2 false)):=by rw[ze (by rw[hls];exact ht2),List.getElem_set_ne (by omega),List.getD_eq_getElem?_getD,A6 ht2];rfl
  have aqv:∀hh,(c9 (base.set p vj))[p]'hh=.bool vj:=fun hh=>by rw[A6 hh]at hgp;exact Option.some.inj hgp
  have au6:∀hh,(c9 (base.set p vj))[t.2]'hh=.bool (base.getD t.2 false):=fun hh=>by rw[A6 hh]at O0;exact Option.some.inj O0
  have Kk:=fun v=>C3 (l:=base.set p vj) (i:=p) (by rw[hls];exact hp) v;simp only[List.set_set]at Kk;have h1p:p+1≤base.length:=hp;have fin:∀tm2:T AV,P tm2→ae (K 14) tm2=some (.ptr b14 0)→ae (K 15) tm2=some (I (p:Int))→ae (K 77) tm2=some c77→ae (K 78) tm2=some (I row.length)→ae (K 79) tm2=some (I j)→
    ns C (aO (fun tm h_1 alo=>∃m,m<row.length-j∧GdI row base p v0 c77 b14 bg h nx P m tm h_1 alo) (az 2 Q)) xB tm2 (au bg (Qw (c9 (base.set p (vj||base.getD t.2 false)))) h3) aN.succ:=by
   intro tm2 hP2 q14 q15 q77 q78 q79;simp[-List.getD_eq_getElem?_getD,xB,q79];rw[aH (by omega) (by omega)];refine⟨row.length-(j+1),by omega,j+1,rfl,by omega,hP _ _ _ (hP _ _ _ hP2 (.inr (.inr ⟨by decide,by decide⟩))) (.inr (.inl rfl)),by simp[q14],by simp[q15],by simp[q77],by simp[q78],by simp,?_,by omega,fun b hb bT=>by rw[aG _ _ _ _ bT];exact k3 b hb bT⟩;rw[gTSm,QV,←Bool.or_assoc,hv]
  cases hvj:vj with
  |true=>
   rw[hvj]at vg3 adI aqv au6 Kk hls fin;have hpt:=Kk true;simp only[Bool.true_or]at fin;simp[xC,g14,g15,v143,vg3,hp,aqv,adI,h1p,hpt];refine fin _ ?_ ?_ ?_ ?_ ?_ ?_
   ·repeat' (first|exact hPt|refine hP _ _ _ ?_ (by first|exact .inl rfl|exact .inr (.inl rfl)|exact .inr (.inr ⟨by decide,by decide⟩)))
   ·simp[g14]
   ·simp[g15]
   ·simp[g77]
   ·simp[g78]
   ·simp[g79]
  |false=>
   rw[hvj]at vg3 adI aqv au6 Kk hls fin;have hpt:=Kk (base.getD t.2 false);simp only[Bool.false_or]at fin;simp[-List.getD_eq_getElem?_getD,xC,g14,g15,v143,v17,vg3,hp,aqv,au6,ht2,he1,adI,h1p,hpt];refine fin _ ?_ ?_ ?_ ?_ ?_ ?_
   ·repeat' (first|exact hPt|refine hP _ _ _ ?_ (by first|exact .inl rfl|exact .inr (.inl rfl)|exact .inr (.inr ⟨by decide,by decide⟩)))
   ·simp[g14]
   ·simp[g15]
   ·simp[g77]
   ·simp[g78]
   ·simp[g79]
 ·have yi:j=row.length:=by omega
  subst yi;rw[List.take_length]at vg;simp[xA,g78,g79];refine gC _ _ _ (hP _ _ _ hPt (.inr (.inr ⟨by decide,by decide⟩))) (by simp[g15]) (by simp[g14]) vg hn hf
end Ln
namespace Go.Sx
theorem Rd.ix1{c:AV}{cs:List AV}{h:T ag}{nx:Key}(g:Rd 1 c cs cs.length h nx){i:Nat}(hi:i<cs.length){C:bU}{Q:cJ}{L:List aB}{tm:T AV}{n2 k1 k2 d1 d2:Key}(h1:ae k1 tm=some c)(h2:ae k2 tm=some (I i)) :
  ns C Q (⟨some d1,.indexL 1 (.t k1) (.t k2),none⟩ ::⟨some d2,.load false 1 (.t d1),none⟩ ::L) tm h n2=ns C Q L (au d2 (some cs[i]) (au d1 (some (I1 1 i c)) tm)) h n2:=by
 have tx:1≤cs.length-i:=by omega
 have hx:cs[i]?=some cs[i]:=A6 hi;have hd:List.take 1 (List.drop i cs)=[cs[i]]:=by rw[zqt hi];rfl
 rcases g with⟨_,_,e⟩|⟨f,rfl⟩|⟨b,k,rfl,hb,_,_⟩
 ·omega
 ·simp[h1,h2,hi,tx,hx,hd,I1]
 ·simp[h1,h2,hi,tx,hx,hd,I1,hb]
end Go.Sx
namespace Ln
open Go.Sx Go
noncomputable def kQ(S:Sys St)(l:List (Cf St))(q:Nat):Bool:=match l[q]? with|some c=>tA S c|none=>false
noncomputable def dM(S:Sys St)(l:List (Cf St))(a:Nat):List Bool:=(List.range l.length).map fun q=>decide (a≤q)&&kQ S l q
theorem sD(S:Sys St)(l:List (Cf St))(a:Nat):(dM S l a).length=l.length:=by simp[dM]
theorem NI{S:Sys St}{l:List (Cf St)}{a q:Nat}(hq:q<l.length):(dM S l a).getD q false=(decide (a≤q)&&kQ S l q):=by unfold dM;rw[List.getD_eq_getElem?_getD,List.getElem?_map,List.getElem?_range hq];rfl
theorem adY(S:Sys St)(l:List (Cf St)):dM S l l.length=List.replicate l.length false:=by refine List.ext_getElem (by simp[dM]) fun q h1 h2=>?_;simp[dM]at h1 ⊢;intro hle;omega
theorem adW{S:Sys St}{l:List (Cf St)}{p:Nat}(hp:p<l.length):dM S l p=(dM S l (p+1)).set p (kQ S l p):=by
 refine List.ext_getElem (by simp[dM]) fun q h1 h2=>?_;rw[List.getElem_set];by_cases e:p=q
 ·subst e;rw[if_pos rfl];simp[dM]
 ·rw[if_neg e];simp[dM];have:p≤q↔p+1≤q:=by omega
  simp[this]
theorem aap{S:Sys St}(hS:S.Ok){l:List (Cf St)}(hk:Kept S l.length l){p:Nat}(hp:p<l.length):(∀t∈rowOf S l l[p],p<t.2∧t.2<l.length)∧(S.acc l[p].1||Jx (dM S l (p+1)) (rowOf S l l[p]))=kQ S l p:=by
 have hcp:l[p]?=some l[p]:=A6 hp;have Ae:∀x∈S.steps l[p],x.2∈l:=hk.done p l[p] hp hcp;have hup:∀x∈S.steps l[p],p<l.idxOf x.2∧l.idxOf x.2<l.length:=fun x hx=>by obtain⟨q,c'⟩:=x;exact⟨hk.up hS hcp (IJ (Ae _ hx)) hx,List.idxOf_lt_length_of_mem (Ae _ hx)⟩
 refine⟨fun t ht=>?_,?_⟩
 ·obtain⟨x,hx,rfl⟩:=KT.1 ht;exact hup x hx
 ·have hgp:kQ S l p=tA S l[p]:=by unfold kQ;rw[hcp]
  rw[hgp,acH];congr 1;unfold Jx rowOf;rw[List.any_map];rw[Bool.eq_iff_iff,List.any_eq_true,List.any_eq_true];have key:∀x∈S.steps l[p],((fun t:Nat×Nat=>(dM S l (p+1)).getD t.2 false) ∘ fun x:Nat×Cf St=>(x.1,l.idxOf x.2)) x=tA S x.2:=fun x hx=>by
   obtain⟨h1,h2⟩:=hup x hx;show(dM S l (p+1)).getD (l.idxOf x.2) false=_;rw[NI h2];have h3:kQ S l (l.idxOf x.2)=tA S x.2:=by unfold kQ;rw[IJ (Ae x hx)]
   rw[h3,decide_eq_true (by omega),Bool.true_and]
  constructor
  ·rintro⟨x,hx,h⟩;exact⟨x,hx,by rw[key x hx]at h;exact h⟩
  ·rintro⟨x,hx,h⟩;exact⟨x,hx,by rw[key x hx];exact h⟩
def Kpt(tm0 tm:T AV):Prop:=∀k,(k=K 8∨k=K 9∨k=K 10∨k=K 11∨k=K 12∨k=K 13)→ae k tm=ae k tm0
theorem Kpt.refl(tm:T AV):Kpt tm tm:=fun _ _=>rfl
theorem Kpt.set{tm0 tm:T AV}(h:Kpt tm0 tm){k:Key}{v:Option AV}(hk:14≤k.toNat):Kpt tm0 (au k v tm):=fun k' IC=>by
 have h8:(K 8).toNat=8:=by decide
 have h9:(K 9).toNat=9:=by decide
 have h10:(K 10).toNat=10:=by decide
 have h11:(K 11).toNat=11:=by decide
 have h12:(K 12).toNat=12:=by decide
 have h13:(K 13).toNat=13:=by decide
 rw[aG]
 ·exact h k' IC
 ·rintro rfl;rcases IC with rfl|rfl|rfl|rfl|rfl|rfl<;>omega
structure FdH(X:Kn)(mi:Nat)(os:List Op)(cO:AV)(l:List (Cf St))(bj br bm:Key)(cC cS:AV)(cs:List AV)(h:T ag)(nx:Key):Prop where
 vj:ae bj h=Qw (jB X mi cO (aQ mi) (iN os os.length))
 vr:ae br h=Qw [cC,cS,.map bm]
 C:Rd 5 cC (ai eC l) l.length h nx
 S:Rd 1 cS cs cs.length h nx
 lt:bj.toNat<nx.toNat∧br.toNat<nx.toNat
 csl:cs.length=l.length
 row:∀q (hq:q<cs.length),∃c,l[q]?=some c∧gR 2 eT cs[q] (rowOf (aK X mi os) l c)
theorem FdH.ext{X:Kn}{mi:Nat}{os:List Op}{cO:AV}{l:List (Cf St)}{bj br bm:Key}{cC cS:AV}{cs:List AV}{h h':T ag}{nx nx':Key}(F:FdH X mi os cO l bj br bm cC cS cs h nx)(e:Ext h nx h' nx'):FdH X mi os cO l bj br bm cC cS cs h' nx':=
 ⟨by rw[e.g _ F.lt.1];exact F.vj,by rw[e.g _ F.lt.2];exact F.vr,F.C.ext e,F.S.ext e,by have:=F.lt;have:=e.n;omega,F.csl,F.row⟩
def GvI(X:Kn)(mi:Nat)(os:List Op)(l:List (Cf St))(bj br b14 bg:Key)(h0:T ag)(nx0:Key)(tm0:T AV)(m:Nat)(tm':T AV)(h':T ag)(nx':Key):Prop:=∃a:Nat,m=a∧a≤l.length∧Kpt tm0 tm'∧ae (K 11) tm'=some (.ptr bj 0)∧ae (K 13) tm'=some (.ptr br 0)∧ae (K 14) tm'=some (.ptr b14 0)∧ae (K 15) tm'=some (I ((a:Int)-1))∧
 ae b14 h'=Qw [.slice bg 0 l.length 1]∧ae bg h'=Qw (c9 (dM (aK X mi os) l a))∧b14.toNat<nx'.toNat∧bg.toNat<nx'.toNat∧Ext h0 nx0 h' nx'
variable{C:bU}{X:Kn}(S:Std C X)(H:PU C)
include S
theorem aiI{mi:Nat}{os:List Op}(ho:os.length≤16){cO:AV}{l:List (Cf St)}(hk:Kept (aK X mi os) l.length l){bj br bm b14 bg:Key}{cC cS:AV}{cs:List AV}{h0:T ag}{nx0:Key}(F:FdH X mi os cO l bj br bm cC cS cs h0 nx0)(ge:nx0.toNat≤b14.toNat∧nx0.toNat≤bg.toNat)(bne:b14≠bg){tm0:T AV}{Q:cJ}{m:Nat}{tm:T AV}{h1:T ag}{bW:Key}(A:GvI X mi os l bj br b14 bg h0 nx0 tm0 m tm h1 bW)
  (gC:∀tm' h' nx',Kpt tm0 tm'→ae (K 11) tm'=some (.ptr bj 0)→ae (K 13) tm'=some (.ptr br 0)→ae (K 14) tm'=some (.ptr b14 0)→ae b14 h'=Qw [.slice bg 0 l.length 1]→ae bg h'=Qw (c9 (dM (aK X mi os) l 0))→b14.toNat<nx'.toNat→bg.toNat<nx'.toNat→Ext h0 nx0 h' nx'→Q .norm tm' h' nx') :
  W C (.loop zX) (az 0 Q) tm h1 bW:=by
 have rA:=S.r bS;have hSo:=ID X mi os;have hl:=hk.len;refine W.eB (GvI X mi os l bj br b14 bg h0 nx0 tm0) A ?_;rintro m dF h nx ⟨a,rfl,ha,hKp,g11,g13,g14,g15,v14,vg,adH,bgn,e0⟩;refine W.of ?_;simp[zX];cases m with
 |zero=>
  have nq:((0:Nat):Int)-1<0:=by omega
  simp at g15;simp[zY,g15];exact gC _ _ _ ((hKp.set (by decide)).set (by decide)) (by simp[g11]) (by simp[g13]) (by simp[g14]) v14 vg adH bgn e0
 |succ p=>
  have hp:p<l.length:=by omega
  have alI:ae (K 15) dF=some (I (p:Int)):=by
   rw[g15];have:((p+1:Nat):Int)-1=(p:Int):=by omega
   rw[this]
  have F1:=F.ext e0;obtain⟨hto,avn⟩:=aap hSo hk hp;have cH:=hk.lt _ (DX hp);have hd:l[p].1<65536:=Lm cH (tz ho);have hpc:p<cs.length:=by rw[F.csl];exact hp
  obtain⟨c,hc1,wO⟩:=F.row p hpc;have hcp:c=l[p]:=by rw[A6 hp]at hc1;exact(Option.some.inj hc1).symm
  subst hcp;have hnn:¬(p:Int)<0:=by omega
  simp[zY,alI,hnn];simp[↓Rd.az4 wM F1.C hp,ES,g11,g13,g14,alI,v14,F1.vr,rA,JD];refine(Yd S ho hd F1.vj F1.lt.1).mono ?_;rintro o h2 aN ⟨rfl,e2⟩;have n2:=e2.n;have aqt:ae b14 h2=Qw [.slice bg 0 l.length 1]:=by rw[e2.g _ adH];exact v14
  have vg2:ae bg h2=Qw (c9 (dM (aK X mi os) l (p+1))):=by rw[e2.g _ bgn];exact vg
  have sq:AV.beq (.slice bg 0 l.length 1) (.slice bg 0 l.length 1)=true:=beq_refl _ rfl;have yh:(c9 (dM (aK X mi os) l (p+1))).length=l.length:=by rw[gT,sD]
  have h1p:p+1≤l.length:=hp;have Kk:=C3 (l:=dM (aK X mi os) l (p+1)) (i:=p) (by rw[sD];exact hp) (ve os l[p].1);have e02:=e0.trans e2;have F2:=F.ext e02;simp[g14,alI,aqt,vg2,sq,hp,yh,h1p,Kk];have e3:Ext h0 nx0 (au bg (Qw (c9 ((dM (aK X mi os) l (p+1)).set p (ve os l[p].1)))) h2) aN:=e02.put ge.2;have v143:ae b14 (au bg (Qw (c9 ((dM (aK X mi os) l (p+1)).set p (ve os l[p].1)))) h2)=Qw [.slice bg 0 (dM (aK X mi os) l (p+1)).length 1]:=by rw[aG _ _ _ _ bne,sD];exact aqt
  have vg3:ae bg (au bg (Qw (c9 ((dM (aK X mi os) l (p+1)).set p (ve os l[p].1)))) h2)=Qw (c9 ((dM (aK X mi os) l (p+1)).set p (ve os l[p].1))):=by simp
  generalize au bg (Qw (c9 ((dM (aK X mi os) l (p+1)).set p (ve os l[p].1)))) h2=h3 at *;have F3:=F.ext e3;have hR3:=wO.rd h3 aN;have alJ:(rowOf (aK X mi os) l l[p]).length≤1000:=by unfold rowOf Sys.steps;rw[List.length_map];have:=List.length_filterMap_le ((aK X mi os).step l[p]) (List.range (aK X mi os).n);rw[List.length_range]at this;have hn:(aK X mi os).n=os.length:=rfl;omega
  have hg0:(dM (aK X mi os) l (p+1)).length=l.length:=sD _ _ _;simp[↓F3.S.ix1 hpc,↓hR3.ln,ET,g13,alI,F3.vr];refine au2 (C:=C) wO alJ (base:=dM (aK X mi os) l (p+1)) (p:=p) (by rw[hg0];exact hp) (by rw[hg0];exact hl) (fun t ht=>by rw[hg0];exact hto t ht) (v0:=ve os l[p].1) (b14:=b14) (bg:=bg) (h:=h3) (nx:=aN) v143 (by omega) (by omega) bne (P:=fun tm=>Kpt tm0 tm∧ae (K 11) tm=some (.ptr bj 0)∧ae (K 13) tm=some (.ptr br 0)) ?_ (m:=(rowOf (aK X mi os) l l[p]).length) ⟨0,by simp,by omega,⟨?_,by simp[g11],by simp[g13]⟩,by simp[g14],by simp[alI],by simp,by simp,by simp,?_,dQ _,fun _ _ _=>rfl⟩ ?_
  ·rintro tm k v ⟨h1,h2,h3⟩ IC;have M6:14≤k.toNat:=by
    have h17:(K 17).toNat=17:=by decide
    have h79:(K 79).toNat=79:=by decide
    rcases IC with rfl|rfl|h<;>omega
   have h11:(K 11).toNat=11:=by decide
   have h13:(K 13).toNat=13:=by decide
   have n11:(K 11)≠k:=fun e=>by rw[e]at h11;omega
   have n13:(K 13)≠k:=fun e=>by rw[e]at h13;omega
   exact⟨h1.set M6,by rw[aG _ _ _ _ n11];exact h2,by rw[aG _ _ _ _ n13];exact h3⟩
  ·repeat' (first|exact hKp|refine Kpt.set ?_ (by decide))
  ·have:Jx (dM (aK X mi os) l (p+1)) (List.take 0 (rowOf (aK X mi os) l l[p]))=false:=by rw[List.take_zero];rfl
   rw[this,Bool.or_false];exact vg3
  ·rintro tm' h' nx' ⟨q,UG,NB⟩ q15 q14 vg' hn' hf';have hga:(ve os l[p].1||Jx (dM (aK X mi os) l (p+1)) (rowOf (aK X mi os) l l[p]))=kQ (aK X mi os) l p:=avn;rw[hga,←adW hp]at vg';simp;simp[EU,q15];rw[aH (by omega) (by omega)];refine⟨p,by omega,p,rfl,by omega,?_,by simp[UG],by simp[NB],by simp[q14],by simp,by rw[hf' b14 (by omega) bne];rw[←hg0];exact v143,vg',by omega,by omega,⟨by have:=e3.n;omega,fun b hb=>?_⟩⟩
   ·repeat' (first|exact q|refine Kpt.set ?_ (by decide))
   ·have:=e3.n;have g1:=ge.1;have g2:=ge.2;rw[hf' b (by omega) (fun e=>by rw[e]at hb;omega)];exact e3.g b hb
end Ln
namespace Ln
open Go.Sx Go
def GdB(b14 bg:Key)(gv:List Bool)(h:T ag)(nx:Key):Prop:=ae b14 h=Qw [.slice bg 0 gv.length 1]∧ae bg h=Qw (c9 gv)∧b14.toNat<nx.toNat∧bg.toNat<nx.toNat
theorem GdB.ext{b14 bg:Key}{gv:List Bool}{h h':T ag}{nx nx':Key}(g:GdB b14 bg gv h nx)(e:Ext h nx h' nx'):GdB b14 bg gv h' nx':=⟨by rw[e.g _ g.2.2.1];exact g.1,by rw[e.g _ g.2.2.2];exact g.2.1,by have:=g.2.2.1;have:=e.n;omega,by have:=g.2.2.2;have:=e.n;omega⟩
variable{C:bU}{X:Kn}(S:Std C X)
include S
theorem ao8{b14 bg:Key}{gv:List Bool}{h:T ag}{nx:Key}(G:GdB b14 bg gv h nx){t:Nat×Nat}(ht:t.2<gv.length):aM C gA [.agg (eT t),.ptr b14 0] h nx (fun o h' nx'=>o=.ret (.bool (gv.getD t.2 false))∧Ext h nx h' nx'):=by
 have s1:=kTSu nx;have hce:(eT t).all AV.aV=true:=AQ.2 (jb.cell _);have hle:(eT t).length=2:=rfl;have he1:(eT t)[1]?=some (I (t.2:Int)):=rfl;refine S.Dr.call ?_;simp[-List.getD_eq_getElem?_getD,As];simp[-List.getD_eq_getElem?_getD,Cc,hce,hle];have e1:=E0 h nx (.cells (eT t) .fix);have b1:ae nx (au nx (Qw (eT t)) h)=Qw (eT t):=by simp
 generalize au nx (Qw (eT t)) h=h1 at *;obtain⟨g1,g2,_,_⟩:=G.ext e1;have yh:(c9 gv).length=gv.length:=gT gv;have O0:∀hh,(c9 gv)[t.2]'hh=.bool (gv.getD t.2 false):=fun hh=>by have:=ze ht;rw[A6 hh]at this;rw[Option.some.inj this,List.getD_eq_getElem?_getD,A6 ht];rfl
 simp[-List.getD_eq_getElem?_getD,Cd,b1,g1,g2,he1,ht,yh,O0];exact e1
def aCv(gv:List Bool)(row:List (Nat×Nat))(j:Nat):Prop:=j<row.length∧gv.getD (row.getD j (0,0)).2 false=true∧∀q,q<j→gv.getD (row.getD q (0,0)).2 false=false
def IfI(row:List (Nat×Nat))(gv:List Bool)(c0:AV)(b14:Key)(h:T ag)(nx:Key)(m:Nat)(tm':T AV)(h':T ag)(nx':Key):Prop:=∃j:Nat,m=row.length-j∧j≤row.length∧ae (K 0) tm'=some c0∧ae (K 1) tm'=some (.fn gA [] [.ptr b14 0])∧ae (K 7) tm'=some (I row.length)∧ae (K 8) tm'=some (I j)∧Ext h nx h' nx'∧∀q,q<j→gv.getD (row.getD q (0,0)).2 false=false
theorem aqN{b14 bg:Key}{gv:List Bool}{h:T ag}{nx:Key}(G:GdB b14 bg gv h nx){row:List (Nat×Nat)}(hrl:row.length≤1000)(hto:∀t∈row,t.2<gv.length)(alS:∃t∈row,gv.getD t.2 false=true){c0:AV}(hc:gR 2 eT c0 row) :
  aM C bD [c0,.fn gA [] [.ptr b14 0]] h nx (fun o h' nx'=>(∃j,aCv gv row j∧o=.ret (I (j:Nat)))∧Ext h nx h' nx'):=by
 have r2:=S.r gA;have hR:=hc.rd h nx;refine S.fP.call ?_;simp[dB];simp[fy];simp[↓hR.ln,fA];refine W.eB (n:=row.length) (IfI row gv c0 b14 h nx) ⟨0,by simp,by omega,by simp,by simp,by simp,by simp,Ext.refl _ _,fun q hq=>absurd hq (by omega)⟩ ?_;rintro m dF h1 bW ⟨j,rfl,hj,g0,g1,g7,g8,e1,lC⟩;refine W.of ?_;simp[fH];by_cases bY:j<row.length
 ·have Bh:(j:Int)<row.length:=by omega
  have hR1:=hc.rd h1 bW;have hz:∀H,cn (aW 9998) (eT row[j]) H=(eT row[j],H):=fun H=>dw (jb.wH _);have hgd:row.getD j (0,0)=row[j]:=by rw[List.getD_eq_getElem?_getD,A6 bY];rfl
  simp[fC,g7,g8,Bh];simp[fD,g8];simp[↓hR1.ix jb bY,fE,g0,g1,r2,hz];refine(ao8 S (G.ext e1) (hto _ (DX bY))).mono ?_;rintro o h2 aN ⟨rfl,e2⟩;cases hg:gv.getD row[j].2 false with
  |true=>simp;simp[fF];exact⟨⟨j,⟨bY,by rw[hgd];exact hg,lC⟩,rfl⟩,e1.trans e2⟩
  |false=>
   simp;simp[fG,g8];rw[aH (by omega) (by omega)];refine⟨row.length-(j+1),by omega,j+1,rfl,by omega,by simp[g0],by simp[g1],by simp[g7],by simp,e1.trans e2,fun q hq=>?_⟩;by_cases e:q=j
   ·subst e;rw[hgd];exact hg
   ·exact lC q (by omega)
 ·exfalso;obtain⟨t,ht,O0⟩:=alS;obtain⟨q,hq,rfl⟩:=List.getElem_of_mem ht;have:=lC q (by omega);rw[List.getD_eq_getElem?_getD (l:=row),A6 hq]at this;have h2:gv.getD row[q].2 false=false:=this;rw[O0]at h2;cases h2
end Ln
namespace Ln
open Go.Sx Go
variable{C:bU}{X:Kn}(S:Std C X)
include S
theorem alY{c:Cf St}(hk:c.2.kids.length≤3){h:T ag}{nx:Key}:aM C gy [.agg (eC c)] h nx (fun o h' nx'=>o=.ret (.agg (eC c))∧Ext h nx h' nx'):=by
 have rV:=S.r gF;have s1:=kTSu nx;have s2:=kTSu nx.succ;refine S.Dd.call ?_;simp[Aa];simp[BM,Mf,wR];have e2:=(E0 h nx (.cells (eC c) .fix)).trans (E0 _ nx.succ (.cells [.int .i64 (.lit 0),.int .i64 (.lit 0),.int .i64 (.lit 0),.str 0 0,.nils] .fix));have b1:ae nx (au nx.succ (Qw [.int .i64 (.lit 0),.int .i64 (.lit 0),.int .i64 (.lit 0),.str 0 0,.nils]) (au nx (Qw (eC c)) h))=Qw (eC c):=by rw[aw (by omega)];simp
 have b2:ae nx.succ (au nx.succ (Qw [.int .i64 (.lit 0),.int .i64 (.lit 0),.int .i64 (.lit 0),.str 0 0,.nils]) (au nx (Qw (eC c)) h))=Qw [.int .i64 (.lit 0),.int .i64 (.lit 0),.int .i64 (.lit 0),.str 0 0,.nils]:=by simp
 generalize au nx.succ (Qw [.int .i64 (.lit 0),.int .i64 (.lit 0),.int .i64 (.lit 0),.str 0 0,.nils]) (au nx (Qw (eC c)) h)=h2 at *;have ec0:(eC c)[0]?=some (I c.1):=rfl;have alZ:(eC c).head?=some (I c.1):=rfl;have et:List.take 4 (eC c).tail=eS c.2:=rfl;have iq:AV.beq (I c.1) (I c.1)=true:=beq_refl _ rfl;simp[BN,b1,ec0,alZ,et,wR,rV,CZ];refine aM.known (S.s_Clone c.2 hk _ _) ?_;simp[b1,b2,ec0,alZ,iq,lenS,C7,aay];rw[zR,CZ];exact⟨rfl,e2.put (by omega)⟩
omit S in
theorem al0{l:List (Cf St)}{R0:List AV}{j:Nat}(hj:j<l.length)(hR:R0.length=l.length*5):List.take (j*5) (ai eC (l.take j)++R0.drop (j*5))++(eC l[j]++List.drop (j*5+5) (ai eC (l.take j)++R0.drop (j*5)))=ai eC (l.take (j+1))++R0.drop ((j+1)*5):=by
 have cH:(l.take j).length=j:=by rw[Zo];omega
 have hr:(ai eC (l.take j)).length=j*5:=by rw[wM.rows,cH]
 rw[List.take_append_of_le_length (by omega),PV (by omega),zqq,hr,List.drop_eq_nil_of_le (by omega),List.nil_append,List.drop_drop];rw[zqu hj,kG,kD,List.append_assoc];congr 3;omega
def CpI(l:List (Cf St))(c0:AV)(R0:List AV)(bn:Key)(h:T ag)(nx:Key)(m:Nat)(tm':T AV)(h':T ag)(nx':Key):Prop:=∃j:Nat,m=l.length-j∧j≤l.length∧ae (K 0) tm'=some c0∧ae (K 1) tm'=some (.fn gy [] [])∧ae (K 5) tm'=some (.slice bn 0 l.length 5)∧ae (K 14) tm'=some (I l.length)∧ae (K 15) tm'=some (I j)∧ae bn h'=Qw (ai eC (l.take j)++R0.drop (j*5))∧bn.toNat<nx'.toNat∧Ext h nx h' nx'
theorem alM{l:List (Cf St)}(h0:0<l.length)(hl:l.length≤1024)(Hn:∀y∈l,y.2.kids.length≤3){c0:AV}(hc:gR 5 eC c0 l){h:T ag}{nx:Key} :
  aM C dN [c0,.fn gy [] []] h nx (fun o h' nx'=>o=.ret (.slice nx 0 l.length 5)∧ae nx h'=Qw (ai eC l)∧nx.toNat<nx'.toNat∧Ext h nx h' nx'):=by
 have r1:=S.r gy;have s1:=kTSu nx;have hR:=hc.rd h nx;have bT:¬l.length=0:=by omega
 have aFj:l≠[]:=fun e=>bT (by rw[e];rfl);have NF:l.length≤1048576:=by omega
 refine S.nR.call ?_;simp[j8];simp[mQ];simp[↓hR.ln,mR,bT,aFj];simp[↓hR.ln,mS,NF,-repL_eq];have hR0:∀(n:Nat) (a b c d e:AV),(Kg n [a,b,c,d,e] []).length=n*5:=fun n a b c d e=>by rw[repL_eq,List.append_nil];simp
 have aAb:=hR0 l.length (.int .i64 (.lit 0)) (.int .i64 (.lit 0)) (.int .i64 (.lit 0)) (.str 0 0) .nils;generalize Kg l.length [AV.int .i64 (.lit 0),.int .i64 (.lit 0),.int .i64 (.lit 0),.str 0 0,.nils] []=R0 at *;have e1:=E0 h nx (.cells R0 .fix);have b1:ae nx (au nx (Qw R0) h)=Qw R0:=by simp
 generalize au nx (Qw R0) h=h1 at *;have hR1:=hc.rd h1 nx.succ;simp[↓hR1.ln,mT];refine W.eB (n:=l.length) (CpI l c0 R0 nx h nx) ⟨0,by simp,by omega,by simp,by simp,by simp,by simp,by simp,by simpa using b1,by omega,e1⟩ ?_;rintro m dF h2 aN ⟨j,rfl,hj,g0,g1,g5,g14,g15,vb,bn,e2⟩;refine W.of ?_;simp[mU];by_cases bY:j<l.length
 ·have Bh:(j:Int)<l.length:=by omega
  have hR2:=hc.rd h2 aN;have Kk:=al0 bY aAb;have yh:(ai eC (l.take j)++R0.drop (j*5)).length=l.length*5:=by rw[Ll,wM.rows,List.length_drop,Zo,aAb];omega
  have QV:j*5+5≤l.length*5:=by omega
  have htx:5≤l.length*5-j*5:=by omega
  simp[iz,g14,g15,Bh];simp[mV,g15];simp[↓hR2.ix wM bY,mW,g0,g1,g5,r1,JD];refine(alY S (Hn _ (DX bY))).mono ?_;rintro o h3 bP ⟨rfl,e3⟩;have n3:=e3.n;have vb3:ae nx h3=Qw (ai eC (l.take j)++R0.drop (j*5)):=by rw[e3.g nx (by omega)];exact vb
  simp[vb3,bY,yh,QV,htx,wR,Mf,Kk];simp[mX,g15];rw[aH (by omega) (by omega)];exact⟨l.length-(j+1),by omega,j+1,rfl,by omega,by simp[g0],by simp[g1],by simp[g5],by simp[g14],by simp,by simp,by omega,(e2.trans e3).put (dQ _)⟩
 ·have yi:j=l.length:=by omega
  subst yi;have hd:R0.drop (l.length*5)=[]:=List.drop_eq_nil_of_le (by omega);rw[List.take_length,hd,List.append_nil]at vb;simp[iz,g14,g15];simp[mY,g5];exact⟨vb,by omega,e2⟩
end Ln
namespace Ln
open Go.Sx Go
theorem aiM{S:Sys St}(hS:S.Ok){l:List (Cf St)}(hk:Kept S l.length l){p:Nat}(hp:p<l.length)(hg:tA S l[p]=true)(ha:S.acc l[p].1=false):(∃t∈rowOf S l l[p],(dM S l 0).getD t.2 false=true)∧∀j,aCv (dM S l 0) (rowOf S l l[p]) j→∃(i q:Nat) (c':Cf St),(rowOf S l l[p])[j]?=some (i,q)∧l[q]?=some c'∧p<q∧tA S c'=true∧∀r,Path S c' r→Path S l[p] (i ::r):=by
 have hcp:l[p]?=some l[p]:=A6 hp;have Ae:∀x∈S.steps l[p],x.2∈l:=hk.done p l[p] hp hcp;have hgd:∀x∈S.steps l[p],(dM S l 0).getD (l.idxOf x.2) false=tA S x.2:=fun x hx=>by
  have h2:l.idxOf x.2<l.length:=List.idxOf_lt_length_of_mem (Ae _ hx);rw[NI h2];have h3:kQ S l (l.idxOf x.2)=tA S x.2:=by unfold kQ;rw[IJ (Ae x hx)]
  rw[h3];simp
 refine⟨?_,fun j hj=>?_⟩
 ·rw[acH,ha,Bool.false_or,List.any_eq_true]at hg;obtain⟨x,hx,hgx⟩:=hg;exact⟨_,KT.2 ⟨x,hx,rfl⟩,by rw[hgd x hx];exact hgx⟩
 ·obtain⟨h1,h2,h3⟩:=hj;have hlen:(rowOf S l l[p]).length=(S.steps l[p]).length:=by unfold rowOf;rw[List.length_map]
  have Wq:j<(S.steps l[p]).length:=by omega
  have Gb:∀q (hq:q<(S.steps l[p]).length),(rowOf S l l[p])[q]?=some ((S.steps l[p])[q].1,l.idxOf (S.steps l[p])[q].2):=fun q hq=>by unfold rowOf;rw[List.getElem?_map,A6 hq];rfl
  have hD:∀q (hq:q<(S.steps l[p]).length),(dM S l 0).getD ((rowOf S l l[p]).getD q (0,0)).2 false=tA S (S.steps l[p])[q].2:=fun q hq=>by rw[List.getD_eq_getElem?_getD (l:=rowOf S l l[p]),Gb q hq];exact hgd _ (DX hq)
  have hx:=DX Wq;rw[hD j Wq]at h2;refine⟨_,_,(S.steps l[p])[j].2,Gb j Wq,IJ (Ae _ hx),?_,h2,fun r hr=>?_⟩
  ·have hx2:((S.steps l[p])[j].1,(S.steps l[p])[j].2)∈S.steps l[p]:=hx;exact hk.up hS hcp (IJ (Ae _ hx)) hx2
  ·refine Path.more (a:=(S.steps l[p]).take j) (b:=(S.steps l[p]).drop (j+1)) ha ?_ ?_ hr
   ·have:=List.take_append_drop j (S.steps l[p]);rw[zqt Wq]at this;exact this.symm
   ·intro x hxa;obtain⟨q,hq,rfl⟩:=List.getElem_of_mem hxa;have hq1:q<j:=by rw[Zo]at hq;omega
    have hq2:q<(S.steps l[p]).length:=by omega
    have:=h3 q hq1;rw[hD q hq2]at this;rw[List.getElem_take];exact Wx.1 this
def OlI(X:Kn)(mi:Nat)(os:List Op)(l:List (Cf St))(bj br b14 bg:Key)(h0:T ag)(nx0:Key)(tm0:T AV)(m:Nat)(tm':T AV)(h':T ag)(nx':Key):Prop:=∃(p:Nat) (pre:List Nat) (c19:AV) (o19:Option Key),m=l.length-p∧p<l.length∧kQ (aK X mi os) l p=true∧pre.length≤p∧(∀r c,l[p]?=some c→Path (aK X mi os) c r→∃c0,l[0]?=some c0∧Path (aK X mi os) c0 (pre++r))∧Kpt tm0 tm'∧
 ae (K 11) tm'=some (.ptr bj 0)∧ae (K 13) tm'=some (.ptr br 0)∧ae (K 14) tm'=some (.ptr b14 0)∧ae (K 20) tm'=some (I (p:Int))∧ae (K 19) tm'=some c19∧Gr 1 c19 (ai eI (uy pre)) (uy pre).length h' nx' o19∧(∀b,o19=some b→nx0.toNat≤b.toNat∧b≠b14∧b≠bg)∧GdB b14 bg (dM (aK X mi os) l 0) h' nx'∧Ext h0 nx0 h' nx'
variable{C:bU}{X:Kn}(S:Std C X)
include S
theorem ad1{mi:Nat}{os:List Op}(ho:os.length≤16){cO:AV}{l:List (Cf St)}(hk:Kept (aK X mi os) l.length l){bj br bm b14 bg:Key}{cC cS:AV}{cs:List AV}{h0:T ag}{nx0:Key}(F:FdH X mi os cO l bj br bm cC cS cs h0 nx0)(ge:nx0.toNat≤b14.toNat∧nx0.toNat≤bg.toNat){tm0:T AV}{Q:cJ}{m:Nat}{tm:T AV}{h1:T ag}{bW:Key}(A:OlI X mi os l bj br b14 bg h0 nx0 tm0 m tm h1 bW)
  (gC:∀tm' h' nx' pre c19 o19,(∃c0,l[0]?=some c0∧Path (aK X mi os) c0 pre)→Kpt tm0 tm'→ae (K 19) tm'=some c19→Gr 1 c19 (ai eI (uy pre)) (uy pre).length h' nx' o19→(∀b,o19=some b→nx0.toNat≤b.toNat)→Ext h0 nx0 h' nx'→Q .norm tm' h' nx') :
  W C (.loop z8) (az 4 Q) tm h1 bW:=by
 have rA:=S.r bS;have rI:=S.r bD;have hSo:=ID X mi os;have hl:=hk.len;refine W.eB (OlI X mi os l bj br b14 bg h0 nx0 tm0) A ?_;rintro m dF h nx ⟨p,pre,c19,o19,rfl,hp,hga,yS,aax,hKp,g11,g13,g14,g20,g19,G19,aau,GB,e0⟩;have F1:=F.ext e0;have cH:=hk.lt _ (DX hp);have hd:l[p].1<65536:=Lm cH (tz ho);have hcp:l[p]?=some l[p]:=A6 hp;have hpc:p<cs.length:=by rw[F.csl];exact hp
 obtain⟨c,hc1,wO⟩:=F.row p hpc;have Zu:c=l[p]:=by rw[hcp]at hc1;exact(Option.some.inj hc1).symm
 subst Zu;have hgl:tA (aK X mi os) l[p]=true:=by
  have:kQ (aK X mi os) l p=tA (aK X mi os) l[p]:=by unfold kQ;rw[hcp]
  rw[←this];exact hga
 refine W.of ?_;simp[z8];simp[↓F1.C.ix wM hp,E6,g11,g13,g20,F1.vr,rA,JD];refine(Yd S ho hd F1.vj F1.lt.1).mono ?_;rintro o h2 aN ⟨rfl,e2⟩;have e02:=e0.trans e2;cases UH:ve os l[p].1 with
 |true=>
  obtain⟨c0,q1,q2⟩:=aax [] l[p] hcp (.now UH);rw[List.append_nil]at q2;simp;refine gC _ _ _ pre c19 o19 ⟨c0,q1,q2⟩ ?_ (by simp[g19]) (G19.ext e2) (fun b hb=>(aau b hb).1) e02
  repeat' (first|exact hKp|refine Kpt.set ?_ (by decide))
 |false=>
  have F2:=F.ext e02;have hR2:=wO.rd h2 aN;have hz:∀H,aW 9999 cs[p] H=(cs[p],H):=fun H=>wO.wH _ _;have hzp:∀H,cn (aW 9998) [.ptr b14 0] H=([.ptr b14 0],H):=fun H=>rfl;obtain⟨alS,aE9⟩:=aiM hSo hk hp hgl UH;obtain⟨hto,_⟩:=aap hSo hk hp;have aFa:(dM (aK X mi os) l 0).length=l.length:=sD _ _ _;have alJ:(rowOf (aK X mi os) l l[p]).length≤1000:=by unfold rowOf Sys.steps;rw[List.length_map];have:=List.length_filterMap_le ((aK X mi os).step l[p]) (List.range (aK X mi os).n);rw[List.length_range]at this;have hn:(aK X mi os).n=os.length:=rfl;omega
  simp;simp[↓F2.S.ix1 hpc,E7,g13,g14,g20,F2.vr,rI,hz];refine(aqN S (GB.ext e2) alJ (fun t ht=>by rw[aFa];exact(hto t ht).2) alS wO).mono ?_;rintro o h3 bP ⟨⟨j,hj,rfl⟩,e3⟩;obtain⟨ci,q,c',hjq,hq1,hpq,hgq,hpp⟩:=aE9 j hj;have bY:j<(rowOf (aK X mi os) l l[p]).length:=hj.1;have yi:(rowOf (aK X mi os) l l[p])[j]=(ci,q):=by rw[A6 bY]at hjq;exact Option.some.inj hjq
  have Ec:=jb.at bY;rw[yi]at Ec;have alT:cs[p]=.sl (ai eT (rowOf (aK X mi os) l l[p])) (rowOf (aK X mi os) l l[p]).length 2 .any:=by
   rcases wO with⟨_,e⟩|e
   ·rw[e]at bY;simp at bY
   ·exact e
  have hrr:=jb.rows (rowOf (aK X mi os) l l[p]);have h2r:2≤(rowOf (aK X mi os) l l[p]).length*2-j*2:=by omega
  have t0:(eT (ci,q))[0]?=some (I (ci:Int)):=rfl;have t0':(eT (ci,q)).head?=some (I (ci:Int)):=rfl;have t1:(eT (ci,q))[1]?=some (I (q:Int)):=rfl;have te:eT (ci,q)=[I (ci:Int),I (q:Int)]:=rfl;have s3:=kTSu bP;have e03:=e02.trans e3;have F3:=F.ext e03;have G3:=(G19.ext e2).ext e3;have GB3:=(GB.ext e2).ext e3;have e4:=E0 h3 bP (.cells [I (ci:Int)] .fix);have hol:(uy pre).length=pre.length:=List.length_map ..;obtain⟨UI,h5,nx5,UJ,ha,G5,F5⟩:=(G3.ext e4).IS CT (by decide) (by decide) (by omega) (ci:Int);have F35:=(Kj.zK e4 o19).trans F5;have hej:eI (ci:Int)=[I (ci:Int)]:=rfl;rw[hej]at ha;have n35:=F35.n;have n03:=e03.n;have aPk:∀b:Key,o19=some b→b.toNat<bP.toNat:=fun b hb=>G3.lt b hb;have alU:∀b,UJ=some b→nx0.toNat≤b.toNat∧b≠b14∧b≠bg:=fun b hb=>by
   rcases F35.o with e|⟨y,e,hy⟩
   ·rw[e]at hb;exact aau b hb
   ·rw[e]at hb;cases hb;have h1:=GB3.2.2.1;have h2:=GB3.2.2.2;exact⟨by omega,fun e=>by rw[e]at hy;omega,fun e=>by rw[e]at hy;omega⟩
  have e05:Ext h0 nx0 h5 nx5:=⟨by omega,fun b hb=>by rw[F35.g b (by omega) (fun e=>by have:=(aau b e).1;omega)];exact e03.g b hb⟩
  have F5':=F.ext e05;have GB5:GdB b14 bg (dM (aK X mi os) l 0) h5 nx5:=by obtain⟨q1,q2,q3,q4⟩:=GB3;exact⟨by rw[F35.g b14 q3 (fun e=>(aau b14 e).2.1 rfl)];exact q1,by rw[F35.g bg q4 (fun e=>(aau bg e).2.2 rfl)];exact q2,by omega,by omega⟩
  simp;simp[-appendTo,↓F3.S.ix1 hpc,E8,g13,g19,g20,F3.vr,alT,bY,hrr,h2r,Ec,te,ha];simp[↓F5'.S.ix1 hpc,E9,g13,g20,F5'.vr,alT,bY,hrr,h2r,Ec,te];obtain⟨hql,hqc⟩:=List.getElem?_eq_some_iff.1 hq1;have aFf:kQ (aK X mi os) l q=true:=by unfold kQ;rw[hq1];exact hgq
  have hor:uy (pre ++ [ci])=uy pre ++ [(ci:Int)]:=by unfold uy;rw[List.map_append];rfl
  refine⟨l.length-q,by omega,q,pre ++ [ci],UI,UJ,rfl,hql,aFf,by simp;omega,?_,?_,by simp[g11],by simp[g13],by simp[g14],by simp,by simp,by rw[hor];exact G5,alU,GB5,e05⟩
  ·intro r c hc hr;have Zu:c=c':=by rw[hq1]at hc;exact(Option.some.inj hc).symm
   subst Zu;obtain⟨c0,z1,z2⟩:=aax (ci ::r) l[p] hcp (hpp r hr);exact⟨c0,z1,by simpa using z2⟩
  ·repeat' (first|exact hKp|refine Kpt.set ?_ (by decide))
end Ln
namespace Ln
open Go.Sx Go
variable{C:bU}{X:Kn}(S:Std C X)
include S
abbrev ah6:aL:=.seq (.ops uc)
 (.seq (.seq (.staged ud ⟨[K 70,K 71,K 72,K 73,K 74,K 75,K 76],[]⟩)
 (.cond (.t (K 76))
 (.seq (.ops ue)
 .ret)
 .skip))
 (.seq (.seq (.ops na)
 (.block 2 (.loop lu)))
 (.seq (.ops nf)
 .ret)))
theorem aoF{i:Nat}(hi:i<3){os:List Op}(yb:ux i os=0)(sR:∀o∈os,before o o=false)(ho:os.length≤16){cO:AV}(Wt:gR 10 eO cO os){p:List Ci}(hp:p.length≤10000)(Hn:∀y∈p,iX i y.2)(hf:gL os.length p){c3:AV}(X8:gR 5 eD c3 p){b8 b10 bj n0:Key}{h0:T ag}{tm:T AV}{h:T ag}{nx:Key}(A:RfA X i os cO c3 b8 b10 bj tm h nx)(e0:Ext h0 n0 h nx)(Gx:n0.toNat≤b10.toNat) :
  MJ C ah6 (MI [.cell (K 10) false 1] fun o h' nx'=>o=.ret (I (GO (aK X i os) (0,aQ i) p))∧Ext h0 n0 h' nx') [] tm h nx:=by
 have s1:=kTSu nx;have n0x:=e0.n;have rH:=S.r bE;have hk3:∀y∈p,y.2.kids.length≤3:=fun y hy=>Jn (Hn y hy);have aoG:p.Pairwise Ke:=by have:=hf.sorted;rw[List.pairwise_map]at this;exact this.imp_of_mem fun ha hb hab=>(QP (hf.pos _ ha) (hf.pos _ hb)).1 hab
 have UH:=(eu (aQ i).kids).1;have ec:[I 0,I (aQ i).k,I (aQ i).n,.str 0 0,bB (aQ i).kids]=eC (0,aQ i):=rfl;simp;simp[uc];have e1:=E0 h nx (.cells [.fn bE [] [.ptr b8 0]] .fix);have v15:ae nx (au nx (Qw [.fn bE [] [.ptr b8 0]]) h)=Qw [.fn bE [] [.ptr b8 0]]:=by simp
 simp[A.k8];generalize au nx (Qw [.fn bE [] [.ptr b8 0]]) h=h1 at *;have A1:=A.ext e1 (tm':=tm) rfl rfl rfl;have af:∀n H,aW n (bB (aQ i).kids) H=(bB (aQ i).kids,H):=kz _;have hph:=ah5 S hp hk3 aoG (x:=Gj (0,aQ i)) (Jn (Q4 hi)) X8 (h:=h1) (nx:=nx.succ) A1.v8 A1.lt.1;rw[Rs]at hph;have Ae:Gj (0,aQ i)∈p↔(0,aQ i)∈p.map AN:=by
  constructor
  ·intro h;exact KT.2 ⟨_,h,Ea _⟩
  ·intro h;obtain⟨y,hy,e⟩:=KT.1 h;have h0:=hf.pos _ hy;have:y=Gj (0,aQ i):=by rw[←e];unfold Gj AN;exact Prod.ext (by simp;omega) rfl
   rw[←this];exact hy
 simp[ud,v15,A.dU,A1.vj,jB,rH,af];refine hph.mono ?_;rintro o h2 aN ⟨rfl,e2⟩;have n2:=e2.n;have A2:=A1.ext e2 (tm':=tm) rfl rfl rfl;have v152:ae nx h2=Qw [.fn bE [] [.ptr b8 0]]:=by rw[e2.g nx (by omega)];exact v15
 have e02:=(e0.trans e1).trans e2;by_cases uB:(0,aQ i)∈p.map AN
 ·have Mm:=Ae.2 uB;simp[Mm];have main:∀tm2:T AV,ae (K 8) tm2=some (.ptr b8 0)→ae (K 10) tm2=some (.ptr b10 0)→ae (K 11) tm2=some (.ptr bj 0)→ae (K 15) tm2=some (.ptr nx 0)→ae (K 78) tm2=some c3→ae (K 79) tm2=some (I p.length)→ae (K 80) tm2=some (I 0)→
    V C (.loop lu) (si 2 (Uc (MJ C (.seq (.ops nf) .ret) (MI [.cell (K 10) false 1] fun o h' nx'=>o=.ret (I (GO (aK X i os) (0,aQ i) p))∧Ext h0 n0 h' nx')) (MI [.cell (K 10) false 1] fun o h' nx'=>o=.ret (I (GO (aK X i os) (0,aQ i) p))∧Ext h0 n0 h' nx'))) [] tm2 h2 aN:=by
   intro tm2 q8 Gm UG q15 q78 q79 q80;refine aoH S hi yb sR ho Wt hp Hn hf X8 (b8:=b8) (b10:=b10) (bj:=bj) (b15:=nx) (n0:=n0) (h0:=h0) (m:=p.length) ⟨0,by simp,by omega,⟨⟨q8,Gm,UG,A2.v8,A2.v10,A2.vj,A2.lt⟩,q15,v152,by omega,jO.nil _ _ _,e02,Gx⟩,q78,q79,by simpa using q80,fun q hq h=>absurd h (by omega)⟩ ?_ ?_
   ·intro ds tm' h' nx' cW v10 D e' lC;have hr:GO (aK X i os) (0,aQ i) p=18:=Xw hf fun NF=>lC NF.2;rw[hr];exact H9 cW v10 D e'
   ·intro ds tm' h' nx' B Cq;have hr:GO (aK X i os) (0,aQ i) p=0:=agO hf ⟨uB,Cq⟩;rw[hr];simp;simp[nf,B.a.cW,B.a.v10];refine H9 (b10:=b10) ?_ ?_ (B.d.bZ (dQ _) fun b _ hg=>?_) (B.e.put B.ge)
    ·simp[B.a.cW]
    ·simp
    ·rw[aG _ _ _ _ (by rintro rfl;rw[B.a.v10]at hg;cases hg)];exact hg
  rcases X8 with⟨ee,ee2⟩|ee
  ·have Zx:p.length=0:=by rw[ee2];rfl
   rw[Zx]at main;simp[na,A.k8,A2.v8,ee];refine main _ ?_ ?_ ?_ ?_ ?_ ?_ ?_<;>simp[ee,A.k8,A.cW,A.dU]
  ·simp[na,A.k8,A2.v8,ee];refine main _ ?_ ?_ ?_ ?_ ?_ ?_ ?_<;>simp[ee,A.k8,A.cW,A.dU]
 ·have Mm:¬Gj (0,aQ i)∈p:=fun q=>uB (Ae.1 q);have hr:GO (aK X i os) (0,aQ i) p=18:=Xw hf fun NF=>uB NF.1;rw[hr];simp[Mm];simp[ue,A.cW,A2.v10];refine H9 (b10:=b10) ?_ ?_ (jO.nil _ _ _) (e02.put Gx)
  ·simp[A.cW]
  ·simp
theorem SQ{i:Nat}(hi:i<3){ev:AV}{l:List Ev}(hv:gR 8 eE ev l)(hl:Few l)(sR:dI [] l=0→∀o∈aI 0 l,before o o=false){c3:AV}{p:List Ci}(hp:p.length≤10000)(Hn:∀y∈p,iX i y.2)(X8:gR 5 eD c3 p){h:T ag}{nx:Key} :
  aM C ig [X.m,gH i,ev,.agg [c3],mF] h nx (fun o h' nx'=>o=.ret (I (X.zB i l p))∧Ext h nx h' nx'):=by
 have s1:=kTSu nx;have s2:=kTSu nx.succ;have s3:=kTSu nx.succ.succ;have s4:=kTSu nx.succ.succ.succ;have rb:=S.r fL;have rH:=S.r bE;have hz:∀H,aW 9999 ev H=(ev,H):=fun H=>hv.wH _ _;have xp:(aI 0 l).length≤16:=by have:=sW l 0;have:=hl.len;omega
 have hk3:∀y∈p,y.2.kids.length≤3:=fun y hy=>Jn (Hn y hy);have c3c:c3.aV=true∧c3.cells=[c3]:=by rcases X8 with⟨rfl,_⟩|rfl<;>exact⟨rfl,rfl⟩
 refine S.Fp.callV ?_;simp[Cv];simp[Dy,Kn.m,mF];have e4:=(((E0 h nx (.cells [.sl X.rows 7 45 .any] .fix)).trans (E0 _ nx.succ (.cells [c3] .fix))).trans (E0 _ nx.succ.succ (.cells [I 200,I 50] .fix))).trans (E0 _ nx.succ.succ.succ (.cells [I 0] .fix));have bm:ae nx (au nx.succ.succ.succ (Qw [I 0]) (au nx.succ.succ (Qw [I 200,I 50]) (au nx.succ (Qw [c3]) (au nx (Qw [.sl X.rows 7 45 .any]) h))))=Qw [.sl X.rows 7 45 .any]:=by rw[aw (by omega),aw (by omega),aw (by omega)];simp
 have b8:ae nx.succ (au nx.succ.succ.succ (Qw [I 0]) (au nx.succ.succ (Qw [I 200,I 50]) (au nx.succ (Qw [c3]) (au nx (Qw [.sl X.rows 7 45 .any]) h))))=Qw [c3]:=by rw[aw (by omega),aw (by omega)];simp
 have bl:ae nx.succ.succ (au nx.succ.succ.succ (Qw [I 0]) (au nx.succ.succ (Qw [I 200,I 50]) (au nx.succ (Qw [c3]) (au nx (Qw [.sl X.rows 7 45 .any]) h))))=Qw [I 200,I 50]:=by rw[aw (by omega)];simp
 have b10:ae nx.succ.succ.succ (au nx.succ.succ.succ (Qw [I 0]) (au nx.succ.succ (Qw [I 200,I 50]) (au nx.succ (Qw [c3]) (au nx (Qw [.sl X.rows 7 45 .any]) h))))=Qw [I 0]:=by simp
 generalize au nx.succ.succ.succ (Qw [I 0]) (au nx.succ.succ (Qw [I 200,I 50]) (au nx.succ (Qw [c3]) (au nx (Qw [.sl X.rows 7 45 .any]) h)))=h4 at *;simp[Dz,bm,bl,rb,hz];refine(S0 S hi hv hl).mono ?_;rintro o h5 nx5 ⟨e5,hR⟩;have n5:=e5.n;have e45:=e4.trans e5;have b85:ae nx.succ h5=Qw [c3]:=by rw[e5.g _ (by omega)];exact b8
 have aBT:ae nx.succ.succ.succ h5=Qw [I 0]:=by rw[e5.g _ (by omega)];exact b10
 rcases hR with⟨bT,rfl⟩|⟨uC,bj,cO,rfl,bj5,hc,bj0,bjn⟩
 ·have IA:X.zB i l p=jD i l:=by unfold Kn.zB;rw[if_neg bT]
  rw[IA];simp;simp[vW,bq bT];simp[DA,aBT];refine H9 (b10:=nx.succ.succ.succ) ?_ ?_ (jO.nil _ _ _) (e45.put (by omega))<;>simp
 ·obtain⟨hvd,yb⟩:=BA uC;have hbo:=sR hvd;have IA:X.zB i l p=GO (aK X i (aI 0 l)) (0,aQ i) p:=by unfold Kn.zB;rw[if_pos uC]
  rw[IA];simp;simp[vW];have main:∀tm2:T AV,ae (K 8) tm2=some (.ptr nx.succ 0)→ae (K 10) tm2=some (.ptr nx.succ.succ.succ 0)→ae (K 11) tm2=some (.ptr bj 0)→ae (K 32) tm2=some c3→ae (K 33) tm2=some (I p.length)→ae (K 34) tm2=some (I 0)→
    V C (.loop pD) (si 0 (Uc (MJ C ah6 (MI [.cell (K 10) false 1] fun o h' nx'=>o=.ret (I (GO (aK X i (aI 0 l)) (0,aQ i) p))∧Ext h nx h' nx')) (MI [.cell (K 10) false 1] fun o h' nx'=>o=.ret (I (GO (aK X i (aI 0 l)) (0,aQ i) p))∧Ext h nx h' nx'))) [] tm2 h5 nx5:=by
   intro tm2 q8 Gm UG q32 q33 q34;refine V.aue (ajV S xp hc hp hk3 X8 (h:=h) (nx:=nx) (b8:=nx.succ) (b10:=nx.succ.succ.succ) (bj:=bj) (m:=p.length) (i:=i) (by omega) ⟨0,by simp,by omega,⟨q8,Gm,UG,b85,aBT,bj5,by omega⟩,q32,q33,by simpa using q34,e45,Co.zero _ _⟩ ?_ ?_)
   ·intro tm' h' nx' cW v10 lC e';have hr:GO (aK X i (aI 0 l)) (0,aQ i) p=1:=ak6 lC;rw[hr];exact H9 cW v10 (jO.nil _ _ _) e'
   ·intro tm' h' nx' A hf e';exact aoF S hi yb hbo xp hc hp Hn hf X8 A e' (by omega)
  rcases X8 with⟨e1,e2⟩|e
  ·have Zx:p.length=0:=by rw[e2];rfl
   rw[Zx]at main;simp[vX,b85,e1];refine main _ ?_ ?_ ?_ ?_ ?_ ?_<;>simp[e1]
  ·simp[vX,b85,e];refine main _ ?_ ?_ ?_ ?_ ?_ ?_<;>simp[e]
end Ln
namespace Ln
open Go.Sx Go
def avo(X:Kn)(i:Nat)(l:List Ev)(h:T ag)(nx:Key)(o:Out)(h':T ag)(nx':Key):Prop:=Ext h nx h' nx'∧
 ((jD i l≠0∧o=.ret (.tuple [.nils,.agg [.nils],I (jD i l)]))∨
  (jD i l=0∧((Rt (aK X i (aI 0 l)) 1025 0 [(0,aQ i)]=none∧o=.ret (.tuple [.nils,.agg [.nils],I 4]))∨
   ∃L,Rt (aK X i (aI 0 l)) 1025 0 [(0,aQ i)]=some L∧Kept (aK X i (aI 0 l)) L.length L∧(∀y∈L,iX i y.2)∧((∃p cR,Path (aK X i (aI 0 l)) (0,aQ i) p∧gR 1 eI cR (uy p)∧o=.ret (.tuple [cR,.agg [.nils],I 0]))∨
    (¬Good (aK X i (aI 0 l)) (0,aQ i)∧∃cR,gR 5 eC cR (jF L)∧o=.ret (.tuple [.nils,.agg [cR],I 0]))))))
theorem adX(S:Sys St)(l:List (Cf St)):Kg l.length [AV.bool false] []=c9 (dM S l l.length):=by rw[adY,repL_eq,List.append_nil];unfold c9;rw[List.map_replicate];simp
variable{C:bU}{X:Kn}(S:Std C X)(H:PU C)
include S H
theorem alE{i:Nat}(hi:i<3){ev:AV}{l:List Ev}(hv:gR 8 eE ev l)(hl:Few l)(sR:dI [] l=0→∀o∈aI 0 l,before o o=false){h:T ag}{nx:Key} :
  aM C mz [X.m,gH i,ev,mF] h nx (avo X i l h nx):=by
 have s1:=kTSu nx;have s2:=kTSu nx.succ;have s3:=kTSu nx.succ.succ;have rb:=S.r fL;have rE:=S.r fi;have rC:=S.r dN;have rS:C.raw cX=true:=S.rw (by decide);have hz:∀H,aW 9999 ev H=(ev,H):=fun H=>hv.wH _ _;have xp:(aI 0 l).length≤16:=by have:=sW l 0;have:=hl.len;omega
 refine S.JE.call ?_;simp[Ho];simp[Hp,Kn.m,mF];have e2:=((E0 h nx (.cells [.sl X.rows 7 45 .any] .fix)).trans (E0 _ nx.succ (.cells [I 200,I 50] .fix))).trans (E0 _ nx.succ.succ (.cells [.nils] .fix));have bm2:ae nx (au nx.succ.succ (Qw [.nils]) (au nx.succ (Qw [I 200,I 50]) (au nx (Qw [.sl X.rows 7 45 .any]) h)))=Qw [.sl X.rows 7 45 .any]:=by rw[aw (by omega),aw (by omega)];simp
 have bl2:ae nx.succ (au nx.succ.succ (Qw [.nils]) (au nx.succ (Qw [I 200,I 50]) (au nx (Qw [.sl X.rows 7 45 .any]) h)))=Qw [I 200,I 50]:=by rw[aw (by omega)];simp
 have b92:ae nx.succ.succ (au nx.succ.succ (Qw [.nils]) (au nx.succ (Qw [I 200,I 50]) (au nx (Qw [.sl X.rows 7 45 .any]) h)))=Qw [.nils]:=by simp
 generalize au nx.succ.succ (Qw [.nils]) (au nx.succ (Qw [I 200,I 50]) (au nx (Qw [.sl X.rows 7 45 .any]) h))=h2 at *;simp[Hq,bm2,bl2,rb,hz];refine(S0 S hi hv hl).mono ?_;rintro o h3 bP ⟨e3,hR⟩;have Ns:=e2.trans e3;have n3:=e3.n;have b93:ae nx.succ.succ h3=Qw [.nils]:=by rw[e3.g _ (by omega)];exact b92
 rcases hR with⟨bT,rfl⟩|⟨uC,bj,cO,rfl,Ye,hc,bj0,bjn⟩
 ·simp;simp[zZ,bq bT];simp[Hr,b93];exact⟨Ns.put (by omega),.inl ⟨bT,rfl⟩⟩
 ·obtain⟨hvd,yb⟩:=BA uC;have hbo:=sR hvd;simp;simp[zZ];simp[Ht,rE];refine(adZ S H hi yb hbo xp hc Ye bjn).mono ?_;rintro o h4 kK ⟨e4,hR⟩;have Zt:=Ns.trans e4;have n4:=e4.n;have b94:ae nx.succ.succ h4=Qw [.nils]:=by rw[e4.g _ (by omega)];exact b93
  have bj4:ae bj h4=Qw (jB X i cO (aQ i) (iN (aI 0 l) (aI 0 l).length)):=by rw[e4.g bj bjn];exact Ye
  rcases hR with⟨BB,rfl⟩|⟨L,br,cC,cS,cs,BB,rfl,kp,h0,Hn,G⟩
  ·simp;simp[z6];simp[Hu,b94];exact⟨Zt.put (by omega),.inr ⟨uC,.inl ⟨BB,rfl⟩⟩⟩
  ·simp;simp[z6];obtain⟨bm,oC,E,R⟩:=G.R;obtain⟨oS,GS⟩:=G.B;have F:FdH X i (aI 0 l) cO L bj br bm cC cS cs h4 kK:=⟨bj4,R.mD,R.C.rd,GS.rd,⟨by omega,R.brn⟩,G.csl,G.row⟩;have hL:=kp.len;have hL0:0<L.length:=(List.getElem?_eq_some_iff.1 h0).1;have hLc:L.length≤1048576:=by omega
   have t1:=kTSu kK;have t2:=kTSu kK.succ;have hRC:=F.C;simp[↓hRC.ln,Hv,R.mD,hLc,-repL_eq];rw[adX (aK X i (aI 0 l)) L];have e5:=(E0 h4 kK (.cells (c9 (dM (aK X i (aI 0 l)) L L.length)) .fix)).trans (E0 _ kK.succ (.cells [.slice kK 0 L.length 1] .fix));have vg:ae kK (au kK.succ (Qw [.slice kK 0 L.length 1]) (au kK (Qw (c9 (dM (aK X i (aI 0 l)) L L.length))) h4))=Qw (c9 (dM (aK X i (aI 0 l)) L L.length)):=by rw[aw (by omega)];simp
   have v14:ae kK.succ (au kK.succ (Qw [.slice kK 0 L.length 1]) (au kK (Qw (c9 (dM (aK X i (aI 0 l)) L L.length))) h4))=Qw [.slice kK 0 L.length 1]:=by simp
   generalize au kK.succ (Qw [.slice kK 0 L.length 1]) (au kK (Qw (c9 (dM (aK X i (aI 0 l)) L L.length))) h4)=h5 at *;have F5:=F.ext e5;have aEX:=F5.C;have hw1:bF .i64 ((L.length:Int)-1)=(L.length:Int)-1:=aH (by omega) (by omega);simp[↓aEX.ln,Hw,F5.vr,hw1];refine aiI S xp kp F (b14:=kK.succ) (bg:=kK) (by omega) (fun e=>by have:=congrArg Key.toNat e;omega) (m:=L.length) ⟨L.length,rfl,dQ _,Kpt.refl _,by simp,by simp,by simp,by simp,v14,vg,by omega,by omega,e5⟩ ?_;intro tm' h6 Bu hKp UG NB q14 w14 wg adH bgn e6;have q9:=hKp (K 9) (.inr (.inl rfl));simp at q9;have e26:=Zt.trans e6;have n6:=e6.n;have b96:ae nx.succ.succ h6=Qw [.nils]:=by rw[e6.g _ (by omega)];exact b94
   have yh:(c9 (dM (aK X i (aI 0 l)) L 0)).length=L.length:=by rw[gT,sD]
   have hg0:∀hh,(c9 (dM (aK X i (aI 0 l)) L 0))[0]'hh=.bool (tA (aK X i (aI 0 l)) (0,aQ i)):=fun hh=>by
    have cH:0<(dM (aK X i (aI 0 l)) L 0).length:=by rw[sD];exact hL0
    have h1:=ze cH;rw[A6 hh]at h1;rw[Option.some.inj h1];have h2:=NI (S:=aK X i (aI 0 l)) (l:=L) (a:=0) hL0;rw[List.getD_eq_getElem?_getD,A6 cH]at h2;have h3:kQ (aK X i (aI 0 l)) L 0=tA (aK X i (aI 0 l)) (0,aQ i):=by unfold kQ;rw[h0]
    rw[h3]at h2;simpa using h2
   simp;simp[EV,q14,w14,wg,hL0,yh,hg0];refine⟨fun hgf=>?_,fun O0=>?_⟩
   ·have t3:=kTSu Bu;have hk3:∀y∈L,y.2.kids.length≤3:=fun y hy=>Jn (Hn y hy);have GC6:=R.C.ext e6;obtain⟨hiC,KZ⟩:=Gr.OC wM GC6 9998;have F6:=F.ext e6;have az6:∀b,oC=some b→bP.toNat≤b.toNat:=fun b hb=>(R.ow b (.inl hb)).2.2;simp[EW,NB,F6.vr,rC];generalize hcC:(aW 9999 cC h6).1=cC' at *;generalize hh7:(aW 9999 cC h6).2=h7 at *;refine(alM S hL0 hL hk3 hiC (h:=h7) (nx:=Bu)).mono ?_;rintro o h8 nx8 ⟨rfl,vn,vlt,e8⟩;have t4:=kTSu nx8;have n8:=e8.n;simp;have b97:ae nx.succ.succ h7=Qw [.nils]:=by rw[KZ _ (fun e=>by have:=az6 _ e;omega)];exact b96
    have b98:ae nx.succ.succ h8=Qw [.nils]:=by rw[e8.g _ (by omega)];exact b97
    have low:∀b:Key,b.toNat<nx.toNat→ae b h8=ae b h:=fun b hb=>by rw[e8.g b (by omega),KZ b (fun e=>by have:=az6 _ e;omega)];exact e26.g b hb
    have v18:ae nx8 (au nx8 (Qw [.slice Bu 0 L.length 5]) h8)=Qw [.slice Bu 0 L.length 5]:=by simp
    have vn9:ae Bu (au nx8 (Qw [.slice Bu 0 L.length 5]) h8)=Qw (ai eC L):=by rw[aw (by omega)];exact vn
    have b99:ae nx.succ.succ (au nx8 (Qw [.slice Bu 0 L.length 5]) h8)=Qw [.nils]:=by rw[aw (by omega)];exact b98
    have aEZ:∀b:Key,b.toNat<nx.toNat→ae b (au nx8 (Qw [.slice Bu 0 L.length 5]) h8)=ae b h:=fun b hb=>by rw[aw (by omega)];exact low b hb
    generalize au nx8 (Qw [.slice Bu 0 L.length 5]) h8=h9 at *;simp[EY,v18,rS];refine .inl ⟨_,_,_,H.alN L Bu h9 nx8.succ hk3 kp.nodup hL vn9,?_⟩;simp;have n68:nx8≠Bu:=fun e=>by rw[e]at vlt;omega
    have n62:nx.succ.succ≠Bu:=fun e=>by rw[←e]at n6;omega
    have v182:ae nx8 (au Bu (Qw (ai eC (jF L))) h9)=Qw [.slice Bu 0 L.length 5]:=by rw[aG _ _ _ _ n68];exact v18
    have b9a:ae nx.succ.succ (au Bu (Qw (ai eC (jF L))) h9)=Qw [.nils]:=by rw[aG _ _ _ _ n62];exact b99
    have vna:ae Bu (au Bu (Qw (ai eC (jF L))) h9)=Qw (ai eC (jF L)):=by simp
    have aE0:∀b:Key,b.toNat<nx.toNat→ae b (au Bu (Qw (ai eC (jF L))) h9)=ae b h:=fun b hb=>by rw[aw (by omega)];exact aEZ b hb
    generalize au Bu (Qw (ai eC (jF L))) h9=ha at *;have hsl:(jF L).length=L.length:=by unfold jF;rw[List.length_mergeSort]
    have hrw:(ai eC (jF L)).length=L.length*5:=by rw[wM.rows,hsl]
    have vnb:∀B,ae Bu (au nx.succ.succ B ha)=Qw (ai eC (jF L)):=fun B=>by rw[aG _ _ _ _ (Ne.symm n62)];exact vna
    simp[EZ,v182,b9a,q9];have hz:=wF (n:=9997) (b:=Bu) (len:=L.length) (sz:=5) (H:=au nx.succ.succ (Qw [.slice Bu 0 L.length 5]) ha) (vnb _) hrw (wM.IL _);rw[hz];refine⟨⟨by omega,fun b hb=>?_⟩,.inr ⟨uC,.inr ⟨L,BB,kp,Hn,.inr ⟨Wx.1 hgf,_,.inr (by rw[hsl]),rfl⟩⟩⟩⟩;show ae b (au Bu _ (au nx.succ.succ _ ha))=ae b h;rw[aw (by omega),aw (by omega)];exact aE0 b hb
   ·have t3:=kTSu Bu;have aE1:kQ (aK X i (aI 0 l)) L 0=true:=by unfold kQ;rw[h0];exact O0
    simp[E3];have e7:=E0 h6 Bu (.cells [] .fix);have v19:ae Bu (au Bu (Qw []) h6)=Qw []:=by simp
    generalize au Bu (Qw []) h6=h7 at *;have e47:=e6.trans e7;have GB:GdB kK.succ kK (dM (aK X i (aI 0 l)) L 0) h7 Bu.succ:=by refine⟨by rw[e7.g _ adH,sD];exact w14,by rw[e7.g _ bgn];exact wg,by omega,by omega⟩
    simp[E4];refine ad1 S xp kp F (b14:=kK.succ) (bg:=kK) (by omega) (m:=L.length) ⟨0,[],.slice Bu 0 0 1,some Bu,by simp,hL0,aE1,by simp,fun r c hc hr=>⟨c,hc,by simpa using hr⟩,Kpt.refl _,by simp[UG],by simp[NB],by simp[q14],by simp,by simp,.inr (.inl ⟨Bu,.fix,rfl,rfl,v19,by omega,rfl,.inr rfl⟩),fun b hb=>by cases hb;exact⟨by omega,fun e=>by rw[e]at adH;omega,fun e=>by rw[e]at bgn;omega⟩,GB,e47⟩ ?_;intro tm8 h8 nx8 pre c19 o19 hP hK8 g19 G19 aau e8;have p9:=hK8 (K 9) (.inr (.inl rfl));simp[q9]at p9;obtain⟨c0',z1,z2⟩:=hP;have aE2:c0'=(0,aQ i):=by rw[h0]at z1;exact(Option.some.inj z1).symm
    subst aE2;have b98:ae nx.succ.succ h8=Qw [.nils]:=by rw[e8.g _ (by omega)];exact b94
    simp;simp[E5,p9,g19,b98];have n8:=e8.n;have G20:Gr 1 c19 (ai eI (uy pre)) (uy pre).length (au nx.succ.succ (Qw [.nils]) h8) nx8 o19:=G19.bZ (dQ _) fun b hb=>aG _ _ _ _ (fun e=>by have:=aau b hb;rw[e]at this;omega);obtain⟨aE3,aE4⟩:=Gr.OC CT G20 9998;refine⟨⟨by omega,fun b hb=>?_⟩,.inr ⟨uC,.inr ⟨L,BB,kp,Hn,.inl ⟨pre,_,z2,aE3,rfl⟩⟩⟩⟩;rw[aE4 b (fun e=>by have:=aau b e;omega),aw (by omega),e8.g b (by omega)];exact Zt.g b hb
end Ln
namespace Ln
open Go.Sx Go
theorem C1{L:List (Cf St)}(x:Cf St):x∈jF L↔x∈L:=by unfold jF;exact List.mem_mergeSort
theorem abC(s t:St):lL s t≤0∨lL t s≤0:=by
 by_cases h:lL s t≤0
 ·exact .inl h
 ·right;have:lL t s<0:=(Ir _ _).2 (by show 0<lL s t;omega);omega
theorem asx{a b c:St}(h:lL a b≤0)(k:lL b c≤0):lL a c≤0:=by
 by_cases h0:lL a b=0
 ·rw[yY.1 h0];exact k
 ·by_cases k0:lL b c=0
  ·rw[←yY.1 k0];exact h
  ·have:=D9 (l:=sL a) (m:=sL b) (n:=sL c) (by show lL a b<0;omega) (by show lL b c<0;omega);exact Int.le_of_lt this
theorem ali{L:List (Cf St)}(hn:L.Nodup):(jF L).Pairwise ZU:=by
 have h1:(jF L).Pairwise fun a b=>decide (a.1<b.1∨a.1=b.1∧lL a.2 b.2≤0)=true:=by
  unfold jF;refine List.pairwise_mergeSort (fun a b c h k=>?_) (fun a b=>?_) L
  ·rw[decide_eq_true_eq]at h k ⊢;rcases h with h|⟨h,h2⟩<;>rcases k with k|⟨k,k2⟩
   ·exact .inl (by omega)
   ·exact .inl (by omega)
   ·exact .inl (by omega)
   ·exact .inr ⟨by omega,asx h2 k2⟩
  ·rw[Bool.or_eq_true,decide_eq_true_eq,decide_eq_true_eq];rcases Nat.lt_trichotomy a.1 b.1 with h|h|h
   ·exact .inl (.inl h)
   ·rcases abC a.2 b.2 with k|k
    ·exact .inl (.inr ⟨h,k⟩)
    ·exact .inr (.inr ⟨h.symm,k⟩)
   ·exact .inr (.inl h)
 have h2:(jF L).Nodup:=(List.mergeSort_perm L _).nodup_iff.2 hn;refine(h1.and h2).imp fun {a b} ⟨h,bT⟩=>?_;rw[decide_eq_true_eq]at h;rcases h with h|⟨h,k⟩
 ·exact .inl h
 ·refine .inr ⟨h,?_⟩;have:lL a.2 b.2≠0:=fun e=>bT (Prod.ext h (yY.1 e));omega
structure Dcd(C:bU):Prop where
 uE:Fn C mG qp
 C0:Fn C gw zG
 yj:Fn C cZ tF
 yC:Fn C aZ tR
 Aw:Fn C iZ vN
end Ln
