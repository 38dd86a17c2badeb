/- A part of the proof. No condition. -/
import Derived.Test.YtecbfpngkfdkoaaGreatP35
set_option linter.unusedSimpArgs false
set_option linter.unusedVariables false
set_option linter.unusedSectionVars false
namespace Ln
open Go.Sx Go
structure Exp(n0:Key)(lk:List (Cf St))(st:List (Nat×Nat))(br bm b4 b6:Key)(cC cS c6:AV)(oC o6:Option Key)(E:List Bk)(h:T ah)(nx:Key):Prop where
 R:WU n0 lk br bm cC cS oC E h nx
 v4:ae b4 h=some (.cells [.ptr br 0] .fix)
 v6:ae b6 h=some (.cells [c6] .fix)
 G6:Gr 2 c6 (ag eT st) st.length h nx o6
 lt:b4.toNat<nx.toNat∧b6.toNat<nx.toNat
 ne:b4≠br∧b4≠bm∧b4≠b6∧b6≠br∧b6≠bm
 ap:∀b,(oC=some b∨∃e∈E,e.o=some b)→b≠b4∧b≠b6∧o6≠some b
 o6:∀b,o6=some b→b≠br∧b≠bm∧b≠b4∧b≠b6∧n0.toNat≤b.toNat
 ge:n0.toNat≤b4.toNat∧n0.toNat≤b6.toNat
def kN(br bm b6:Key)(oC o6:Option Key)(E:List Bk)(b:Key):Prop:=b=br∨b=bm∨b=b6∨oC=some b∨(∃e∈E,e.o=some b)∨o6=some b
theorem Exp.ge'{n0:Key}{lk:List (Cf St)}{st:List (Nat×Nat)}{br bm b4 b6:Key}{cC cS c6:AV}{oC o6:Option Key}{E:List Bk}{h:T ah}{nx:Key}(A:Exp n0 lk st br bm b4 b6 cC cS c6 oC o6 E h nx){b:Key}(hb:kN br bm b6 oC o6 E b):n0.toNat≤b.toNat:=by
 rcases hb with rfl|rfl|rfl|hb|⟨e,he,hb⟩|hb
 ·exact A.R.bb.2.1
 ·exact A.R.bb.2.2
 ·exact A.ge.2
 ·exact(A.R.ow b (.inl hb)).2.2
 ·exact(A.R.ow b (.inr ⟨e,he,hb⟩)).2.2
 ·exact(A.o6 b hb).2.2.2.2
theorem WU.cF{n0:Key}{l:List (Cf St)}{br bm:Key}{cC cS:AV}{oC:Option Key}{E:List Bk}{h h':T ah}{nx nx':Key}(R:WU n0 l br bm cC cS oC E h nx)(hn:nx.toNat≤nx'.toNat)(hk:∀b,(b=br∨b=bm∨oC=some b∨∃e∈E,e.o=some b)→ae b h'=ae b h):WU n0 l br bm cC cS oC E h' nx':=
 ⟨by rw[hk br (.inl rfl)];exact R.lW,by rw[hk bm (.inr (.inl rfl))];exact R.map,by have:=R.brn;omega,by have:=R.bmn;omega,R.C.cF hn fun b hb=>hk b (.inr (.inr (.inl hb))),fun x hx=>(R.B x hx).cF hn fun b hb=>hk b (.inr (.inr (.inr ⟨x,hx,hb⟩))),R.nd,R.cov,R.aj3,R.sep,R.ow,R.cs,R.bb⟩
theorem WU.olt{n0:Key}{l:List (Cf St)}{br bm:Key}{cC cS:AV}{oC:Option Key}{E:List Bk}{h:T ah}{nx:Key}(R:WU n0 l br bm cC cS oC E h nx){b:Key}(hb:oC=some b∨∃e∈E,e.o=some b):b.toNat<nx.toNat:=by
 rcases hb with hb|⟨e,he,hb⟩
 ·exact R.C.lt b hb
 ·exact(R.B e he).lt b hb
variable{C:bQ}{X:Kn}(S:Std C X)(H:OU C)
include S H
theorem aAL{n0:Key}{lk:List (Cf St)}(hl:lk.length≤9000)(BL:∀y∈lk,y.2.kids.length≤3){x:Cf St}(hx:x.2.kids.length≤3){st:List (Nat×Nat)}(ei:st.length≤1000){br bm b4 b6 b8:Key}{cC cS c6:AV}{oC o6:Option Key}{E:List Bk}{h:T ah}{nx:Key}(A:Exp n0 lk st br bm b4 b6 cC cS c6 oC o6 E h nx)(hn0:n0.toNat≤nx.toNat)(v8:ae b8 h=some (.cells (eC x) .fix))(b8n:b8.toNat<nx.toNat){k:Nat}{Q:dh}{tm:T AV}(g4:ae (K 4) tm=some (.ptr b4 0))(g6:ae (K 6) tm=some (.ptr b6 0))(g7:ae (K 7) tm=some (I (k:Int)))(g8:ae (K 8) tm=some (.ptr b8 0))
  (hQ:∀ay h' nx' j cC' c6' Pq o6' E',(dW lk x)[j]?=some x→Exp n0 (dW lk x) (st ++ [(k,j)]) br bm b4 b6 cC' cS c6' Pq o6' E' h' nx'→nx.toNat≤nx'.toNat→(∀b:Key,b.toNat<nx.toNat→¬kN br bm b6 oC o6 E b→ae b h'=ae b h)→(∀b,kN br bm b6 Pq o6' E' b→kN br bm b6 oC o6 E b∨nx.toNat≤b.toNat)→ae (K 4) ay=some (.ptr b4 0)→ae (K 2) ay=ae (K 2) tm→ae (K 3) ay=ae (K 3) tm→Q .norm ay h' nx') :
  gn C (.staged cH ⟨[K 38,K 39,K 40,K 41,K 42,K 43,K 44,K 45],[]⟩) Q tm h nx:=by
 have rA:C.raw dG=false:=S.nr (by decide);have k6:=A.G6.cell;have b6q:AV.beq c6 c6=true:=A.G6.lits iE;simp[cH,g4,g6,g7,g8,A.v4,A.v6,v8,pr,y8,rA,CN];refine(am2 S H (by omega) BL hx hn0 A.R).mono ?_;rintro o h2 aN ⟨⟨j,cC2,oC2,E2,hj,rfl,R2,Wh⟩,n2,k2⟩;have s2:=kTSu aN;have nm:∀b:Key,b.toNat<nx.toNat→b≠br→b≠bm→oC≠some b→(∀e∈E,e.o≠some b)→ae b h2=ae b h:=k2;have v62:ae b6 h2=some (.cells [c6] .fix):=by rw[nm b6 A.lt.2 A.ne.2.2.2.1 A.ne.2.2.2.2 (fun e=>(A.ap b6 (.inl e)).2.1 rfl) (fun e he ho=>(A.ap b6 (.inr ⟨e,he,ho⟩)).2.1 rfl)];exact A.v6
 have v42:ae b4 h2=some (.cells [.ptr br 0] .fix):=by rw[nm b4 A.lt.1 A.ne.1 A.ne.2.1 (fun e=>(A.ap b4 (.inl e)).1 rfl) (fun e he ho=>(A.ap b4 (.inr ⟨e,he,ho⟩)).1 rfl)];exact A.v4
 have G62:Gr 2 c6 (ag eT st) st.length h2 aN o6:=A.G6.cF n2 fun b hb=>by have h1:=A.o6 b hb;exact nm b (A.G6.lt b hb) h1.1 h1.2.1 (fun e=>(A.ap b (.inl e)).2.2 hb) (fun e he ho=>(A.ap b (.inr ⟨e,he,ho⟩)).2.2 hb)
 have hET:eT (k,j)=[I (k:Int),I (j:Int)]:=rfl;have e3:=E0 h2 aN (.cells (eT (k,j)) .fix);obtain⟨c7,h4,jZ,o7,ha,G7,F7⟩:=(G62.ext e3).As iE (by decide) (by decide) (by omega) (k,j);have F27:=(nR.iT e3 o6).trans F7;rw[hET]at ha;have n4:=F27.n;have k7:=G7.cell;have v64:ae b6 h4=some (.cells [c6] .fix):=by rw[F27.g b6 (by have:=A.lt.2;omega) (fun e=>(A.o6 b6 e).2.2.2.1 rfl)];exact v62
 simp[-appendTo,g4,g6,g7,v62,v64,b6q,ha,k6.1,k6.2,k7.1,k7.2];have o7n:∀b:Key,o7=some b→o6=some b∨aN.toNat≤b.toNat:=fun b hb=>by
  rcases F27.o with e|⟨y,e,hy⟩
  ·rw[e]at hb;exact .inl hb
  ·rw[e]at hb;cases hb;exact .inr hy
 have l4:=A.lt.1;have l6:=A.lt.2;have lr:=A.R.brn;have lm:=A.R.bmn;have ow2:∀b:Key,(oC2=some b∨∃e∈E2,e.o=some b)→b≠b4∧b≠b6∧o6≠some b:=fun b hb=>by
  rcases Wh b hb with h1|h1
  ·exact A.ap b h1
  ·exact⟨fun e=>by rw[e]at h1;omega,fun e=>by rw[e]at h1;omega,fun e=>by have:=A.G6.lt b e;omega⟩
 have aFF:o7≠some b6:=fun e=>by
  rcases o7n b6 e with h1|h1
  ·exact(A.o6 b6 h1).2.2.2.1 rfl
  ·omega
 have same:∀b:Key,b.toNat<aN.toNat→b≠b6→o6≠some b→ae b (aw b6 (some (.cells [c7] .fix)) h4)=ae b h2:=fun b hb h1 h2=>by rw[aU _ _ _ _ h1,F27.g b hb h2]
 refine hQ _ _ _ j cC2 c7 oC2 o7 E2 hj ⟨?_,?_,by simp,?_,by omega,A.ne,?_,?_,A.ge⟩ (by omega) ?_ ?_ (by simp[g4]) (by simp) (by simp)
 ·refine R2.cF n4 fun b hb=>?_;rcases hb with rfl|rfl|hb|hb
  ·exact same _ R2.brn (Ne.symm A.ne.2.2.2.1) (fun e=>(A.o6 _ e).1 rfl)
  ·exact same _ R2.bmn (Ne.symm A.ne.2.2.2.2) (fun e=>(A.o6 _ e).2.1 rfl)
  ·have h1:=ow2 b (.inl hb);exact same b (R2.olt (.inl hb)) h1.2.1 h1.2.2
  ·have h1:=ow2 b (.inr hb);exact same b (R2.olt (.inr hb)) h1.2.1 h1.2.2
 ·rw[same b4 (by omega) A.ne.2.2.1 (fun e=>(A.o6 b4 e).2.2.1 rfl)];exact v42
 ·exact G7.cF (fg _) fun b hb=>aU _ _ _ _ (fun e=>aFF (by rw[hb,e]))
 ·intro b hb;have h1:=ow2 b hb;refine⟨h1.1,h1.2.1,fun e=>?_⟩;rcases o7n b e with h2|h2
  ·exact h1.2.2 h2
  ·have:=R2.olt hb;omega
 ·intro b hb;rcases o7n b hb with h1|h1
  ·exact A.o6 b h1
  ·exact⟨fun e=>by rw[e]at h1;omega,fun e=>by rw[e]at h1;omega,fun e=>by rw[e]at h1;omega,fun e=>by rw[e]at h1;omega,by omega⟩
 ·intro b hb hm;unfold kN at hm;simp only[not_or]at hm;rw[same b (by omega) hm.2.2.1 hm.2.2.2.2.2,nm b hb hm.1 hm.2.1 hm.2.2.2.1 (fun e he ho=>hm.2.2.2.2.1 ⟨e,he,ho⟩)]
 ·rintro b (rfl|rfl|rfl|hb|⟨e,he,hb⟩|hb)
  ·exact .inl (.inl rfl)
  ·exact .inl (.inr (.inl rfl))
  ·exact .inl (.inr (.inr (.inl rfl)))
  ·rcases Wh b (.inl hb)with h1|h1
   ·exact .inl (by
     rcases h1 with h1|h1
     ·exact .inr (.inr (.inr (.inl h1)))
     ·exact .inr (.inr (.inr (.inr (.inl h1)))))
   ·exact .inr h1
  ·rcases Wh b (.inr ⟨e,he,hb⟩)with h1|h1
   ·exact .inl (by
     rcases h1 with h1|h1
     ·exact .inr (.inr (.inr (.inl h1)))
     ·exact .inr (.inr (.inr (.inr (.inl h1)))))
   ·exact .inr h1
  ·rcases o7n b hb with h1|h1
   ·exact .inl (.inr (.inr (.inr (.inr (.inr h1)))))
   ·exact .inr (by omega)
end Ln
namespace Ln
open Go.Sx Go
theorem _root_.Go.Sx.Gr.ct{z:Nat}{c:AV}{l:List AV}{len:Nat}{h:T ah}{nx:Key}{ob:Option Key}(g:Gr z c l len h nx ob){b:Key}(hb:ob=some b):(∃l k,ae b h=some (.cells l k))∨ae b h=some .tok:=by
 rcases g with⟨_,_,_,e⟩|⟨b',k,e,_,h1,_⟩|⟨t,e,_,h1,_⟩
 ·rw[e]at hb;cases hb
 ·rw[e]at hb;cases hb;exact .inl ⟨_,_,h1⟩
 ·rw[e]at hb;cases hb;exact .inr h1
theorem Exp.ct{n0:Key}{lk:List (Cf St)}{st:List (Nat×Nat)}{br bm b4 b6:Key}{cC cS c6:AV}{oC o6:Option Key}{E:List Bk}{h:T ah}{nx:Key}(A:Exp n0 lk st br bm b4 b6 cC cS c6 oC o6 E h nx){b:Key}(hb:kN br bm b6 oC o6 E b):b.toNat<nx.toNat∧((∃l k,ae b h=some (.cells l k))∨ae b h=some .tok∨∃l,ae b h=some (.map l)):=by
 rcases hb with rfl|rfl|rfl|hb|⟨e,he,hb⟩|hb
 ·exact⟨A.R.brn,.inl ⟨_,_,A.R.lW⟩⟩
 ·exact⟨A.R.bmn,.inr (.inr ⟨_,A.R.map⟩)⟩
 ·exact⟨A.lt.2,.inl ⟨_,_,A.v6⟩⟩
 ·refine⟨A.R.C.lt b hb,?_⟩;rcases A.R.C.ct hb with h1|h1
  ·exact .inl h1
  ·exact .inr (.inl h1)
 ·refine⟨(A.R.B e he).lt b hb,?_⟩;rcases (A.R.B e he).ct hb with h1|h1
  ·exact .inl h1
  ·exact .inr (.inl h1)
 ·refine⟨A.G6.lt b hb,?_⟩;rcases A.G6.ct hb with h1|h1
  ·exact .inl h1
  ·exact .inr (.inl h1)
theorem Exp.cF{n0:Key}{lk:List (Cf St)}{st:List (Nat×Nat)}{br bm b4 b6:Key}{cC cS c6:AV}{oC o6:Option Key}{E:List Bk}{h h':T ah}{nx nx':Key}(A:Exp n0 lk st br bm b4 b6 cC cS c6 oC o6 E h nx)(hn:nx.toNat≤nx'.toNat)(hk:∀b,(kN br bm b6 oC o6 E b∨b=b4)→ae b h'=ae b h):Exp n0 lk st br bm b4 b6 cC cS c6 oC o6 E h' nx':=
 ⟨A.R.cF hn fun b hb=>hk b (.inl (by
  rcases hb with h1|h1|h1|h1
  ·exact .inl h1
  ·exact .inr (.inl h1)
  ·exact .inr (.inr (.inr (.inl h1)))
  ·exact .inr (.inr (.inr (.inr (.inl h1)))))),by rw[hk b4 (.inr rfl)];exact A.v4,by rw[hk b6 (.inl (.inr (.inr (.inl rfl))))];exact A.v6,A.G6.cF hn fun b hb=>hk b (.inl (.inr (.inr (.inr (.inr (.inr hb)))))),by have:=A.lt;omega,A.ne,A.ap,A.o6,A.ge⟩
variable{C:bQ}{X:Kn}(S:Std C X)(H:OU C)
include S H
theorem atf{n0:Key}{lk:List (Cf St)}(hl:lk.length≤9000)(BL:∀y∈lk,y.2.kids.length≤3){x:Cf St}(hx:x.2.kids.length≤3){st:List (Nat×Nat)}(ei:st.length≤1000){br bm b4 b6 b8 r2 r3:Key}{cC cS c6:AV}{oC o6:Option Key}{E:List Bk}{h:T ah}{nx:Key}(A:Exp n0 lk st br bm b4 b6 cC cS c6 oC o6 E h nx)(hn0:n0.toNat≤nx.toNat)(v8:ae b8 h=some (.cells (eC x) .fix))(b8n:b8.toNat<nx.toNat){u2 u3:AV}(w2:ae r2 h=some (.cells [u2] .fix))(w3:ae r3 h=some (.cells [u3] .fix))(wn:r2.toNat<nx.toNat∧r3.toNat<nx.toNat)(wm:¬kN br bm b6 oC o6 E r2∧¬kN br bm b6 oC o6 E r3∧r2≠r3){k:Nat}{Q:dh}{tm:T AV}(g2:ae (K 2) tm=some (.ptr r2 0))(g3:ae (K 3) tm=some (.ptr r3 0))(g4:ae (K 4) tm=some (.ptr b4 0))(g6:ae (K 6) tm=some (.ptr b6 0))(g7:ae (K 7) tm=some (I (k:Int)))(g8:ae (K 8) tm=some (.ptr b8 0))
  (apZ:∀ay h' nx',1024<(dW lk x).length→ae r2 h'=some (.cells [.nilp] .fix)→ae r3 h'=some (.cells [I 4] .fix)→nx.toNat≤nx'.toNat→(∀b:Key,b.toNat<nx.toNat→¬kN br bm b6 oC o6 E b→b≠r2→b≠r3→ae b h'=ae b h)→Q .ret ay h' nx')
  (Vd:∀ay h' nx' j cC' c6' Pq o6' E',¬1024<(dW lk x).length→(dW lk x)[j]?=some x→Exp n0 (dW lk x) (st ++ [(k,j)]) br bm b4 b6 cC' cS c6' Pq o6' E' h' nx'→nx.toNat≤nx'.toNat→(∀b:Key,b.toNat<nx.toNat→¬kN br bm b6 oC o6 E b→ae b h'=ae b h)→(∀b,kN br bm b6 Pq o6' E' b→kN br bm b6 oC o6 E b∨nx.toNat≤b.toNat)→Q .norm ay h' nx') :
  gn C (.block 3 (.seq (.staged cH ⟨[K 38,K 39,K 40,K 41,K 42,K 43,K 44,K 45],[]⟩) (.seq (.ops cp) (.cond (.t (K 51)) (.seq (.ops dg) .ret) .skip)))) Q tm h nx:=by
 simp only[Dy,bM];refine aAL S H hl BL hx ei A hn0 v8 b8n g4 g6 g7 g8 (fun aJ h2 aN j cC2 c62 oC2 o62 E2 hj A2 n2 k2 m2 p4 p2 p3=>?_);rw[g2]at p2;rw[g3]at p3;have hR2:=A2.R.C.rd;have w22:ae r2 h2=some (.cells [u2] .fix):=by rw[k2 r2 wn.1 wm.1];exact w2
 have w32:ae r3 h2=some (.cells [u3] .fix):=by rw[k2 r3 wn.2 wm.2.1];exact w3
 by_cases hov:1024<(dW lk x).length
 ·have ax5:(1024:Int)<(dW lk x).length:=by omega
  simp[↓hR2.ln,cp,p4,A2.v4,A2.R.lW,ax5];have w33:ae r3 (aw r2 (some (.cells [.nilp] .fix)) h2)=some (.cells [u3] .fix):=by rw[aU _ _ _ _ (Ne.symm wm.2.2)];exact w32
  simp[dg,p2,p3,w22,w33];refine apZ _ _ _ hov ?_ (by simp) n2 (fun b hb hm h1 h3=>?_)
  ·rw[aU _ _ _ _ wm.2.2];simp
  ·rw[aU _ _ _ _ h3,aU _ _ _ _ h1];exact k2 b hb hm
 ·have ax5:¬(1024:Int)<(dW lk x).length:=by omega
  simp[↓hR2.ln,cp,p4,A2.v4,A2.R.lW,ax5];exact Vd _ _ _ j cC2 c62 oC2 o62 E2 hov hj A2 n2 k2 m2
end Ln
namespace Ln
open Go.Sx Go
structure RnI(X:Kn)(i:Nat)(os:List Op)(c:Cf St)(n0:Key)(l0:List (Cf St))(br bm b4 b6 lk d:Key)(cS:AV)(M0:Key→Prop)(ds:List Key)(L:ah)(hA:T ah)(nxA:Key)(k:Nat)(h:T ah)(nx:Key):Prop where
 a:∃(lk:List (Cf St)) (cC c6:AV) (oC o6:Option Key) (E:List Bk),wV (aP X i os) l0 c k=some lk∧Exp n0 lk (AU (aP X i os) lk c k) br bm b4 b6 cC cS c6 oC o6 E h nx∧(∀b,kN br bm b6 oC o6 E b→M0 b∨nxA.toNat≤b.toNat)
 n:nxA.toNat≤nx.toNat
 g:∀b:Key,b.toNat<nxA.toNat→¬M0 b→ae b h=ae b hA
theorem RnI.ext{X:Kn}{i:Nat}{os:List Op}{c:Cf St}{n0:Key}{l0:List (Cf St)}{br bm b4 b6 lk d:Key}{cS:AV}{M0:Key→Prop}{ds:List Key}{L:ah}{hA:T ah}{nxA:Key}{k:Nat}{h h':T ah}{nx nx':Key}(I:RnI X i os c n0 l0 br bm b4 b6 lk d cS M0 ds L hA nxA k h nx)(e:Ext h nx h' nx'):RnI X i os c n0 l0 br bm b4 b6 lk d cS M0 ds L hA nxA k h' nx':=by
 have n:=e.n;have nI:=I.n;obtain⟨l,cC,c6,oC,o6,E,h1,h2,h3⟩:=I.a;refine⟨⟨l,cC,c6,oC,o6,E,h1,h2.cF n fun b hb=>e.g b ?_,h3⟩,by omega,fun b hb hm=>by rw[e.g b (by omega)];exact I.g b hb hm⟩;rcases hb with hb|rfl
 ·exact(h2.ct hb).1
 ·exact h2.lt.1
variable{C:bQ}{X:Kn}(S:Std C X)(H:OU C)
include S H
theorem apY{i:Nat}(hi:i<3){os:List Op}(tC:lY i os=0)(yv:∀o∈os,before o o=false)(ho:os.length≤16){cO:AV}(hcO:gI 10 eO cO os){n0:Key}{l0:List (Cf St)}(hl0:l0.length≤1024)(SV:l0.Nodup)(BL:∀y∈l0,iz i y.2){c:Cf St}(hc:c∈l0)(cD:c.1<2^os.length){br bm b4 b6 bj b2 b3 r2 r3:Key}{cC cS:AV}{oC:Option Key}{E:List Bk}{u2 u3:AV}{h:T ah}{nx:Key}(A:Exp n0 l0 [] br bm b4 b6 cC cS .nils oC none E h nx)(hn0:n0.toNat≤nx.toNat)
  (vj:ae bj h=some (.cells (jB X i cO (cX i) (jE os os.length)) .fix)) (v2:ae b2 h=some (.cells [.ptr bj 0] .fix)) (v3:ae b3 h=some (.cells (eC c) .fix)) (w2:ae r2 h=some (.cells [u2] .fix)) (w3:ae r3 h=some (.cells [u3] .fix)) (lt:bj.toNat<nx.toNat∧b2.toNat<nx.toNat∧b3.toNat<nx.toNat∧r2.toNat<nx.toNat∧r3.toNat<nx.toNat) (nm:∀b,(b=bj∨b=b2∨b=b3∨b=r2∨b=r3)→¬kN br bm b6 oC none E b) (r23:r2≠r3) (rge:n0.toNat≤r2.toNat∧n0.toNat≤r3.toNat)
  {Q:rp} {ds:List Key} (D:mN n0 ds h nx) {tm:T AV} (g35:ae (K 35) tm=some (.fn cJ [] [.ptr b2 0,.ptr b3 0])) (g2:ae (K 2) tm=some (.ptr r2 0)) (g3:ae (K 3) tm=some (.ptr r3 0)) (g4:ae (K 4) tm=some (.ptr b4 0)) (g6:ae (K 6) tm=some (.ptr b6 0))
  (apZ:∀d Cx h' nx',Cx=d ::ds→eN l0 (((aP X i os).steps c).map (·.2))=none→ae r2 h'=some (.cells [.nilp] .fix)→ae r3 h'=some (.cells [I 4] .fix)→mN n0 Cx h' nx'→(∀b:Key,b.toNat<n0.toNat→ae b h'=ae b h)→nx.toNat≤nx'.toNat→Q .ret Cx tm h' nx')
  (Vd:∀d Cx h' nx' l' cC' c6' Pq o6' E',Cx=d ::ds→eN l0 (((aP X i os).steps c).map (·.2))=some l'→Exp n0 l' (rowOf (aP X i os) l' c) br bm b4 b6 cC' cS c6' Pq o6' E' h' nx'→(∀b,kN br bm b6 Pq o6' E' b→kN br bm b6 oC none E b∨nx.toNat≤b.toNat)→mN n0 Cx h' nx'→(∀b:Key,b.toNat<nx.toNat→¬kN br bm b6 oC none E b→ae b h'=ae b h)→nx.toNat≤nx'.toNat→Q .norm Cx tm h' nx') :
  V C (.rangeF (.t (K 35)) [K 36,K 37] (.seq (.ops eb) (.ops ed)) (.block 3 (.seq (.staged cH ⟨[K 38,K 39,K 40,K 41,K 42,K 43,K 44,K 45],[]⟩) (.seq (.ops cp) (.cond (.t (K 51)) (.seq (.ops dg) .ret) .skip))))) Q ds tm h nx:=by
 have hd:c.1<65536:=OX cD (lC ho);have hs:=BL c hc;have s1:=kTSu nx;have s2:=kTSu nx.succ;refine V.rangeF (g:=cJ) (first:=[]) (cap:=[.ptr b2 0,.ptr b3 0]) g35 S.jJ.off ?_;intro fn res;have e1:=(E0 h nx (.dfs false)).trans (E0 _ nx.succ (.loop .ready none fn tm res [K 36,K 37] (.seq (.ops eb) (.ops ed)) (.block 3 (.seq (.staged cH ⟨[K 38,K 39,K 40,K 41,K 42,K 43,K 44,K 45],[]⟩) (.seq (.ops cp) (.cond (.t (K 51)) (.seq (.ops dg) .ret) .skip)))) nx));generalize hba:(aI.seq (.ops eb) (.ops ed))=ca at *;generalize aJX:(aI.block 3 (.seq (.staged cH ⟨[K 38,K 39,K 40,K 41,K 42,K 43,K 44,K 45],[]⟩) (.seq (.ops cp) (.cond (.t (K 51)) (.seq (.ops dg) .ret) .skip))))=body at *;have NV:nx∉ds:=fun hm=>by have:=D.lt nx hm;omega
 have gd:ae nx (rq fn tm res [K 36,K 37] ca body h nx)=some (.dfs false):=by unfold rq;rw[ax (by omega)];simp
 have gl:ae nx.succ (rq fn tm res [K 36,K 37] ca body h nx)=some (.loop .ready none fn tm res [K 36,K 37] ca body nx):=by unfold rq;simp
 have Cu:Ext h nx (rq fn tm res [K 36,K 37] ca body h nx) nx.succ.succ:=e1;generalize rq fn tm res [K 36,K 37] ca body h nx=hA at *;have A1:=A.cF (h':=hA) (nx':=nx.succ.succ) Cu.n (fun b hb=>Cu.g b (by
  rcases hb with hb|rfl
  ·exact(A.ct hb).1
  ·exact A.lt.1))
 have D1:mN n0 (nx ::ds) hA nx.succ.succ:=(D.ext Cu).cons NV gd hn0 (by omega);have hM:∀b,kN br bm b6 oC none E b→b.toNat<nx.toNat:=fun b hb=>(A.ct hb).1;refine akw S hi tC yv ho hcO hd hs (bj:=bj) (b2:=b2) (b3:=b3) (lk:=nx.succ) (c:=c) (s0:=cX i) (Inv:=fun k h' nx'=>RnI X i os c n0 l0 br bm b4 b6 nx.succ nx cS (kN br bm b6 oC none E) ds .tok hA nx.succ.succ k h' nx') ⟨?_,?_,?_,?_,?_⟩ ⟨⟨l0,cC,.nils,oC,none,E,abw _ _ _,A1,fun b hb=>.inl hb⟩,fg _,fun _ _ _=>rfl⟩
 ·rintro k h1 bS h2 aN I e;exact I.ext e
 ·rintro k h1 bS I;have n1:=I.n;refine⟨?_,?_,?_,by omega,by omega,by omega⟩
  ·rw[I.g bj (by omega) (nm bj (.inl rfl)),Cu.g bj lt.1];exact vj
  ·rw[I.g b2 (by omega) (nm b2 (.inr (.inl rfl))),Cu.g b2 lt.2.1];exact v2
  ·rw[I.g b3 (by omega) (nm b3 (.inr (.inr (.inl rfl)))),Cu.g b3 lt.2.2.1];exact v3
 ·rintro k h1 bS hk ei I;obtain⟨l,cC1,c61,oC1,o61,E1,CB,SU,Wd⟩:=I.a;refine⟨⟨l,cC1,c61,oC1,o61,E1,by rw[abx ei];exact CB,?_,Wd⟩,I.n,I.g⟩;have:AU (aP X i os) l c (k+1)=AU (aP X i os) l c k:=by unfold AU;rw[gQ,ei];simp
  rw[this];exact SU
 ·rintro k x h1 bS hk ei J0;obtain⟨l,cC1,c61,oC1,o61,E1,hgr,A2,Wh⟩:=J0.a;have n1:=J0.n;have t1:=kTSu bS;have hsp:=qZ hgr;have hll:l.length≤1024:=hsp.2.2.2.1 hl0;have hxs:∀z∈(aP X i os).steps c,iz i z.2.2:=OV S hi tC hs;have aJY:(k,x)∈(aP X i os).steps c:=by obtain⟨b,e⟩:=Vx (aP X i os) c hk ei;rw[e];simp
  have Qh:∀y∈l,y.2.kids.length≤3:=fun y hy=>by
   rcases hsp.2.2.2.2 y hy with h1|h1
   ·exact Ic (BL y h1)
   ·obtain⟨z,hz,rfl⟩:=We.1 h1;obtain⟨t,e⟩:=Is (aP X i os) c (Nat.le_of_lt hk);have e':(aP X i os).steps c=(aP X i os).dS c k++t:=e;exact Ic (hxs z (by rw[e'];exact List.mem_append_left _ hz))
  have hx3:=Ic (hxs (k,x) aJY);have aJZ:(AU (aP X i os) l c k).length≤1000:=by unfold AU Sys.dS;rw[List.length_map];have:=List.length_filterMap_le ((aP X i os).step c) (List.range k);rw[List.length_range]at this;have KG:k<os.length:=hk;omega
  have flk:ae nx.succ h1=some (.loop .ready none fn tm res [K 36,K 37] ca body nx):=by rw[J0.g nx.succ (by omega) (fun hm=>by have:=hM _ hm;omega)];exact gl
  have lkM:¬kN br bm b6 oC1 o61 E1 nx.succ:=fun hm=>by rcases (A2.ct hm).2 with⟨_,_,e⟩|e|⟨_,e⟩<;>rw[flk]at e<;>cases e
  suffices hs2:∀R1:Out→T ah→Key→Prop,(∀h' nx',RnI X i os c n0 l0 br bm b4 b6 nx.succ nx cS (kN br bm b6 oC none E) ds .tok hA nx.succ.succ (k+1) h' nx'→R1 (.ret (.bool true)) h' nx')→(∀h' nx',ajq Q nx nx.succ fn tm res [K 36,K 37] ca body ds (.ret (.tuple [])) h' nx'→R1 (.ret (.bool false)) h' nx')→C8 C nx.succ [I k,.agg (eC x)] h1 bS R1 from
   hs2 _ (fun _ _ h=>.inl ⟨rfl,h⟩) (fun _ _ h=>.inr ⟨rfl,h⟩)
  intro R1 hT hF;refine C8.intro (fun aJ h2 aN=>aN=bS.succ∧h2=aw bS (some (.cells (eC x) .fix)) h1∧ae (K 7) aJ=some (I k)∧ae (K 8) aJ=some (.ptr bS 0)∧ae (K 2) aJ=ae (K 2) tm∧ae (K 3) aJ=ae (K 3) tm∧ae (K 4) aJ=ae (K 4) tm∧ae (K 6) aJ=ae (K 6) tm) flk rfl ?_ ?_
  ·rw[←hba];simp[eb];simp[ed,CM,pr]
  ·rintro aJ h2 aN ⟨rfl,rfl,p7,p8,p2,p3,p4,p6⟩;rw[g2]at p2;rw[g3]at p3;rw[g4]at p4;rw[g6]at p6;have e2:=E0 h1 bS (.cells (eC x) .fix);have vx:ae bS (aw bS (some (.cells (eC x) .fix)) h1)=some (.cells (eC x) .fix):=by simp
   have aJ0:ae nx.succ (aw bS (some (.cells (eC x) .fix)) h1)=some (.loop .ready none fn tm res [K 36,K 37] ca body nx):=by rw[e2.g _ (by omega)];exact flk
   have kk2:∀b:Key,b.toNat<bS.toNat→ae b (aw bS (some (.cells (eC x) .fix)) h1)=ae b h1:=fun b hb=>e2.g b hb;generalize aw bS (some (.cells (eC x) .fix)) h1=h2 at *;refine⟨aJ0,?_⟩;have lk3:ae nx.succ (aw nx.succ (some (.loop .busy none fn tm res [K 36,K 37] ca body nx)) h2)=some (.loop .busy none fn tm res [K 36,K 37] ca body nx):=by simp
   have kk3:∀b:Key,b≠nx.succ→ae b (aw nx.succ (some (.loop .busy none fn tm res [K 36,K 37] ca body nx)) h2)=ae b h2:=fun b hb=>aU _ _ _ _ hb;generalize aw nx.succ (some (.loop .busy none fn tm res [K 36,K 37] ca body nx)) h2=h3 at *;have dj:∀b:Key,b.toNat<bS.toNat→b≠nx.succ→ae b h3=ae b h1:=fun b hb h1=>by rw[kk3 b h1,kk2 b hb]
   have A3:=A2.cF (h':=h3) (nx':=bS.succ) (by omega) (fun b hb=>by
    rcases hb with hb|rfl
    ·exact dj b (A2.ct hb).1 (fun e=>lkM (by rw[←e];exact hb))
    ·exact dj _ A2.lt.1 (fun e=>by have:=A.lt.1;rw[e]at this;omega))
   have notM:∀b,b.toNat<nx.succ.succ.toNat→¬kN br bm b6 oC none E b→¬kN br bm b6 oC1 o61 E1 b:=fun b hb hm h=>by
    rcases Wh b h with h1|h1
    ·exact hm h1
    ·omega
   have small:∀b:Key,b.toNat<nx.toNat→¬kN br bm b6 oC none E b→ae b h3=ae b h:=fun b hb hm=>by rw[dj b (by omega) (fun e=>by rw[e]at hb;omega),J0.g b (by omega) hm,Cu.g b hb]
   have nr2:=nm r2 (.inr (.inr (.inr (.inl rfl))));have nr3:=nm r3 (.inr (.inr (.inr (.inr rfl))));generalize hrq:Mm R1 nx.succ fn tm res [K 36,K 37] ca body nx=RQ;rw[←aJX];refine atf S H (by omega) Qh hx3 aJZ A3 (by omega) (b8:=bS) (r2:=r2) (r3:=r3) (u2:=u2) (u3:=u3) (by rw[kk3 bS (fun e=>by rw[e]at n1;omega)];exact vx) (by omega) (by rw[small r2 lt.2.2.2.1 nr2];exact w2) (by rw[small r3 lt.2.2.2.2 nr3];exact w3) (by omega) ⟨notM r2 (by omega) nr2,notM r3 (by omega) nr3,r23⟩ p2 p3 p4 p6 p7 p8 ?_ ?_
   ·intro ay h' nx' hov q2 q3 hn KG;rw[←hrq];have aCA:nx.succ≠r2:=fun e=>by have:=lt.2.2.2.1;rw[←e]at this;omega
    have aCB:nx.succ≠r3:=fun e=>by have:=lt.2.2.2.2;rw[←e]at this;omega
    have lk5:ae nx.succ h'=some (.loop .busy none fn tm res [K 36,K 37] ca body nx):=by rw[KG nx.succ (by omega) lkM aCA aCB];exact lk3
    have pF:eN l0 (((aP X i os).steps c).map (·.2))=none:=aby (k:=k+1) hk (by rw[QO ei hgr,if_pos hov]);simp;refine⟨⟨none,lk5⟩,hF _ _ ⟨_,rfl,.done,some .ret,by simp,by simp,?_⟩⟩;rw[set_set];refine apZ nx _ _ _ rfl pF (by rw[aU _ _ _ _ (Ne.symm aCA)];exact q2) (by rw[aU _ _ _ _ (Ne.symm aCB)];exact q3) (D1.cF (by omega) fun b hb hg=>?_) (fun b hb=>?_) (by omega)
    ·have QG:b≠nx.succ:=by rintro rfl;rw[gl]at hg;cases hg
     have hM0:¬kN br bm b6 oC none E b:=fun hm=>by rcases (A1.ct hm).2 with⟨_,_,e⟩|e|⟨_,e⟩<;>rw[hg]at e<;>cases e
     have QM:b≠r2:=by rintro rfl;rw[Cu.g _ lt.2.2.2.1,w2]at hg;cases hg
     have hr3:b≠r3:=by rintro rfl;rw[Cu.g _ lt.2.2.2.2,w3]at hg;cases hg
     rw[aU _ _ _ _ QG,KG b (by omega) (notM b hb hM0) QM hr3,dj b (by omega) QG,J0.g b hb hM0];exact hg
    ·have hM0:¬kN br bm b6 oC none E b:=fun hm=>by have:=A.ge' hm;omega
     rw[aU _ _ _ _ (fun e=>by rw[e]at hb;omega),KG b (by omega) (notM b (by omega) hM0) (fun e=>by have:=rge.1;rw[←e]at this;omega) (fun e=>by have:=rge.2;rw[←e]at this;omega)];exact small b (by omega) hM0
   ·intro ay h' nx' j cC' c6' Pq o6' E' hov hj A4 hn KG aJ1;rw[←hrq];have lk5:ae nx.succ h'=some (.loop .busy none fn tm res [K 36,K 37] ca body nx):=by rw[KG nx.succ (by omega) lkM];exact lk3
    have aJ2:wV (aP X i os) l0 c (k+1)=some (dW l x):=by rw[QO ei hgr,if_neg hov]
    have aJ3:(dW l x).Nodup:=TF (hsp.2.2.1 SV) x;have v7:(dW l x).idxOf x=j:=axZ aJ3 hj;have Pj:AU (aP X i os) (dW l x) c (k+1)=AU (aP X i os) l c k ++ [(k,j)]:=by have:=ae5 ei (l:=l) (ae4 hgr).2;rw[this];show _ ++ [(k,(dW l x).idxOf x)]=_;rw[v7]
    have aJ4:¬kN br bm b6 Pq o6' E' nx.succ:=fun hm=>by rcases (A4.ct hm).2 with⟨_,_,e⟩|e|⟨_,e⟩<;>rw[lk5]at e<;>cases e
    simp;refine⟨⟨none,lk5⟩,hT _ _ ⟨⟨dW l x,cC',c6',Pq,o6',E',aJ2,?_,?_⟩,by omega,fun b hb hm=>?_⟩⟩
    ·rw[Pj];refine A4.cF (fg _) fun b hb=>aU _ _ _ _ (fun e=>?_);rcases hb with hb|rfl
     ·exact aJ4 (by rw[←e];exact hb)
     ·have:=A.lt.1;rw[e]at this;omega
    ·intro b hb;rcases aJ1 b hb with h1|h1
     ·exact Wh b h1
     ·exact .inr (by omega)
    ·by_cases e:b=nx.succ
     ·subst e;simp;exact gl.symm
     ·rw[aU _ _ _ _ e,KG b (by omega) (notM b hb hm),dj b (by omega) e,J0.g b hb hm]
 ·rintro h1 bS J0;obtain⟨l,cC1,c61,oC1,o61,E1,hgr,A2,Wh⟩:=J0.a;have n1:=J0.n;have flk:ae nx.succ h1=some (.loop .ready none fn tm res [K 36,K 37] ca body nx):=by rw[J0.g nx.succ (by omega) (fun hm=>by have:=hM _ hm;omega)];exact gl
  have lkM:¬kN br bm b6 oC1 o61 E1 nx.succ:=fun hm=>by rcases (A2.ct hm).2 with⟨_,_,e⟩|e|⟨_,e⟩<;>rw[flk]at e<;>cases e
  refine⟨_,rfl,.ready,none,flk,by simp,?_⟩;refine Vd nx _ _ _ l cC1 c61 oC1 o61 E1 rfl hgr ?_ (fun b hb=>?_) (D1.cF (by omega) fun b hb hg=>?_) (fun b hb hm=>?_) (by omega)
  ·refine A2.cF (fg _) fun b hb=>aU _ _ _ _ (fun e=>?_);rcases hb with hb|rfl
   ·exact lkM (by rw[←e];exact hb)
   ·have:=A.lt.1;rw[e]at this;omega
  ·rcases Wh b hb with h1|h1
   ·exact .inl h1
   ·exact .inr (by omega)
  ·have QG:b≠nx.succ:=by rintro rfl;rw[gl]at hg;cases hg
   have hM0:¬kN br bm b6 oC none E b:=fun hm=>by rcases (A1.ct hm).2 with⟨_,_,e⟩|e|⟨_,e⟩<;>rw[hg]at e<;>cases e
   rw[aU _ _ _ _ QG,J0.g b hb hM0];exact hg
  ·rw[aU _ _ _ _ (fun e=>by rw[e]at hb;omega),J0.g b (by omega) hm,Cu.g b hb]
end Ln
namespace Ln
open Go.Sx Go
structure Srw(l:List (Cf St))(br bm b4:Key)(n0:Key)(cS:AV)(oC oS:Option Key)(E:List Bk)(cs:List AV)(h:T ah)(nx:Key):Prop where
 G:Gr 1 cS cs cs.length h nx oS
 r7:∀y∈cs,OC y∧y.aT=true
 ap:∀b,oS=some b→b≠br∧b≠bm∧b≠b4∧oC≠some b∧(∀e∈E,e.o≠some b)∧n0.toNat≤b.toNat
variable{C:bQ}{X:Kn}(S:Std C X)(H:OU C)
theorem ayz{n0:Key}{l:List (Cf St)}{st:List (Nat×Nat)}{br bm b4 b6:Key}{cC cS c6:AV}{oC o6 oS:Option Key}{E:List Bk}{cs:List AV}{h:T ah}{nx:Key}(UK:cs.length≤1100)(A:Exp n0 l st br bm b4 b6 cC cS c6 oC o6 E h nx)(B:Srw l br bm b4 n0 cS oC oS E cs h nx)(hn0:n0.toNat≤nx.toNat)(h6S:∀b,o6=some b→oS≠some b){Q:dh}{tm:T AV}(g4:ae (K 4) tm=some (.ptr b4 0))(g6:ae (K 6) tm=some (.ptr b6 0))
  (hQ:∀ay h' nx' cS' oS' c6',gI 2 eT c6' st→WU n0 l br bm cC cS' oC E h' nx'→Srw l br bm b4 n0 cS' oC oS' E (cs ++ [c6']) h' nx'→nx.toNat≤nx'.toNat→(∀b:Key,b.toNat<nx.toNat→b≠br→oS≠some b→o6≠some b→ae b h'=ae b h)→(∀b,oS'=some b→oS=some b∨nx.toNat≤b.toNat)→(∀k,(k=K 0∨k=K 2∨k=K 3∨k=K 4∨k=K 5)→ae k ay=ae k tm)→Q .norm ay h' nx') :
  gn C (.staged jd ⟨[K 52,K 53,K 54,K 55,K 56,K 57,K 58,K 59,K 60,K 61],[]⟩) Q tm h nx:=by
 have s1:=kTSu nx;have k6:=A.G6.cell;have kS:=B.G.cell;have e1:=E0 h nx (.cells [c6] .fix);have G6:=A.G6.ext e1;obtain⟨hi6,hf6⟩:=Gr.xN iE G6 9998;have Mz:bG (aM 9999) [c6] (aw nx (some (.cells [c6] .fix)) h)=([(aM 9999 c6 (aw nx (some (.cells [c6] .fix)) h)).1],(aM 9999 c6 (aw nx (some (.cells [c6] .fix)) h)).2):=by simp only[bG]
 generalize hc7:(aM 9999 c6 (aw nx (some (.cells [c6] .fix)) h)).1=c7 at *;generalize hh2:(aM 9999 c6 (aw nx (some (.cells [c6] .fix)) h)).2=h2 at *;have k7:=hi6.cell;have st7:OC c7:=hi6.r7;have k2:∀b:Key,b.toNat<nx.toNat→o6≠some b→ae b h2=ae b h:=fun b hb ho=>by rw[hf6 b ho];exact e1.g b hb
 have GS2:Gr 1 cS cs cs.length h2 nx.succ oS:=B.G.cF (by omega) fun b hb=>k2 b (B.G.lt b hb) (fun e=>h6S b e hb);obtain⟨c8,h3,bY,o8,ha,G8,F8⟩:=GS2.add (new:=[c7]) (m:=1) (by decide) (by decide) (by decide) (fun y hy=>(B.r7 y hy).1) rfl (by omega) (by simp[k7.1]);have n3:=F8.n;have k8:=G8.cell;have l4:=A.lt.1;have lr:=A.R.brn;have lm:=A.R.bmn;have k3:∀b:Key,b.toNat<nx.toNat→oS≠some b→o6≠some b→ae b h3=ae b h:=fun b hb h1 h2=>by rw[F8.g b (by omega) h1,k2 b hb h2]
 have v43:ae b4 h3=some (.cells [.ptr br 0] .fix):=by rw[k3 b4 l4 (fun e=>(B.ap b4 e).2.2.1 rfl) (fun e=>(A.o6 b4 e).2.2.1 rfl)];exact A.v4
 have br3:ae br h3=some (.cells [cC,cS,.map bm] .fix):=by rw[k3 br lr (fun e=>(B.ap br e).1 rfl) (fun e=>(A.o6 br e).1 rfl)];exact A.R.lW
 have pq:AV.beq (.ptr br 0) (.ptr br 0)=true:=beq_refl _ rfl;simp[-appendTo,jd,g4,g6,A.v4,A.v6,A.R.lW,k6.1,k6.2,Mz,ha,v43,br3,k8.1,k8.2];refine⟨pq,?_⟩;have o8n:∀b:Key,o8=some b→oS=some b∨nx.toNat≤b.toNat:=fun b hb=>by
  rcases F8.o with e|⟨y,e,hy⟩
  ·rw[e]at hb;exact .inl hb
  ·rw[e]at hb;cases hb;exact .inr (by omega)
 have o8b:∀b:Key,o8=some b→b≠br∧b≠bm∧b≠b4∧oC≠some b∧(∀e∈E,e.o≠some b)∧n0.toNat≤b.toNat:=fun b hb=>by
  rcases o8n b hb with h1|h1
  ·exact B.ap b h1
  ·exact⟨fun e=>by rw[e]at h1;omega,fun e=>by rw[e]at h1;omega,fun e=>by rw[e]at h1;omega,fun e=>by have:=A.R.olt (.inl e);omega,fun e he ho=>by have:=A.R.olt (.inr ⟨e,he,ho⟩);omega,by omega⟩
 have k4:∀b:Key,b.toNat<nx.toNat→b≠br→oS≠some b→o6≠some b→ae b (aw br (some (.cells [cC,c8,.map bm] .fix)) h3)=ae b h:=fun b hb h0 h1 h2=>by rw[aU _ _ _ _ h0,k3 b hb h1 h2]
 have ow:∀b,(oC=some b∨∃e∈E,e.o=some b)→ae b (aw br (some (.cells [cC,c8,.map bm] .fix)) h3)=ae b h:=fun b hb=>by
  refine k4 b (A.R.olt hb) (A.R.ow b hb).1 (fun e=>?_) (fun e=>(A.ap b hb).2.2 e);have h1:=B.ap b e;rcases hb with hb|⟨y,hy,hb⟩
  ·exact h1.2.2.2.1 hb
  ·exact h1.2.2.2.2.1 y hy hb
 refine hQ _ _ _ c8 o8 c7 hi6 ⟨by simp,?_,by omega,by omega,A.R.C.cF (by omega) fun b hb=>ow b (.inl hb),fun e he=>(A.R.B e he).cF (by omega) fun b hb=>ow b (.inr ⟨e,he,hb⟩),A.R.nd,A.R.cov,A.R.aj3,A.R.sep,A.R.ow,k8,A.R.bb⟩ ⟨?_,?_,o8b⟩ (by omega) k4 o8n ?_
 ·rw[k4 bm lm (Ne.symm A.R.bb.1) (fun e=>(B.ap bm e).2.1 rfl) (fun e=>(A.o6 bm e).2.1 rfl)];exact A.R.map
 ·have:=G8.cF (h':=aw br (some (.cells [cC,c8,.map bm] .fix)) h3) (fg _) fun b hb=>aU _ _ _ _ (o8b b hb).1;simpa using this
 ·intro y hy;rcases List.mem_append.1 hy with hy|hy
  ·exact B.r7 y hy
  ·simp at hy;subst hy;exact⟨st7,k7.1⟩
 ·rintro k (rfl|rfl|rfl|rfl|rfl)<;>simp
end Ln
namespace Ln
open Go.Sx Go
def AtH(bj b4 r2 r3 b:Key):Prop:=b=bj∨b=b4∨b=r2∨b=r3
structure ExA(X:Kn)(mi:Nat)(os:List Op)(cO:AV)(c0:Cf St)(bj b4 r2 r3 br bm n0:Key)(h0:T ah)(i:Nat)(l:List (Cf St))(cC cS:AV)(oC oS:Option Key)(E:List Bk)(cs:List AV)(ds:List Key)(tm:T AV)(h:T ah)(nx:Key):Prop where
 g0:ae (K 0) tm=some (.ptr bj 0)
 g2:ae (K 2) tm=some (.ptr r2 0)
 g3:ae (K 3) tm=some (.ptr r3 0)
 g4:ae (K 4) tm=some (.ptr b4 0)
 g5:ae (K 5) tm=some (I (i:Int))
 R:WU n0 l br bm cC cS oC E h nx
 B:Srw l br bm b4 n0 cS oC oS E cs h nx
 csl:cs.length=i
 row:∀q (hq:q<cs.length),∃c,l[q]?=some c∧gI 2 eT cs[q] (rowOf (aP X mi os) l c)
 v4:ae b4 h=some (.cells [.ptr br 0] .fix)
 vj:ae bj h=some (.cells (jB X mi cO (cX mi) (jE os os.length)) .fix)
 w2:∃u,ae r2 h=some (.cells [u] .fix)
 w3:∃u,ae r3 h=some (.cells [u] .fix)
 lt:bj.toNat<nx.toNat∧b4.toNat<nx.toNat∧r2.toNat<nx.toNat∧r3.toNat<nx.toNat
 sep:∀b,AtH bj b4 r2 r3 b→b≠br∧b≠bm∧oC≠some b∧(∀e∈E,e.o≠some b)∧oS≠some b
 r23:r2≠r3
 ge:n0.toNat≤b4.toNat∧n0.toNat≤r2.toNat∧n0.toNat≤r3.toNat
 kp:Kept (aP X mi os) i l
 fst:l[0]?=some c0
 bf:S8 (aP X mi os) (1025-i) i l=S8 (aP X mi os) 1025 0 [c0]
 ok:∀x∈l,iz mi x.2
 il:i≤l.length
 d:mN n0 ds h nx
 e:Ext h0 n0 h nx
def ExI(X:Kn)(mi:Nat)(os:List Op)(cO:AV)(c0:Cf St)(bj b4 r2 r3 br bm n0:Key)(h0:T ah)(m:Nat)(ds:List Key)(tm:T AV)(h:T ah)(nx:Key):Prop:=∃(i:Nat) (l:List (Cf St)) (cC cS:AV) (oC oS:Option Key) (E:List Bk) (cs:List AV),m=1024-i∧ExA X mi os cO c0 bj b4 r2 r3 br bm n0 h0 i l cC cS oC oS E cs ds tm h nx
variable{C:bQ}{X:Kn}(S:Std C X)(H:OU C)
include S H
theorem atd{mi:Nat}(hi:mi<3){os:List Op}(tC:lY mi os=0)(yv:∀o∈os,before o o=false)(ho:os.length≤16){cO:AV}(hcO:gI 10 eO cO os){c0:Cf St}{bj b4 r2 r3 br bm n0:Key}{h0:T ah}{Q:rp}{m:Nat}{ds:List Key}{tm:T AV}{h1:T ah}{bS:Key}(A:ExI X mi os cO c0 bj b4 r2 r3 br bm n0 h0 m ds tm h1 bS)
  (HE:∀ds ay h' nx',ae (K 2) ay=some (.ptr r2 0)→ae (K 3) ay=some (.ptr r3 0)→ae r2 h'=some (.cells [.nilp] .fix)→ae r3 h'=some (.cells [I 4] .fix)→S8 (aP X mi os) 1025 0 [c0]=none→mN n0 ds h' nx'→Ext h0 n0 h' nx'→Q .ret ds ay h' nx')
  (fy:∀ds ay h' nx' l cC cS oC oS E cs,ExA X mi os cO c0 bj b4 r2 r3 br bm n0 h0 l.length l cC cS oC oS E cs ds ay h' nx'→S8 (aP X mi os) 1025 0 [c0]=some l→Q .norm ds ay h' nx') :
  V C (.loop jN) (xg 0 Q) ds tm h1 bS:=by
 have rS:C.raw fT=false:=S.nr (by decide);have hSo:=JB X mi os;refine V.dy (ExI X mi os cO c0 bj b4 r2 r3 br bm n0 h0) A ?_;rintro m ds ef h nx ⟨i,l,cC,cS,oC,oS,E,cs,rfl,A⟩;have hR:=A.R.C.rd;have hl:=A.kp.len;have nE:=A.e.n;have s1:=kTSu nx;refine vD ?_;simp[jN];by_cases Jx:i<l.length
 ·have hii:(i:Int)<l.length:=by omega
  have hci:l[i]?=some l[i]:=yT Jx;have Kb:=OA Jx;simp[↓hR.ln,jM,A.g4,A.g5,A.v4,A.R.lW,hii];simp[qt];have e1:=E0 h nx (.cells [.nils] .fix);have v6:ae nx (aw nx (some (.cells [.nils] .fix)) h)=some (.cells [.nils] .fix):=by simp
  generalize aw nx (some (.cells [.nils] .fix)) h=h2 at *;have R2:=A.R.ext e1;have hR2:=R2.C.rd;have v42:ae b4 h2=some (.cells [.ptr br 0] .fix):=by rw[e1.g b4 A.lt.2.1];exact A.v4
  simp[↓hR2.ix eJ Jx,qu,A.g0,A.g4,A.g5,v42,R2.lW,rS,CN];refine(akv S).mono ?_;rintro o h3 bY ⟨rfl,b23,b33,rfl,e3⟩;have s3:=kTSu nx.succ;have s4:=kTSu nx.succ.succ;have Vt:=e1.trans e3;have dj:∀b:Key,b.toNat<nx.toNat→ae b h3=ae b h:=fun b hb=>Vt.g b hb;have R3:=A.R.ext Vt;have v63:ae nx h3=some (.cells [.nils] .fix):=by rw[e3.g nx (by omega)];exact v6
  obtain⟨u2,w2⟩:=A.w2;obtain⟨u3,w3⟩:=A.w3;have hnx:∀b:Key,b.toNat<nx.toNat→b≠nx:=fun b hb e=>by rw[e]at hb;omega
  have l4:=A.lt.2.1;have s4':=A.sep b4 (.inr (.inl rfl));have EX:Exp n0 l [] br bm b4 nx cC cS .nils oC none E h3 nx.succ.succ.succ:=by
   refine⟨R3,by rw[dj b4 l4];exact A.v4,v63,Gr.nil _ _ _,by omega,⟨s4'.1,s4'.2.1,hnx b4 l4,fun e=>hnx br A.R.brn e.symm,fun e=>hnx bm A.R.bmn e.symm⟩,?_,by simp,by have:=A.ge;omega⟩;intro b hb;have EJ:=A.R.olt hb;refine⟨fun e=>?_,hnx b EJ,by simp⟩;subst e;rcases hb with hb|⟨y,hy,hb⟩
   ·exact s4'.2.2.1 hb
   ·exact s4'.2.2.2.1 y hy hb
  have notM:∀b:Key,b.toNat<nx.toNat→b≠br→b≠bm→oC≠some b→(∀e∈E,e.o≠some b)→¬kN br bm nx oC none E b:=fun b hb h1 h2 h3 h4 hm=>by
   rcases hm with hm|hm|hm|hm|⟨y,hy,hm⟩|hm
   ·exact h1 hm
   ·exact h2 hm
   ·exact hnx b hb hm
   ·exact h3 hm
   ·exact h4 y hy hm
   ·cases hm
  have ltA:=A.lt;have aqv:∀b,AtH bj b4 r2 r3 b→b.toNat<nx.toNat→¬kN br bm nx oC none E b:=fun b hb hn=>by have h1:=A.sep b hb;exact notM b hn h1.1 h1.2.1 h1.2.2.1 h1.2.2.2.1
  have aDj:∀b:Key,nx.toNat<b.toNat→¬kN br bm nx oC none E b:=fun b hb hm=>by
   rcases hm with hm|hm|hm|hm|⟨y,hy,hm⟩|hm
   ·have:=A.R.brn;rw[hm]at hb;omega
   ·have:=A.R.bmn;rw[hm]at hb;omega
   ·rw[hm]at hb;omega
   ·have:=A.R.olt (.inl hm);omega
   ·have:=A.R.olt (.inr ⟨y,hy,hm⟩);omega
   ·cases hm
  have hgm:∀b,(b=bj∨b=nx.succ∨b=nx.succ.succ∨b=r2∨b=r3)→¬kN br bm nx oC none E b:=fun b hb=>by
   rcases hb with rfl|rfl|rfl|rfl|rfl
   ·exact aqv _ (.inl rfl) ltA.1
   ·exact aDj _ (by omega)
   ·exact aDj _ (by omega)
   ·exact aqv _ (.inr (.inr (.inl rfl))) ltA.2.2.1
   ·exact aqv _ (.inr (.inr (.inr rfl))) ltA.2.2.2
  have qx:=A.bf;rw[show 1025-i=(1024-i)+1 by omega,abi hci]at qx;have D3:=A.d.ext Vt;simp;refine apY S H hi tC yv ho hcO hl A.kp.nodup A.ok Kb (A.kp.lt _ Kb) (b2:=nx.succ) (b3:=nx.succ.succ) (r2:=r2) (r3:=r3) (bj:=bj) EX (by omega) (by rw[dj bj ltA.1];exact A.vj) b23 b33 (by rw[dj r2 ltA.2.2.1];exact w2) (by rw[dj r3 ltA.2.2.2];exact w3) (by omega) hgm A.r23 A.ge.2 D3 ?_ ?_ ?_ ?_ ?_ ?_ ?_
  ·simp
  ·simp[A.g2]
  ·simp[A.g3]
  ·simp[A.g4]
  ·simp
  ·intro d Cx h' nx' hds pF q2 q3 D' fr hn;rw[pF]at qx;simp;exact HE _ _ _ _ (by simp[A.g2]) (by simp[A.g3]) q2 q3 qx.symm D' ⟨by omega,fun b hb=>by rw[fr b hb,dj b (by omega)];exact A.e.g b hb⟩
  ·intro d Cx h' nx' l' cC' c6' Pq o6' E' hds pF A' Wh D' fr hn;rw[pF]at qx;have aK7:S8 (aP X mi os) (1024-i) (i+1) l'=S8 (aP X mi os) 1025 0 [c0]:=qx;have hsp:=qZ pF;obtain⟨t,et⟩:=hsp.1;have oSn:∀b:Key,oS=some b→b.toNat<nx.toNat:=fun b hb=>A.B.G.lt b hb;have oSM:∀b:Key,oS=some b→¬kN br bm nx oC none E b:=fun b hb=>by have h1:=A.B.ap b hb;exact notM b (oSn b hb) h1.1 h1.2.1 h1.2.2.2.1 h1.2.2.2.2.1
   have ayy:∀b:Key,oS=some b→¬kN br bm nx Pq o6' E' b:=fun b hb hm=>by
    rcases Wh b hm with h1|h1
    ·exact oSM b hb h1
    ·have:=oSn b hb;omega
   have OB:∀b:Key,b.toNat<nx.toNat→¬kN br bm nx oC none E b→ae b h'=ae b h:=fun b hb hm=>by rw[fr b (by omega) hm,dj b hb]
   have B':Srw l' br bm b4 n0 cS Pq oS E' cs h' nx':=by refine⟨A.B.G.cF (by omega) fun b hb=>OB b (oSn b hb) (oSM b hb),A.B.r7,fun b hb=>?_⟩;have h1:=A.B.ap b hb;exact⟨h1.1,h1.2.1,h1.2.2.1,fun e=>ayy b hb (.inr (.inr (.inr (.inl e)))),fun e he ho=>ayy b hb (.inr (.inr (.inr (.inr (.inl ⟨e,he,ho⟩))))),h1.2.2.2.2.2⟩
   have anj:=A.csl;simp;refine ayz (C:=C) (by omega) A' B' (by omega) (fun b hb e=>ayy b e (.inr (.inr (.inr (.inr (.inr hb)))))) (by simp[A.g4]) (by simp) (fun aJ h5 r9 cS2 oS2 c62 Pj R5 B5 hn5 k5 hoS hk=>?_);have p0:=hk (K 0) (.inl rfl);have p2:=hk (K 2) (.inr (.inl rfl));have p3:=hk (K 3) (.inr (.inr (.inl rfl)));have p4:=hk (K 4) (.inr (.inr (.inr (.inl rfl))));have p5:=hk (K 5) (.inr (.inr (.inr (.inr rfl))));simp[A.g0]at p0;simp[A.g2]at p2;simp[A.g3]at p3;simp[A.g4]at p4;simp[A.g5]at p5;have aDk:∀b:Key,AtH bj b4 r2 r3 b→b.toNat<nx.toNat→¬kN br bm nx Pq o6' E' b:=fun b hb hn' hm=>by
    rcases Wh b hm with h1|h1
    ·exact aqv b hb hn' h1
    ·omega
   have at5:∀b:Key,AtH bj b4 r2 r3 b→b.toNat<nx.toNat→ae b h5=ae b h:=fun b hb hn'=>by have hm:=aDk b hb hn';have h1:=A.sep b hb;rw[k5 b (by omega) h1.1 h1.2.2.2.2 (fun e=>hm (.inr (.inr (.inr (.inr (.inr e)))))),OB b hn' (aqv b hb hn')]
   simp;simp[pA,p5];rw[aB (by omega) (by omega)];have aK9:i+1≤l'.length:=by rw[et,Ko];omega
   refine⟨1024-(i+1),by omega,i+1,l',cC',cS2,Pq,oS2,E',cs ++ [c62],rfl,?_⟩;refine⟨by simp[p0],by simp[p2],by simp[p3],by simp[p4],by simp,R5,B5,by simp[anj],?_,by rw[at5 b4 (.inr (.inl rfl)) ltA.2.1];exact A.v4,by rw[at5 bj (.inl rfl) ltA.1];exact A.vj,⟨u2,by rw[at5 r2 (.inr (.inr (.inl rfl))) ltA.2.2.1];exact w2⟩,⟨u3,by rw[at5 r3 (.inr (.inr (.inr rfl))) ltA.2.2.2];exact w3⟩,by omega,?_,A.r23,A.ge,A.kp.next hSo hci pF,by rw[et,List.getElem?_append_left (by omega)];exact A.fst,?_,?_,aK9,?_,?_⟩
   ·intro q hq;by_cases hqc:q<cs.length
    ·obtain⟨c,h1,h2⟩:=A.row q hqc;have Pm:∀x∈(aP X mi os).steps c,x.2∈l:=A.kp.done q c (by omega) h1;refine⟨c,by rw[et,List.getElem?_append_left (by omega)];exact h1,?_⟩;rw[List.getElem_append_left hqc,et,alz Pm];exact h2
    ·have hqe:q=cs.length:=by simp at hq;omega
     subst hqe;refine⟨l[i],by rw[et,anj,List.getElem?_append_left Jx];exact hci,?_⟩;rw[List.getElem_append_right (fg _)];simpa using Pj
   ·intro b hb;have EJ:b.toNat<nx.toNat:=by rcases hb with rfl|rfl|rfl|rfl<;>omega
    have h1:=A.sep b hb;have hm:=aDk b hb EJ;refine⟨h1.1,h1.2.1,fun e=>hm (.inr (.inr (.inr (.inl e)))),fun e he ho=>hm (.inr (.inr (.inr (.inr (.inl ⟨e,he,ho⟩))))),fun e=>?_⟩;rcases hoS b e with h2|h2
    ·exact h1.2.2.2.2 h2
    ·omega
   ·rw[show 1025-(i+1)=1024-i by omega];exact aK7
   ·intro y hy;rcases hsp.2.2.2.2 y hy with h1|h1
    ·exact A.ok y h1
    ·obtain⟨z,hz,rfl⟩:=We.1 h1;exact OV S hi tC (A.ok _ Kb) z hz
   ·refine D'.cF (by omega) fun b hb hg=>?_;rw[k5 b hb (by rintro rfl;rw[A'.R.lW]at hg;cases hg) (fun e=>by rcases B'.G.ct e with⟨_,_,h1⟩|h1<;>rw[hg]at h1<;>cases h1) (fun e=>by rcases A'.G6.ct e with⟨_,_,h1⟩|h1<;>rw[hg]at h1<;>cases h1)];exact hg
   ·refine⟨by omega,fun b hb=>?_⟩;have hbM:¬kN br bm nx oC none E b:=fun hm=>by have:=EX.ge' hm;omega
    rw[k5 b (by omega) (fun e=>by have:=A.R.bb.2.1;rw[←e]at this;omega) (fun e=>by have:=(A.B.ap b e).2.2.2.2.2;omega) (fun e=>by have:=(A'.o6 b e).2.2.2.2;omega),OB b (by omega) hbM];exact A.e.g b hb
 ·have LJ:i=l.length:=by have:=A.il;omega
  subst LJ;have qx:=A.bf;rw[ah3 (by omega)]at qx;simp[↓hR.ln,jM,A.g4,A.g5,A.v4,A.R.lW];refine fy _ _ _ _ l cC cS oC oS E cs {A with g0:=?_,g2:=?_,g3:=?_,g4:=?_,g5:=?_} qx.symm
  ·simp[A.g0]
  ·simp[A.g2]
  ·simp[A.g3]
  ·simp[A.g4]
  ·simp[A.g5]
end Ln
namespace Ln
open Go.Sx Go
structure ExG(X:Kn)(mi:Nat)(os:List Op)(n0:Key)(l:List (Cf St))(br:Key)(cC cS:AV)(cs:List AV)(h:T ah)(nx:Key):Prop where
 R:∃bm oC E,WU n0 l br bm cC cS oC E h nx
 B:∃oS,Gr 1 cS cs cs.length h nx oS
 r7:∀y∈cs,OC y∧y.aT=true
 csl:cs.length=l.length
 row:∀q (hq:q<cs.length),∃c,l[q]?=some c∧gI 2 eT cs[q] (rowOf (aP X mi os) l c)
def ExR(X:Kn)(mi:Nat)(os:List Op)(c0:Cf St)(h:T ah)(nx:Key)(o:Out)(h':T ah)(nx':Key):Prop:=Ext h nx h' nx'∧
 ((S8 (aP X mi os) 1025 0 [c0]=none∧o=.ret (.tuple [.nilp,I 4]))∨
  ∃l br cC cS cs,S8 (aP X mi os) 1025 0 [c0]=some l∧o=.ret (.tuple [.ptr br 0,I 0])∧Kept (aP X mi os) l.length l∧l[0]?=some c0∧(∀x∈l,iz mi x.2)∧ExG X mi os nx l br cC cS cs h' nx')
theorem apU{r2 r3 n0:Key}{v2 v3:AV}{ds:List Key}{tm:T AV}{h:T ah}{nx':Key}{R:Out→T ah→Key→Prop}(g2:ae (K 2) tm=some (.ptr r2 0))(g3:ae (K 3) tm=some (.ptr r3 0))(w2:ae r2 h=some (.cells [v2] .fix))(w3:ae r3 h=some (.cells [v3] .fix))(z2:∀H,aM 9999 v2 H=(v2,H))(z3:∀H,aM 9999 v3 H=(v3,H))(D:mN n0 ds h nx')(hR:∀h2:T ah,(∀b,b∉ds→ae b h2=ae b h)→R (.ret (.tuple [v2,v3])) h2 nx') :
  apV [.cell (K 2) false 1,.cell (K 3) false 1] R .ret ds tm h nx':=by
 refine⟨D.nodup,D.get,fun h2 h3=>?_⟩;have n2:r2∉ds:=fun hm=>by have:=D.get r2 hm;rw[w2]at this;cases this
 have n3:r3∉ds:=fun hm=>by have:=D.get r3 hm;rw[w3]at this;cases this
 have b2:ae r2 h2=some (.cells [v2] .fix):=by rw[h3 r2 n2];exact w2
 have b3:ae r3 h2=some (.cells [v3] .fix):=by rw[h3 r3 n3];exact w3
 have hz:bG (aM 9999) [v2,v3] h2=([v2,v3],h2):=by simp only[bG,z2,z3]
 refine⟨[v2,v3],by simp[g2,g3,b2,b3],?_⟩;rw[hz];exact hR h2 h3
theorem aCu{n0:Key}{ds:List Key}{h:T ah}{nx b:Key}(D:mN n0 ds h nx)(hb:(∃l k,ae b h=some (.cells l k))∨ae b h=some .tok∨∃l,ae b h=some (.map l)):b∉ds:=fun hm=>by have:=D.get b hm;rcases hb with⟨_,_,e⟩|e|⟨_,e⟩<;>rw[this]at e<;>cases e
variable{C:bQ}{X:Kn}(S:Std C X)(H:OU C)
include S H
theorem afd{mi:Nat}(hi:mi<3){os:List Op}(tC:lY mi os=0)(yv:∀o∈os,before o o=false)(ho:os.length≤16){cO:AV}(hcO:gI 10 eO cO os){h:T ah}{nx bj:Key}(vj:ae bj h=some (.cells (jB X mi cO (cX mi) (jE os os.length)) .fix))(bjn:bj.toNat<nx.toNat) :
  aG C eW [.ptr bj 0] h nx (ExR X mi os (0,cX mi) h nx):=by
 have rA:C.raw dG=false:=S.nr (by decide);have s1:=kTSu nx;have s2:=kTSu nx.succ;have s3:=kTSu nx.succ.succ;have s4:=kTSu nx.succ.succ.succ;have s5:=kTSu nx.succ.succ.succ.succ;refine S.ru.callV ?_;simp[l7];simp[qn];simp[qp]
 try simp only[show (AV.int IntKind.i64 (SI.lit 0))=I 0 from rfl]
 obtain⟨br,hbr⟩:∃br,br=nx.succ.succ.succ:=⟨_,rfl⟩;obtain⟨b4,hb4⟩:∃b4,b4=nx.succ.succ.succ.succ:=⟨_,rfl⟩;obtain⟨bm,hbm⟩:∃bm,bm=nx.succ.succ:=⟨_,rfl⟩;obtain⟨r3,hr3⟩:∃r3,r3=nx.succ:=⟨_,rfl⟩;have e1:=((((E0 h nx (.cells [.nilp] .fix)).trans (E0 _ nx.succ (.cells [I 0] .fix))).trans (E0 _ nx.succ.succ (.map []))).trans (E0 _ nx.succ.succ.succ (.cells [.nils,.nils,.map nx.succ.succ] .fix))).trans (E0 _ nx.succ.succ.succ.succ (.cells [.ptr nx.succ.succ.succ 0] .fix));have q4:ae b4 (aw nx.succ.succ.succ.succ (some (.cells [.ptr nx.succ.succ.succ 0] .fix)) (aw nx.succ.succ.succ (some (.cells [.nils,.nils,.map nx.succ.succ] .fix)) (aw nx.succ.succ (some (.map [])) (aw nx.succ (some (.cells [I 0] .fix)) (aw nx (some (.cells [.nilp] .fix)) h)))))=some (.cells [.ptr br 0] .fix):=by rw[hb4,hbr];simp
 have qr:ae br (aw nx.succ.succ.succ.succ (some (.cells [.ptr nx.succ.succ.succ 0] .fix)) (aw nx.succ.succ.succ (some (.cells [.nils,.nils,.map nx.succ.succ] .fix)) (aw nx.succ.succ (some (.map [])) (aw nx.succ (some (.cells [I 0] .fix)) (aw nx (some (.cells [.nilp] .fix)) h)))))=some (.cells [.nils,.nils,.map bm] .fix):=by rw[hbr,hbm,ax (by omega)];simp
 have qm:ae bm (aw nx.succ.succ.succ.succ (some (.cells [.ptr nx.succ.succ.succ 0] .fix)) (aw nx.succ.succ.succ (some (.cells [.nils,.nils,.map nx.succ.succ] .fix)) (aw nx.succ.succ (some (.map [])) (aw nx.succ (some (.cells [I 0] .fix)) (aw nx (some (.cells [.nilp] .fix)) h)))))=some (.map []):=by rw[hbm,ax (by omega),ax (by omega)];simp
 have q3:ae r3 (aw nx.succ.succ.succ.succ (some (.cells [.ptr nx.succ.succ.succ 0] .fix)) (aw nx.succ.succ.succ (some (.cells [.nils,.nils,.map nx.succ.succ] .fix)) (aw nx.succ.succ (some (.map [])) (aw nx.succ (some (.cells [I 0] .fix)) (aw nx (some (.cells [.nilp] .fix)) h)))))=some (.cells [I 0] .fix):=by rw[hr3,ax (by omega),ax (by omega),ax (by omega)];simp
 have q2:ae nx (aw nx.succ.succ.succ.succ (some (.cells [.ptr nx.succ.succ.succ 0] .fix)) (aw nx.succ.succ.succ (some (.cells [.nils,.nils,.map nx.succ.succ] .fix)) (aw nx.succ.succ (some (.map [])) (aw nx.succ (some (.cells [I 0] .fix)) (aw nx (some (.cells [.nilp] .fix)) h)))))=some (.cells [.nilp] .fix):=by rw[ax (by omega),ax (by omega),ax (by omega),ax (by omega)];simp
 have n4:b4.toNat=nx.toNat+4:=by rw[hb4];omega
 have nr:br.toNat=nx.toNat+3:=by rw[hbr];omega
 have nm:bm.toNat=nx.toNat+2:=by rw[hbm];omega
 have n3:r3.toNat=nx.toNat+1:=by rw[hr3];omega
 rw[←hb4,←hr3]at *;generalize aw b4 _ _=h1 at *;have s6:=kTSu b4;have vj1:ae bj h1=some (.cells (jB X mi cO (cX mi) (jE os os.length)) .fix):=by rw[e1.g bj bjn];exact vj
 have hj5:List.take 5 (List.drop 5 (jB X mi cO (cX mi) (jE os os.length)))=eC (0,cX mi):=rfl;have bW:(jB X mi cO (cX mi) (jE os os.length)).length=11:=rfl;have aJU:(cX mi).kids.length≤3:=Ic (ZC hi);have R1:WU nx [] br bm .nils .nils none [] h1 b4.succ:=by refine⟨qr,qm,by omega,by omega,Gr.nil _ _ _,by simp,by simp,by simp,by simp,by simp,by simp,⟨rfl,rfl⟩,⟨fun e=>by rw[e]at nr;omega,by omega,by omega⟩⟩
 simp[qq,q4,vj1,hj5,bW,rA,CN];refine(am2 S H (l:=[]) (by simp) (by simp) (x:=(0,cX mi)) aJU (by omega) R1).mono ?_;rintro o h2 aN ⟨⟨j,cC,oC,E,hj,rfl,R2,Wh⟩,n2,k2⟩;have pF:dW ([]:List (Cf St)) (0,cX mi)=[(0,cX mi)]:=rfl;rw[pF]at R2;simp;simp[qs];have k2':∀b:Key,b.toNat<b4.succ.toNat→b≠br→b≠bm→ae b h2=ae b h1:=fun b hb h1 h2=>k2 b hb h1 h2 (by simp) (by simp);have own:∀b,(oC=some b∨∃e∈E,e.o=some b)→b4.succ.toNat≤b.toNat:=fun b hb=>by
  rcases Wh b hb with(h1|⟨e,he,_⟩)|h1
  ·cases h1
  ·simp at he
  ·exact h1
 have ne:∀b:Key,b.toNat≠nx.toNat+3→b.toNat≠nx.toNat+2→b≠br∧b≠bm:=fun b h1 h2=>⟨fun e=>h1 (by rw[e];exact nr),fun e=>h2 (by rw[e];exact nm)⟩;have A0:ExA X mi os cO (0,cX mi) bj b4 nx r3 br bm nx h 0 [(0,cX mi)] cC .nils oC none E [] [] (aw (K 5) (some (I 0)) (aw (K 17) (some (I j)) (aw (K 4) (some (.ptr b4 0)) (aw (K 3) (some (.ptr r3 0)) (aw (K 2) (some (.ptr nx 0)) (aw (K 0) (some (.ptr bj 0)) .nil)))))) h2 aN:=by
  refine⟨by simp,by simp,by simp,by simp,by simp,R2,⟨Gr.nil _ _ _,by simp,by simp⟩,rfl,by simp,?_,?_,⟨.nilp,?_⟩,⟨I 0,?_⟩,by omega,?_,fun e=>by rw[←e]at n3;omega,by omega,Kept.start (by omega),rfl,rfl,?_,by simp,mN.nil _ _ _,?_⟩
  ·have h1:=ne b4 (by omega) (by omega);rw[k2' b4 (by omega) h1.1 h1.2];exact q4
  ·have h1:=ne bj (by omega) (by omega);rw[k2' bj (by omega) h1.1 h1.2];exact vj1
  ·have h1:=ne nx (by omega) (by omega);rw[k2' nx (by omega) h1.1 h1.2];exact q2
  ·have h1:=ne r3 (by omega) (by omega);rw[k2' r3 (by omega) h1.1 h1.2];exact q3
  ·intro b hb;have EJ:b.toNat<b4.succ.toNat∧b.toNat≠nx.toNat+3∧b.toNat≠nx.toNat+2:=by rcases hb with rfl|rfl|rfl|rfl<;>omega
   have h1:=ne b EJ.2.1 EJ.2.2;refine⟨h1.1,h1.2,fun e=>by have:=own b (.inl e);omega,fun e he ho=>by have:=own b (.inr ⟨e,he,ho⟩);omega,by simp⟩
  ·intro y hy;simp at hy;subst hy;exact ZC hi
  ·refine⟨by omega,fun b hb=>?_⟩;have h1:=ne b (by omega) (by omega);rw[k2' b (by omega) h1.1 h1.2];exact e1.g b hb
 refine atd S H hi tC yv ho hcO (c0:=(0,cX mi)) (bj:=bj) (b4:=b4) (r2:=nx) (r3:=r3) (br:=br) (bm:=bm) (n0:=nx) (h0:=h) (m:=1024) ⟨0,[(0,cX mi)],cC,.nils,oC,none,E,[],rfl,{A0 with g0:=?_,g2:=?_,g3:=?_,g4:=?_,g5:=?_}⟩ ?_ ?_
 ·simp
 ·simp
 ·simp
 ·simp
 ·simp
 ·intro ds ay h' nx' g2 g3 w2 w3 hb D e;refine apU g2 g3 w2 w3 (fun _=>rfl) (fun _=>rfl) D fun h2 h3=>?_;refine⟨⟨e.n,fun b EJ=>?_⟩,.inl ⟨hb,rfl⟩⟩;rw[h3 b (fun hm=>by have:=D.ge b hm;omega)];exact e.g b EJ
 ·intro ds ay h' nx' l cC cS oC oS E cs A hb;obtain⟨u2,w2⟩:=A.w2;obtain⟨u3,w3⟩:=A.w3;have r23:=A.r23;have w33:∀B,ae r3 (aw nx B h')=some (.cells [u3] .fix):=fun B=>by rw[aU _ _ _ _ (Ne.symm r23)];exact w3
  simp;simp[pz,A.g2,A.g3,A.g4,A.v4,w2,w33];have k5:∀b:Key,b≠nx→b≠r3→ae b (aw r3 (some (.cells [I 0] .fix)) (aw nx (some (.cells [.ptr br 0] .fix)) h'))=ae b h':=fun b h1 h2=>by rw[aU _ _ _ _ h2,aU _ _ _ _ h1]
  have z2:ae nx (aw r3 (some (.cells [I 0] .fix)) (aw nx (some (.cells [.ptr br 0] .fix)) h'))=some (.cells [.ptr br 0] .fix):=by rw[aU _ _ _ _ r23];simp
  have z3:ae r3 (aw r3 (some (.cells [I 0] .fix)) (aw nx (some (.cells [.ptr br 0] .fix)) h'))=some (.cells [I 0] .fix):=by simp
  have D5:mN nx ds (aw r3 (some (.cells [I 0] .fix)) (aw nx (some (.cells [.ptr br 0] .fix)) h')) nx':=A.d.cF (fg _) fun b _ hg=>by rw[k5 b (by rintro rfl;rw[w2]at hg;cases hg) (by rintro rfl;rw[w3]at hg;cases hg)];exact hg
  generalize aw r3 (some (.cells [I 0] .fix)) (aw nx (some (.cells [.ptr br 0] .fix)) h')=h5 at *;refine apU (by simp[A.g2]) (by simp[A.g3]) z2 z3 (fun _=>rfl) (fun _=>rfl) D5 fun h2 h3=>?_;have cF:∀b:Key,((∃l k,ae b h'=some (.cells l k))∨ae b h'=some .tok∨∃l,ae b h'=some (.map l))→b≠nx→b≠r3→ae b h2=ae b h':=fun b hb h1 h4=>by have h6:=k5 b h1 h4;rw[h3 b (aCu D5 (by rw[h6];exact hb)),h6]
  have apW:=A.sep nx (.inr (.inr (.inl rfl)));have apX:=A.sep r3 (.inr (.inr (.inr rfl)));refine⟨⟨A.e.n,fun b EJ=>?_⟩,.inr ⟨l,br,cC,cS,cs,hb,rfl,A.kp,A.fst,A.ok,⟨⟨bm,oC,E,A.R.cF (fg _) fun b hb=>?_⟩,⟨oS,A.B.G.cF (fg _) fun b hb=>?_⟩,A.B.r7,A.csl,A.row⟩⟩⟩
  ·rw[h3 b (fun hm=>by have:=D5.ge b hm;omega),k5 b (fun e=>by rw[e]at EJ;omega) (fun e=>by rw[e]at EJ;omega)];exact A.e.g b EJ
  ·rcases hb with rfl|rfl|hb|⟨e,he,hb⟩
   ·exact cF _ (.inl ⟨_,_,A.R.lW⟩) (Ne.symm apW.1) (Ne.symm apX.1)
   ·exact cF _ (.inr (.inr ⟨_,A.R.map⟩)) (Ne.symm apW.2.1) (Ne.symm apX.2.1)
   ·refine cF b ?_ (fun e=>apW.2.2.1 (by rw[←e];exact hb)) (fun e=>apX.2.2.1 (by rw[←e];exact hb));rcases A.R.C.ct hb with h1|h1
    ·exact .inl h1
    ·exact .inr (.inl h1)
   ·refine cF b ?_ (fun e'=>apW.2.2.2.1 e he (by rw[←e'];exact hb)) (fun e'=>apX.2.2.2.1 e he (by rw[←e'];exact hb));rcases (A.R.B e he).ct hb with h1|h1
    ·exact .inl h1
    ·exact .inr (.inl h1)
  ·refine cF b ?_ (fun e=>apW.2.2.2.2 (by rw[←e];exact hb)) (fun e=>apX.2.2.2.2 (by rw[←e];exact hb));rcases A.B.G.ct hb with h1|h1
   ·exact .inl h1
   ·exact .inr (.inl h1)
end Ln
namespace Ln
open Go.Sx Go
def fQ(l:List Bool):List AV:=l.map fun b=>.bool b
theorem JC(l:List Bool):(fQ l).length=l.length:=List.length_map ..
theorem JD{l:List Bool}{i:Nat}(h:i<l.length):(fQ l)[i]?=some (.bool l[i]):=by unfold fQ;rw[List.getElem?_map,yT h];rfl
theorem X6{l:List Bool}{i:Nat}(h:i<l.length)(v:Bool):List.take i (fQ l) ++ .bool v ::List.drop (i+1) (fQ l)=fQ (l.set i v):=by unfold fQ;rw[List.map_set,List.set_eq_take_append_cons_drop,if_pos (by rw[List.length_map];exact h)]
def Ky(base:List Bool)(row:List (Nat×Nat)):Bool:=row.any fun t=>base.getD t.2 false
def GdI(row:List (Nat×Nat))(base:List Bool)(p:Nat)(v0:Bool)(c77:AV)(b14 bg:Key)(h:T ah)(nx:Key)(P:T AV→Prop)(m:Nat)(ay:T AV)(h':T ah)(nx':Key):Prop:=∃j:Nat,m=row.length-j∧j≤row.length∧P ay∧ae (K 14) ay=some (.ptr b14 0)∧ae (K 15) ay=some (I (p:Int))∧ae (K 77) ay=some c77∧ae (K 78) ay=some (I row.length)∧ae (K 79) ay=some (I j)∧ae bg h'=some (.cells (fQ (base.set p (v0||Ky base (row.take j)))) .fix)∧nx.toNat≤nx'.toNat∧∀b:Key,b.toNat<nx.toNat→b≠bg→ae b h'=ae b h
variable{C:bQ}{X:Kn}(S:Std C X)(H:OU C)
theorem av2{row:List (Nat×Nat)}{c77:AV}(Pj:gI 2 eT c77 row)(LI:row.length≤1000){base:List Bool}{p:Nat}(hp:p<base.length)(QG:base.length≤1024)(hto:∀t∈row,p<t.2∧t.2<base.length){v0:Bool}{b14 bg:Key}{h:T ah}{nx:Key}(v14:ae b14 h=some (.cells [.slice bg 0 base.length 1] .fix))(aeV:b14.toNat<nx.toNat)(bgn:bg.toNat<nx.toNat)(bne:b14≠bg){P:T AV→Prop}(hP:∀tm k v,P tm→(k=K 17∨k=K 79∨(80≤k.toNat∧k.toNat≤97))→P (aw k v tm)){Q:dh}{m:Nat}{tm:T AV}{h1:T ah}{bS:Key}(A:GdI row base p v0 c77 b14 bg h nx P m tm h1 bS)
  (fy:∀ay h' nx',P ay→ae (K 15) ay=some (I (p:Int))→ae (K 14) ay=some (.ptr b14 0)→ae bg h'=some (.cells (fQ (base.set p (v0||Ky base row))) .fix)→nx.toNat≤nx'.toNat→(∀b:Key,b.toNat<nx.toNat→b≠bg→ae b h'=ae b h)→Q .norm ay h' nx') :
  W C (.loop zg) (aC 2 Q) tm h1 bS:=by
 refine W.dy (GdI row base p v0 c77 b14 bg h nx P) A ?_;rintro m ef h2 aN ⟨j,rfl,hj,hPt,g14,g15,g77,g78,g79,vg,hn,hf⟩;refine W.of ?_;simp[zg];by_cases bW:j<row.length
 ·have v7:(j:Int)<row.length:=by omega
  have hR:=Pj.rd h2 aN;have s2:=kTSu aN;have arM:ae b14 h2=some (.cells [.slice bg 0 base.length 1] .fix):=by rw[hf b14 aeV bne];exact v14
  obtain⟨ht1,ht2⟩:=hto _ (OA bW);have HO:Ky base (row.take (j+1))=(Ky base (row.take j)||base.getD row[j].2 false):=by unfold Ky;rw[zqu bW,List.any_append];simp
  have hce:(eT row[j]).all AV.aT=true:=wG.2 (iE.cell _);have hle:(eT row[j]).length=2:=rfl;have he1:(eT row[j])[1]?=some (I (row[j].2:Int)):=rfl;simp[wQ,g78,g79,v7];simp only[FJ,at8,aub,aNq,aNr,aNs,aNt,aNu,aNv,aNw,aNx,auc,at9,aua,aNz];simp[↓hR.ix iE bW,g77,g79,hce,hle];generalize row[j]=t at *;generalize hv:(v0||Ky base (row.take j))=vj at *;have e3:=E0 h2 aN (.cells (eT t) .fix);have v17:ae aN (aw aN (some (.cells (eT t) .fix)) h2)=some (.cells (eT t) .fix):=by simp
  have v143:ae b14 (aw aN (some (.cells (eT t) .fix)) h2)=some (.cells [.slice bg 0 base.length 1] .fix):=by rw[e3.g b14 (by omega)];exact arM
  have vg3:ae bg (aw aN (some (.cells (eT t) .fix)) h2)=some (.cells (fQ (base.set p vj)) .fix):=by rw[e3.g bg (by omega)];exact vg
  have k3:∀b:Key,b.toNat<nx.toNat→b≠bg→ae b (aw aN (some (.cells (eT t) .fix)) h2)=ae b h:=fun b hb bX=>by rw[e3.g b (by omega)];exact hf b hb bX
  generalize aw aN (some (.cells (eT t) .fix)) h2=h3 at *;have hls:(base.set p vj).length=base.length:=List.length_set;have amJ:(fQ (base.set p vj)).length=base.length:=by rw[JC,hls]
  have hgp:(fQ (base.set p vj))[p]?=some (.bool vj):=by rw[JD (by rw[hls];exact hp)];simp
  have QL:(fQ (base.set p vj))[t.2]?=some (.bool (base.getD t.2 false)):=by rw[JD (by rw[hls];exact ht2),List.getElem_set_ne (by omega),List.getD_eq_getElem?_getD,yT ht2];rfl
  have arO:∀hh,(fQ (base.set p vj))[p]'hh=.bool vj:=fun hh=>by rw[yT hh]at hgp;exact Option.some.inj hgp
  have av5:∀hh,(fQ (base.set p vj))[t.2]'hh=.bool (base.getD t.2 false):=fun hh=>by rw[yT hh]at QL;exact Option.some.inj QL
  have Zx:=fun v=>X6 (l:=base.set p vj) (i:=p) (by rw[hls];exact hp) v;simp only[List.set_set]at Zx;have h1p:p+1≤base.length:=hp;have fin:∀aJ:T AV,P aJ→ae (K 14) aJ=some (.ptr b14 0)→ae (K 15) aJ=some (I (p:Int))→ae (K 77) aJ=some c77→ae (K 78) aJ=some (I row.length)→ae (K 79) aJ=some (I j)→
    lA C (aQ (fun tm h_1 aFs=>∃m,m<row.length-j∧GdI row base p v0 c77 b14 bg h nx P m tm h_1 aFs) (aC 2 Q)) wR aJ (aw bg (some (.cells (fQ (base.set p (vj||base.getD t.2 false))) .fix)) h3) aN.succ:=by
   intro aJ hP2 OE S7 q77 q78 q79;simp[-List.getD_eq_getElem?_getD,wR,q79];rw[aB (by omega) (by omega)];refine⟨row.length-(j+1),by omega,j+1,rfl,by omega,hP _ _ _ (hP _ _ _ hP2 (.inr (.inr ⟨by decide,by decide⟩))) (.inr (.inl rfl)),by simp[OE],by simp[S7],by simp[q77],by simp[q78],by simp,?_,by omega,fun b hb bX=>by rw[aU _ _ _ _ bX];exact k3 b hb bX⟩;rw[gTSm,HO,←Bool.or_assoc,hv]
  cases hvj:vj with
  |true=>
   rw[hvj]at vg3 amJ arO av5 Zx hls fin;have hpt:=Zx true;simp only[Bool.true_or]at fin;simp[wS,g14,g15,v143,vg3,hp,arO,amJ,h1p,hpt];refine fin _ ?_ ?_ ?_ ?_ ?_ ?_
   ·repeat' (first|exact hPt|refine hP _ _ _ ?_ (by first|exact .inl rfl|exact .inr (.inl rfl)|exact .inr (.inr ⟨by decide,by decide⟩)))
   ·simp[g14]
   ·simp[g15]
   ·simp[g77]
   ·simp[g78]
   ·simp[g79]
  |false=>
   rw[hvj]at vg3 amJ arO av5 Zx hls fin;have hpt:=Zx (base.getD t.2 false);simp only[Bool.false_or]at fin;simp[-List.getD_eq_getElem?_getD,wS,g14,g15,v143,v17,vg3,hp,arO,av5,ht2,he1,amJ,h1p,hpt];refine fin _ ?_ ?_ ?_ ?_ ?_ ?_
   ·repeat' (first|exact hPt|refine hP _ _ _ ?_ (by first|exact .inl rfl|exact .inr (.inl rfl)|exact .inr (.inr ⟨by decide,by decide⟩)))
   ·simp[g14]
   ·simp[g15]
   ·simp[g77]
   ·simp[g78]
   ·simp[g79]
 ·have xM:j=row.length:=by omega
  subst xM;rw[List.take_length]at vg;simp[wQ,g78,g79];refine fy _ _ _ (hP _ _ _ hPt (.inr (.inr ⟨by decide,by decide⟩))) (by simp[g15]) (by simp[g14]) vg hn hf
end Ln
namespace Go.Sx
theorem Rd.ix1{c:AV}{cs:List AV}{h:T ah}{nx:Key}(g:Rd 1 c cs cs.length h nx){i:Nat}(hi:i<cs.length){C:bQ}{Q:dh}{L:List aA}{tm:T AV}{n2 k1 k2 d1 d2:Key}(h1:ae k1 tm=some c)(h2:ae k2 tm=some (I i)) :
  lA C Q (⟨some d1,.indexL 1 (.t k1) (.t k2),none⟩ ::⟨some d2,.load false 1 (.t d1),none⟩ ::L) tm h n2=lA C Q L (aw d2 (some cs[i]) (aw d1 (some (JV 1 i c)) tm)) h n2:=by
 have tx:1≤cs.length-i:=by omega
 have hx:cs[i]?=some cs[i]:=yT hi;have hd:List.take 1 (List.drop i cs)=[cs[i]]:=by rw[zqt hi];rfl
 rcases g with⟨_,_,e⟩|⟨f,rfl⟩|⟨b,k,rfl,hb,_,_⟩
 ·omega
 ·simp[h1,h2,hi,tx,hx,hd,JV]
 ·simp[h1,h2,hi,tx,hx,hd,JV,hb]
end Go.Sx
namespace Ln
open Go.Sx Go
noncomputable def j0(S:Sys St)(l:List (Cf St))(q:Nat):Bool:=match l[q]? with|some c=>sB S c|none=>false
noncomputable def dH(S:Sys St)(l:List (Cf St))(a:Nat):List Bool:=(List.range l.length).map fun q=>decide (a≤q)&&j0 S l q
theorem rj(S:Sys St)(l:List (Cf St))(a:Nat):(dH S l a).length=l.length:=by simp[dH]
theorem Pr{S:Sys St}{l:List (Cf St)}{a q:Nat}(hq:q<l.length):(dH S l a).getD q false=(decide (a≤q)&&j0 S l q):=by unfold dH;rw[List.getD_eq_getElem?_getD,List.getElem?_map,List.getElem?_range hq];rfl
theorem afc(S:Sys St)(l:List (Cf St)):dH S l l.length=List.replicate l.length false:=by refine List.ext_getElem (by simp[dH]) fun q h1 h2=>?_;simp[dH]at h1 ⊢;intro hle;omega
theorem afa{S:Sys St}{l:List (Cf St)}{p:Nat}(hp:p<l.length):dH S l p=(dH S l (p+1)).set p (j0 S l p):=by
 refine List.ext_getElem (by simp[dH]) fun q h1 h2=>?_;rw[List.getElem_set];by_cases e:p=q
 ·subst e;rw[if_pos rfl];simp[dH]
 ·rw[if_neg e];simp[dH];have:p≤q↔p+1≤q:=by omega
  simp[this]
theorem abJ{S:Sys St}(hS:S.Ok){l:List (Cf St)}(hk:Kept S l.length l){p:Nat}(hp:p<l.length):(∀t∈rowOf S l l[p],p<t.2∧t.2<l.length)∧(S.acc l[p].1||Ky (dH S l (p+1)) (rowOf S l l[p]))=j0 S l p:=by
 have hcp:l[p]?=some l[p]:=yT hp;have MB:∀x∈S.steps l[p],x.2∈l:=hk.done p l[p] hp hcp;have hup:∀x∈S.steps l[p],p<l.idxOf x.2∧l.idxOf x.2<l.length:=fun x hx=>by obtain⟨q,c'⟩:=x;exact⟨hk.up hS hcp (JM (MB _ hx)) hx,List.idxOf_lt_length_of_mem (MB _ hx)⟩
 refine⟨fun t ht=>?_,?_⟩
 ·obtain⟨x,hx,rfl⟩:=We.1 ht;exact hup x hx
 ·have hgp:j0 S l p=sB S l[p]:=by unfold j0;rw[hcp]
  rw[hgp,ad8];congr 1;unfold Ky rowOf;rw[List.any_map];rw[Bool.eq_iff_iff,List.any_eq_true,List.any_eq_true];have key:∀x∈S.steps l[p],((fun t:Nat×Nat=>(dH S l (p+1)).getD t.2 false) ∘ fun x:Nat×Cf St=>(x.1,l.idxOf x.2)) x=sB S x.2:=fun x hx=>by
   obtain⟨h1,h2⟩:=hup x hx;show(dH S l (p+1)).getD (l.idxOf x.2) false=_;rw[Pr h2];have h3:j0 S l (l.idxOf x.2)=sB S x.2:=by unfold j0;rw[JM (MB x hx)]
   rw[h3,decide_eq_true (by omega),Bool.true_and]
  constructor
  ·rintro⟨x,hx,h⟩;exact⟨x,hx,by rw[key x hx]at h;exact h⟩
  ·rintro⟨x,hx,h⟩;exact⟨x,hx,by rw[key x hx];exact h⟩
def Kpt(tm0 tm:T AV):Prop:=∀k,(k=K 8∨k=K 9∨k=K 10∨k=K 11∨k=K 12∨k=K 13)→ae k tm=ae k tm0
theorem Kpt.refl(tm:T AV):Kpt tm tm:=fun _ _=>rfl
theorem Kpt.set{tm0 tm:T AV}(h:Kpt tm0 tm){k:Key}{v:Option AV}(hk:14≤k.toNat):Kpt tm0 (aw k v tm):=fun k' KG=>by
 have h8:(K 8).toNat=8:=by decide
 have h9:(K 9).toNat=9:=by decide
 have h10:(K 10).toNat=10:=by decide
 have h11:(K 11).toNat=11:=by decide
 have h12:(K 12).toNat=12:=by decide
 have h13:(K 13).toNat=13:=by decide
 rw[aU]
 ·exact h k' KG
 ·rintro rfl;rcases KG with rfl|rfl|rfl|rfl|rfl|rfl<;>omega
structure FdH(X:Kn)(mi:Nat)(os:List Op)(cO:AV)(l:List (Cf St))(bj br bm:Key)(cC cS:AV)(cs:List AV)(h:T ah)(nx:Key):Prop where
 vj:ae bj h=some (.cells (jB X mi cO (cX mi) (jE os os.length)) .fix)
 vr:ae br h=some (.cells [cC,cS,.map bm] .fix)
 C:Rd 5 cC (ag eC l) l.length h nx
 S:Rd 1 cS cs cs.length h nx
 lt:bj.toNat<nx.toNat∧br.toNat<nx.toNat
 csl:cs.length=l.length
 row:∀q (hq:q<cs.length),∃c,l[q]?=some c∧gI 2 eT cs[q] (rowOf (aP X mi os) l c)
theorem FdH.ext{X:Kn}{mi:Nat}{os:List Op}{cO:AV}{l:List (Cf St)}{bj br bm:Key}{cC cS:AV}{cs:List AV}{h h':T ah}{nx nx':Key}(F:FdH X mi os cO l bj br bm cC cS cs h nx)(e:Ext h nx h' nx'):FdH X mi os cO l bj br bm cC cS cs h' nx':=
 ⟨by rw[e.g _ F.lt.1];exact F.vj,by rw[e.g _ F.lt.2];exact F.vr,F.C.ext e,F.S.ext e,by have:=F.lt;have:=e.n;omega,F.csl,F.row⟩
def GvI(X:Kn)(mi:Nat)(os:List Op)(l:List (Cf St))(bj br b14 bg:Key)(h0:T ah)(nx0:Key)(tm0:T AV)(m:Nat)(ay:T AV)(h':T ah)(nx':Key):Prop:=∃a:Nat,m=a∧a≤l.length∧Kpt tm0 ay∧ae (K 11) ay=some (.ptr bj 0)∧ae (K 13) ay=some (.ptr br 0)∧ae (K 14) ay=some (.ptr b14 0)∧ae (K 15) ay=some (I ((a:Int)-1))∧
 ae b14 h'=some (.cells [.slice bg 0 l.length 1] .fix)∧ae bg h'=some (.cells (fQ (dH (aP X mi os) l a)) .fix)∧b14.toNat<nx'.toNat∧bg.toNat<nx'.toNat∧Ext h0 nx0 h' nx'
variable{C:bQ}{X:Kn}(S:Std C X)(H:OU C)
include S
theorem aj6{mi:Nat}{os:List Op}(ho:os.length≤16){cO:AV}{l:List (Cf St)}(hk:Kept (aP X mi os) l.length l){bj br bm b14 bg:Key}{cC cS:AV}{cs:List AV}{h0:T ah}{nx0:Key}(F:FdH X mi os cO l bj br bm cC cS cs h0 nx0)(ge:nx0.toNat≤b14.toNat∧nx0.toNat≤bg.toNat)(bne:b14≠bg){tm0:T AV}{Q:dh}{m:Nat}{tm:T AV}{h1:T ah}{bS:Key}(A:GvI X mi os l bj br b14 bg h0 nx0 tm0 m tm h1 bS)
  (fy:∀ay h' nx',Kpt tm0 ay→ae (K 11) ay=some (.ptr bj 0)→ae (K 13) ay=some (.ptr br 0)→ae (K 14) ay=some (.ptr b14 0)→ae b14 h'=some (.cells [.slice bg 0 l.length 1] .fix)→ae bg h'=some (.cells (fQ (dH (aP X mi os) l 0)) .fix)→b14.toNat<nx'.toNat→bg.toNat<nx'.toNat→Ext h0 nx0 h' nx'→Q .norm ay h' nx') :
  W C (.loop zn) (aC 0 Q) tm h1 bS:=by
 have rA:C.raw c9=false:=S.nr (by decide);have hSo:=JB X mi os;have hl:=hk.len;refine W.dy (GvI X mi os l bj br b14 bg h0 nx0 tm0) A ?_;rintro m ef h nx ⟨a,rfl,ha,hKp,g11,g13,g14,g15,v14,vg,aeV,bgn,e0⟩;refine W.of ?_;simp[zn];cases m with
 |zero=>
  have aAQ:((0:Nat):Int)-1<0:=by omega
  simp at g15;simp[zo,g15];exact fy _ _ _ ((hKp.set (by decide)).set (by decide)) (by simp[g11]) (by simp[g13]) (by simp[g14]) v14 vg aeV bgn e0
 |succ p=>
  have hp:p<l.length:=by omega
  have am4:ae (K 15) ef=some (I (p:Int)):=by
   rw[g15];have:((p+1:Nat):Int)-1=(p:Int):=by omega
   rw[this]
  have F1:=F.ext e0;obtain⟨hto,awj⟩:=abJ hSo hk hp;have cD:=hk.lt _ (OA hp);have hd:l[p].1<65536:=OX cD (lC ho);have hpc:p<cs.length:=by rw[F.csl];exact hp
  obtain⟨c,hc1,Pj⟩:=F.row p hpc;have hcp:c=l[p]:=by rw[yT hp]at hc1;exact(Option.some.inj hc1).symm
  subst hcp;have hnn:¬(p:Int)<0:=by omega
  simp[zo,am4,hnn];simp[↓Rd.aAR eJ F1.C hp,FP,g11,g13,g14,am4,v14,F1.vr,rA,CN];refine(ain S ho hd F1.vj F1.lt.1).mono ?_;rintro o h2 aN ⟨rfl,e2⟩;have n2:=e2.n;have arM:ae b14 h2=some (.cells [.slice bg 0 l.length 1] .fix):=by rw[e2.g _ aeV];exact v14
  have vg2:ae bg h2=some (.cells (fQ (dH (aP X mi os) l (p+1))) .fix):=by rw[e2.g _ bgn];exact vg
  have sq:AV.beq (.slice bg 0 l.length 1) (.slice bg 0 l.length 1)=true:=beq_refl _ rfl;have QG:(fQ (dH (aP X mi os) l (p+1))).length=l.length:=by rw[JC,rj]
  have h1p:p+1≤l.length:=hp;have Zx:=X6 (l:=dH (aP X mi os) l (p+1)) (i:=p) (by rw[rj];exact hp) (C7 os l[p].1);have e02:=e0.trans e2;have F2:=F.ext e02;simp[g14,am4,arM,vg2,sq,hp,QG,h1p,Zx];have e3:Ext h0 nx0 (aw bg (some (.cells (fQ ((dH (aP X mi os) l (p+1)).set p (C7 os l[p].1))) .fix)) h2) aN:=e02.put ge.2;have v143:ae b14 (aw bg (some (.cells (fQ ((dH (aP X mi os) l (p+1)).set p (C7 os l[p].1))) .fix)) h2)=some (.cells [.slice bg 0 (dH (aP X mi os) l (p+1)).length 1] .fix):=by rw[aU _ _ _ _ bne,rj];exact arM
  have vg3:ae bg (aw bg (some (.cells (fQ ((dH (aP X mi os) l (p+1)).set p (C7 os l[p].1))) .fix)) h2)=some (.cells (fQ ((dH (aP X mi os) l (p+1)).set p (C7 os l[p].1))) .fix):=by simp
  generalize aw bg (some (.cells (fQ ((dH (aP X mi os) l (p+1)).set p (C7 os l[p].1))) .fix)) h2=h3 at *;have F3:=F.ext e3;have hR3:=Pj.rd h3 aN;have am5:(rowOf (aP X mi os) l l[p]).length≤1000:=by unfold rowOf Sys.steps;rw[List.length_map];have:=List.length_filterMap_le ((aP X mi os).step l[p]) (List.range (aP X mi os).n);rw[List.length_range]at this;have hn:(aP X mi os).n=os.length:=rfl;omega
  have hg0:(dH (aP X mi os) l (p+1)).length=l.length:=rj _ _ _;simp[↓F3.S.ix1 hpc,↓hR3.ln,FQ,g13,am4,F3.vr];refine av2 (C:=C) Pj am5 (base:=dH (aP X mi os) l (p+1)) (p:=p) (by rw[hg0];exact hp) (by rw[hg0];exact hl) (fun t ht=>by rw[hg0];exact hto t ht) (v0:=C7 os l[p].1) (b14:=b14) (bg:=bg) (h:=h3) (nx:=aN) v143 (by omega) (by omega) bne (P:=fun tm=>Kpt tm0 tm∧ae (K 11) tm=some (.ptr bj 0)∧ae (K 13) tm=some (.ptr br 0)) ?_ (m:=(rowOf (aP X mi os) l l[p]).length) ⟨0,by simp,by omega,⟨?_,by simp[g11],by simp[g13]⟩,by simp[g14],by simp[am4],by simp,by simp,by simp,?_,fg _,fun _ _ _=>rfl⟩ ?_
  ·rintro tm k v ⟨h1,h2,h3⟩ KG;have OH:14≤k.toNat:=by
    have h17:(K 17).toNat=17:=by decide
    have h79:(K 79).toNat=79:=by decide
    rcases KG with rfl|rfl|h<;>omega
   have h11:(K 11).toNat=11:=by decide
   have h13:(K 13).toNat=13:=by decide
   have n11:(K 11)≠k:=fun e=>by rw[e]at h11;omega
   have n13:(K 13)≠k:=fun e=>by rw[e]at h13;omega
   exact⟨h1.set OH,by rw[aU _ _ _ _ n11];exact h2,by rw[aU _ _ _ _ n13];exact h3⟩
  ·repeat' (first|exact hKp|refine Kpt.set ?_ (by decide))
  ·have:Ky (dH (aP X mi os) l (p+1)) (List.take 0 (rowOf (aP X mi os) l l[p]))=false:=by rw[List.take_zero];rfl
   rw[this,Bool.or_false];exact vg3
  ·rintro ay h' nx' ⟨q,Qf,q13⟩ S7 OE vg' hn' hf';have hga:(C7 os l[p].1||Ky (dH (aP X mi os) l (p+1)) (rowOf (aP X mi os) l l[p]))=j0 (aP X mi os) l p:=awj;rw[hga,←afa hp]at vg';simp;simp[FR,S7];rw[aB (by omega) (by omega)];refine⟨p,by omega,p,rfl,by omega,?_,by simp[Qf],by simp[q13],by simp[OE],by simp,by rw[hf' b14 (by omega) bne];rw[←hg0];exact v143,vg',by omega,by omega,⟨by have:=e3.n;omega,fun b hb=>?_⟩⟩
   ·repeat' (first|exact q|refine Kpt.set ?_ (by decide))
   ·have:=e3.n;have g1:=ge.1;have g2:=ge.2;rw[hf' b (by omega) (fun e=>by rw[e]at hb;omega)];exact e3.g b hb
end Ln
namespace Ln
open Go.Sx Go
def GdB(b14 bg:Key)(gv:List Bool)(h:T ah)(nx:Key):Prop:=ae b14 h=some (.cells [.slice bg 0 gv.length 1] .fix)∧ae bg h=some (.cells (fQ gv) .fix)∧b14.toNat<nx.toNat∧bg.toNat<nx.toNat
theorem GdB.ext{b14 bg:Key}{gv:List Bool}{h h':T ah}{nx nx':Key}(g:GdB b14 bg gv h nx)(e:Ext h nx h' nx'):GdB b14 bg gv h' nx':=⟨by rw[e.g _ g.2.2.1];exact g.1,by rw[e.g _ g.2.2.2];exact g.2.1,by have:=g.2.2.1;have:=e.n;omega,by have:=g.2.2.2;have:=e.n;omega⟩
variable{C:bQ}{X:Kn}(S:Std C X)
include S
theorem aqx{b14 bg:Key}{gv:List Bool}{h:T ah}{nx:Key}(G:GdB b14 bg gv h nx){t:Nat×Nat}(ht:t.2<gv.length):aG C fY [.agg (eT t),.ptr b14 0] h nx (fun o h' nx'=>o=.ret (.bool (gv.getD t.2 false))∧Ext h nx h' nx'):=by
 have s1:=kTSu nx;have hce:(eT t).all AV.aT=true:=wG.2 (iE.cell _);have hle:(eT t).length=2:=rfl;have he1:(eT t)[1]?=some (I (t.2:Int)):=rfl;refine S.DO.call ?_;simp[-List.getD_eq_getElem?_getD,zL];simp[-List.getD_eq_getElem?_getD,BE,hce,hle];have e1:=E0 h nx (.cells (eT t) .fix);have b1:ae nx (aw nx (some (.cells (eT t) .fix)) h)=some (.cells (eT t) .fix):=by simp
 generalize aw nx (some (.cells (eT t) .fix)) h=h1 at *;obtain⟨g1,g2,_,_⟩:=G.ext e1;have QG:(fQ gv).length=gv.length:=JC gv;have QL:∀hh,(fQ gv)[t.2]'hh=.bool (gv.getD t.2 false):=fun hh=>by have:=JD ht;rw[yT hh]at this;rw[Option.some.inj this,List.getD_eq_getElem?_getD,yT ht];rfl
 simp[-List.getD_eq_getElem?_getD,BF,b1,g1,g2,he1,ht,QG,QL];exact e1
def aDl(gv:List Bool)(row:List (Nat×Nat))(j:Nat):Prop:=j<row.length∧gv.getD (row.getD j (0,0)).2 false=true∧∀q,q<j→gv.getD (row.getD q (0,0)).2 false=false
def IfI(row:List (Nat×Nat))(gv:List Bool)(c0:AV)(b14:Key)(h:T ah)(nx:Key)(m:Nat)(ay:T AV)(h':T ah)(nx':Key):Prop:=∃j:Nat,m=row.length-j∧j≤row.length∧ae (K 0) ay=some c0∧ae (K 1) ay=some (.fn fY [] [.ptr b14 0])∧ae (K 7) ay=some (I row.length)∧ae (K 8) ay=some (I j)∧Ext h nx h' nx'∧∀q,q<j→gv.getD (row.getD q (0,0)).2 false=false
theorem ar2{b14 bg:Key}{gv:List Bool}{h:T ah}{nx:Key}(G:GdB b14 bg gv h nx){row:List (Nat×Nat)}(LI:row.length≤1000)(hto:∀t∈row,t.2<gv.length)(ani:∃t∈row,gv.getD t.2 false=true){c0:AV}(hc:gI 2 eT c0 row) :
  aG C bz [c0,.fn fY [] [.ptr b14 0]] h nx (fun o h' nx'=>(∃j,aDl gv row j∧o=.ret (I (j:Nat)))∧Ext h nx h' nx'):=by
 have r2:C.raw fY=false:=S.nr (by decide);have hR:=hc.rd h nx;refine S.fF.call ?_;simp[dv];simp[fh];simp[↓hR.ln,fi];refine W.dy (n:=row.length) (IfI row gv c0 b14 h nx) ⟨0,by simp,by omega,by simp,by simp,by simp,by simp,Ext.refl _ _,fun q hq=>absurd hq (by omega)⟩ ?_;rintro m ef h1 bS ⟨j,rfl,hj,g0,g1,g7,g8,e1,sx⟩;refine W.of ?_;simp[fq];by_cases bW:j<row.length
 ·have v7:(j:Int)<row.length:=by omega
  have hR1:=hc.rd h1 bS;have hz:∀H,bG (aM 9998) (eT row[j]) H=(eT row[j],H):=fun H=>bT (iE.r7 _);have hgd:row.getD j (0,0)=row[j]:=by rw[List.getD_eq_getElem?_getD,yT bW];rfl
  simp[fj,g7,g8,v7];simp[fk,g8];simp[↓hR1.ix iE bW,fm,g0,g1,r2,hz];refine(aqx S (G.ext e1) (hto _ (OA bW))).mono ?_;rintro o h2 aN ⟨rfl,e2⟩;cases hg:gv.getD row[j].2 false with
  |true=>simp;simp[fo];exact⟨⟨j,⟨bW,by rw[hgd];exact hg,sx⟩,rfl⟩,e1.trans e2⟩
  |false=>
   simp;simp[fp,g8];rw[aB (by omega) (by omega)];refine⟨row.length-(j+1),by omega,j+1,rfl,by omega,by simp[g0],by simp[g1],by simp[g7],by simp,e1.trans e2,fun q hq=>?_⟩;by_cases e:q=j
   ·subst e;rw[hgd];exact hg
   ·exact sx q (by omega)
 ·exfalso;obtain⟨t,ht,QL⟩:=ani;obtain⟨q,hq,rfl⟩:=List.getElem_of_mem ht;have:=sx q (by omega);rw[List.getD_eq_getElem?_getD (l:=row),yT hq]at this;have h2:gv.getD row[q].2 false=false:=this;rw[QL]at h2;cases h2
end Ln
namespace Ln
open Go.Sx Go
variable{C:bQ}{X:Kn}(S:Std C X)
include S
theorem anm{c:Cf St}(hk:c.2.kids.length≤3){h:T ah}{nx:Key}:aG C fW [.agg (eC c)] h nx (fun o h' nx'=>o=.ret (.agg (eC c))∧Ext h nx h' nx'):=by
 have rV:C.raw gh=false:=S.nr (by decide);have s1:=kTSu nx;have s2:=kTSu nx.succ;refine S.Dg.call ?_;simp[zw];simp[Bi,CM,pr];have e2:=(E0 h nx (.cells (eC c) .fix)).trans (E0 _ nx.succ (.cells [.int .i64 (.lit 0),.int .i64 (.lit 0),.int .i64 (.lit 0),.str 0 0,.nils] .fix));have b1:ae nx (aw nx.succ (some (.cells [.int .i64 (.lit 0),.int .i64 (.lit 0),.int .i64 (.lit 0),.str 0 0,.nils] .fix)) (aw nx (some (.cells (eC c) .fix)) h))=some (.cells (eC c) .fix):=by rw[ax (by omega)];simp
 have b2:ae nx.succ (aw nx.succ (some (.cells [.int .i64 (.lit 0),.int .i64 (.lit 0),.int .i64 (.lit 0),.str 0 0,.nils] .fix)) (aw nx (some (.cells (eC c) .fix)) h))=some (.cells [.int .i64 (.lit 0),.int .i64 (.lit 0),.int .i64 (.lit 0),.str 0 0,.nils] .fix):=by simp
 generalize aw nx.succ (some (.cells [.int .i64 (.lit 0),.int .i64 (.lit 0),.int .i64 (.lit 0),.str 0 0,.nils] .fix)) (aw nx (some (.cells (eC c) .fix)) h)=h2 at *;have ec0:(eC c)[0]?=some (I c.1):=rfl;have ann:(eC c).head?=some (I c.1):=rfl;have et:List.take 4 (eC c).tail=eS c.2:=rfl;have iq:AV.beq (I c.1) (I c.1)=true:=beq_refl _ rfl;simp[Bj,b1,ec0,ann,et,pr,rV,zd];refine aG.known (S.s_Clone c.2 hk _ _) ?_;simp[b1,b2,ec0,ann,iq,lenS,xS,UL];rw[su,zd];exact⟨rfl,e2.put (by omega)⟩
omit S in
theorem ano{l:List (Cf St)}{R0:List AV}{j:Nat}(hj:j<l.length)(hR:R0.length=l.length*5):List.take (j*5) (ag eC (l.take j)++R0.drop (j*5))++(eC l[j]++List.drop (j*5+5) (ag eC (l.take j)++R0.drop (j*5)))=ag eC (l.take (j+1))++R0.drop ((j+1)*5):=by
 have cD:(l.take j).length=j:=by rw[Y7];omega
 have hr:(ag eC (l.take j)).length=j*5:=by rw[eJ.rows,cD]
 rw[List.take_append_of_le_length (by omega),RL (by omega),zqq,hr,List.drop_eq_nil_of_le (by omega),List.nil_append,List.drop_drop];rw[zqu hj,jg,je,List.append_assoc];congr 3;omega
def CpI(l:List (Cf St))(c0:AV)(R0:List AV)(bn:Key)(h:T ah)(nx:Key)(m:Nat)(ay:T AV)(h':T ah)(nx':Key):Prop:=∃j:Nat,m=l.length-j∧j≤l.length∧ae (K 0) ay=some c0∧ae (K 1) ay=some (.fn fW [] [])∧ae (K 5) ay=some (.slice bn 0 l.length 5)∧ae (K 14) ay=some (I l.length)∧ae (K 15) ay=some (I j)∧ae bn h'=some (.cells (ag eC (l.take j)++R0.drop (j*5)) .fix)∧bn.toNat<nx'.toNat∧Ext h nx h' nx'
theorem anb{l:List (Cf St)}(h0:0<l.length)(hl:l.length≤1024)(BL:∀y∈l,y.2.kids.length≤3){c0:AV}(hc:gI 5 eC c0 l){h:T ah}{nx:Key} :
  aG C dI [c0,.fn fW [] []] h nx (fun o h' nx'=>o=.ret (.slice nx 0 l.length 5)∧ae nx h'=some (.cells (ag eC l) .fix)∧nx.toNat<nx'.toNat∧Ext h nx h' nx'):=by
 have r1:C.raw fW=false:=S.nr (by decide);have s1:=kTSu nx;have hR:=hc.rd h nx;have bX:¬l.length=0:=by omega
 have aGc:l≠[]:=fun e=>bX (by rw[e];rfl);have Pm:l.length≤1048576:=by omega
 refine S.nn.call ?_;simp[jH];simp[mr];simp[↓hR.ln,mu,bX,aGc];simp[↓hR.ln,mv,Pm,-repL_eq];have hR0:∀(n:Nat) (a b c d e:AV),(OY n [a,b,c,d,e] []).length=n*5:=fun n a b c d e=>by rw[repL_eq,List.append_nil];simp
 have aAZ:=hR0 l.length (.int .i64 (.lit 0)) (.int .i64 (.lit 0)) (.int .i64 (.lit 0)) (.str 0 0) .nils;generalize OY l.length [AV.int .i64 (.lit 0),.int .i64 (.lit 0),.int .i64 (.lit 0),.str 0 0,.nils] []=R0 at *;have e1:=E0 h nx (.cells R0 .fix);have b1:ae nx (aw nx (some (.cells R0 .fix)) h)=some (.cells R0 .fix):=by simp
 generalize aw nx (some (.cells R0 .fix)) h=h1 at *;have hR1:=hc.rd h1 nx.succ;simp[↓hR1.ln,mw];refine W.dy (n:=l.length) (CpI l c0 R0 nx h nx) ⟨0,by simp,by omega,by simp,by simp,by simp,by simp,by simp,by simpa using b1,by omega,e1⟩ ?_;rintro m ef h2 aN ⟨j,rfl,hj,g0,g1,g5,g14,g15,vb,bn,e2⟩;refine W.of ?_;simp[my];by_cases bW:j<l.length
 ·have v7:(j:Int)<l.length:=by omega
  have hR2:=hc.rd h2 aN;have Zx:=ano bW aAZ;have QG:(ag eC (l.take j)++R0.drop (j*5)).length=l.length*5:=by rw[Ko,eJ.rows,List.length_drop,Y7,aAZ];omega
  have HO:j*5+5≤l.length*5:=by omega
  have htx:5≤l.length*5-j*5:=by omega
  simp[gR,g14,g15,v7];simp[mz,g15];simp[↓hR2.ix eJ bW,mA,g0,g1,g5,r1,CN];refine(anm S (BL _ (OA bW))).mono ?_;rintro o h3 bY ⟨rfl,e3⟩;have n3:=e3.n;have vb3:ae nx h3=some (.cells (ag eC (l.take j)++R0.drop (j*5)) .fix):=by rw[e3.g nx (by omega)];exact vb
  simp[vb3,bW,QG,HO,htx,pr,CM,Zx];simp[mB,g15];rw[aB (by omega) (by omega)];exact⟨l.length-(j+1),by omega,j+1,rfl,by omega,by simp[g0],by simp[g1],by simp[g5],by simp[g14],by simp,by simp,by omega,(e2.trans e3).put (fg _)⟩
 ·have xM:j=l.length:=by omega
  subst xM;have hd:R0.drop (l.length*5)=[]:=List.drop_eq_nil_of_le (by omega);rw[List.take_length,hd,List.append_nil]at vb;simp[gR,g14,g15];simp[mC,g5];exact⟨vb,by omega,e2⟩
end Ln
namespace Ln
open Go.Sx Go
theorem aka{S:Sys St}(hS:S.Ok){l:List (Cf St)}(hk:Kept S l.length l){p:Nat}(hp:p<l.length)(hg:sB S l[p]=true)(ha:S.acc l[p].1=false):(∃t∈rowOf S l l[p],(dH S l 0).getD t.2 false=true)∧∀j,aDl (dH S l 0) (rowOf S l l[p]) j→∃(i q:Nat) (c':Cf St),(rowOf S l l[p])[j]?=some (i,q)∧l[q]?=some c'∧p<q∧sB S c'=true∧∀r,Path S c' r→Path S l[p] (i ::r):=by
 have hcp:l[p]?=some l[p]:=yT hp;have MB:∀x∈S.steps l[p],x.2∈l:=hk.done p l[p] hp hcp;have hgd:∀x∈S.steps l[p],(dH S l 0).getD (l.idxOf x.2) false=sB S x.2:=fun x hx=>by
  have h2:l.idxOf x.2<l.length:=List.idxOf_lt_length_of_mem (MB _ hx);rw[Pr h2];have h3:j0 S l (l.idxOf x.2)=sB S x.2:=by unfold j0;rw[JM (MB x hx)]
  rw[h3];simp
 refine⟨?_,fun j hj=>?_⟩
 ·rw[ad8,ha,Bool.false_or,List.any_eq_true]at hg;obtain⟨x,hx,hgx⟩:=hg;exact⟨_,We.2 ⟨x,hx,rfl⟩,by rw[hgd x hx];exact hgx⟩
 ·obtain⟨h1,h2,h3⟩:=hj;have hlen:(rowOf S l l[p]).length=(S.steps l[p]).length:=by unfold rowOf;rw[List.length_map]
  have hj':j<(S.steps l[p]).length:=by omega
  have HJ:∀q (hq:q<(S.steps l[p]).length),(rowOf S l l[p])[q]?=some ((S.steps l[p])[q].1,l.idxOf (S.steps l[p])[q].2):=fun q hq=>by unfold rowOf;rw[List.getElem?_map,yT hq];rfl
  have hD:∀q (hq:q<(S.steps l[p]).length),(dH S l 0).getD ((rowOf S l l[p]).getD q (0,0)).2 false=sB S (S.steps l[p])[q].2:=fun q hq=>by rw[List.getD_eq_getElem?_getD (l:=rowOf S l l[p]),HJ q hq];exact hgd _ (OA hq)
  have hx:=OA hj';rw[hD j hj']at h2;refine⟨_,_,(S.steps l[p])[j].2,HJ j hj',JM (MB _ hx),?_,h2,fun r hr=>?_⟩
  ·have hx2:((S.steps l[p])[j].1,(S.steps l[p])[j].2)∈S.steps l[p]:=hx;exact hk.up hS hcp (JM (MB _ hx)) hx2
  ·refine Path.more (a:=(S.steps l[p]).take j) (b:=(S.steps l[p]).drop (j+1)) ha ?_ ?_ hr
   ·have:=List.take_append_drop j (S.steps l[p]);rw[zqt hj']at this;exact this.symm
   ·intro x hxa;obtain⟨q,hq,rfl⟩:=List.getElem_of_mem hxa;have hq1:q<j:=by rw[Y7]at hq;omega
    have hq2:q<(S.steps l[p]).length:=by omega
    have:=h3 q hq1;rw[hD q hq2]at this;rw[List.getElem_take];exact Yf.1 this
def OlI(X:Kn)(mi:Nat)(os:List Op)(l:List (Cf St))(bj br b14 bg:Key)(h0:T ah)(nx0:Key)(tm0:T AV)(m:Nat)(ay:T AV)(h':T ah)(nx':Key):Prop:=∃(p:Nat) (pre:List Nat) (c19:AV) (o19:Option Key),m=l.length-p∧p<l.length∧j0 (aP X mi os) l p=true∧pre.length≤p∧(∀r c,l[p]?=some c→Path (aP X mi os) c r→∃c0,l[0]?=some c0∧Path (aP X mi os) c0 (pre++r))∧Kpt tm0 ay∧
 ae (K 11) ay=some (.ptr bj 0)∧ae (K 13) ay=some (.ptr br 0)∧ae (K 14) ay=some (.ptr b14 0)∧ae (K 20) ay=some (I (p:Int))∧ae (K 19) ay=some c19∧Gr 1 c19 (ag eI (Au pre)) (Au pre).length h' nx' o19∧(∀b,o19=some b→nx0.toNat≤b.toNat∧b≠b14∧b≠bg)∧GdB b14 bg (dH (aP X mi os) l 0) h' nx'∧Ext h0 nx0 h' nx'
variable{C:bQ}{X:Kn}(S:Std C X)
include S
theorem afe{mi:Nat}{os:List Op}(ho:os.length≤16){cO:AV}{l:List (Cf St)}(hk:Kept (aP X mi os) l.length l){bj br bm b14 bg:Key}{cC cS:AV}{cs:List AV}{h0:T ah}{nx0:Key}(F:FdH X mi os cO l bj br bm cC cS cs h0 nx0)(ge:nx0.toNat≤b14.toNat∧nx0.toNat≤bg.toNat){tm0:T AV}{Q:dh}{m:Nat}{tm:T AV}{h1:T ah}{bS:Key}(A:OlI X mi os l bj br b14 bg h0 nx0 tm0 m tm h1 bS)
  (fy:∀ay h' nx' pre c19 o19,(∃c0,l[0]?=some c0∧Path (aP X mi os) c0 pre)→Kpt tm0 ay→ae (K 19) ay=some c19→Gr 1 c19 (ag eI (Au pre)) (Au pre).length h' nx' o19→(∀b,o19=some b→nx0.toNat≤b.toNat)→Ext h0 nx0 h' nx'→Q .norm ay h' nx') :
  W C (.loop zv) (aC 4 Q) tm h1 bS:=by
 have rA:C.raw c9=false:=S.nr (by decide);have rI:C.raw bz=false:=S.nr (by decide);have hSo:=JB X mi os;have hl:=hk.len;refine W.dy (OlI X mi os l bj br b14 bg h0 nx0 tm0) A ?_;rintro m ef h nx ⟨p,pre,c19,o19,rfl,hp,hga,ud,aus,hKp,g11,g13,g14,g20,g19,G19,abN,GB,e0⟩;have F1:=F.ext e0;have cD:=hk.lt _ (OA hp);have hd:l[p].1<65536:=OX cD (lC ho);have hcp:l[p]?=some l[p]:=yT hp;have hpc:p<cs.length:=by rw[F.csl];exact hp
 obtain⟨c,hc1,Pj⟩:=F.row p hpc;have NM:c=l[p]:=by rw[hcp]at hc1;exact(Option.some.inj hc1).symm
 subst NM;have hgl:sB (aP X mi os) l[p]=true:=by
  have:j0 (aP X mi os) l p=sB (aP X mi os) l[p]:=by unfold j0;rw[hcp]
  rw[←this];exact hga
 refine W.of ?_;simp[zv];simp[↓F1.C.ix eJ hp,Gc,g11,g13,g20,F1.vr,rA,CN];refine(ain S ho hd F1.vj F1.lt.1).mono ?_;rintro o h2 aN ⟨rfl,e2⟩;have e02:=e0.trans e2;cases WT:C7 os l[p].1 with
 |true=>
  obtain⟨c0,q1,q2⟩:=aus [] l[p] hcp (.now WT);rw[List.append_nil]at q2;simp;refine fy _ _ _ pre c19 o19 ⟨c0,q1,q2⟩ ?_ (by simp[g19]) (G19.ext e2) (fun b hb=>(abN b hb).1) e02
  repeat' (first|exact hKp|refine Kpt.set ?_ (by decide))
 |false=>
  have F2:=F.ext e02;have hR2:=Pj.rd h2 aN;have hz:∀H,aM 9999 cs[p] H=(cs[p],H):=fun H=>Pj.r7 _ _;have hzp:∀H,bG (aM 9998) [.ptr b14 0] H=([.ptr b14 0],H):=fun H=>rfl;obtain⟨ani,aF2⟩:=aka hSo hk hp hgl WT;obtain⟨hto,_⟩:=abJ hSo hk hp;have aF3:(dH (aP X mi os) l 0).length=l.length:=rj _ _ _;have am5:(rowOf (aP X mi os) l l[p]).length≤1000:=by unfold rowOf Sys.steps;rw[List.length_map];have:=List.length_filterMap_le ((aP X mi os).step l[p]) (List.range (aP X mi os).n);rw[List.length_range]at this;have hn:(aP X mi os).n=os.length:=rfl;omega
  simp;simp[↓F2.S.ix1 hpc,Gd,g13,g14,g20,F2.vr,rI,hz];refine(ar2 S (GB.ext e2) am5 (fun t ht=>by rw[aF3];exact(hto t ht).2) ani Pj).mono ?_;rintro o h3 bY ⟨⟨j,hj,rfl⟩,e3⟩;obtain⟨ci,q,c',hjq,hq1,hpq,hgq,hpp⟩:=aF2 j hj;have bW:j<(rowOf (aP X mi os) l l[p]).length:=hj.1;have xM:(rowOf (aP X mi os) l l[p])[j]=(ci,q):=by rw[yT bW]at hjq;exact Option.some.inj hjq
  have EK:=iE.at bW;rw[xM]at EK;have anj:cs[p]=.sl (ag eT (rowOf (aP X mi os) l l[p])) (rowOf (aP X mi os) l l[p]).length 2 .any:=by
   rcases Pj with⟨_,e⟩|e
   ·rw[e]at bW;simp at bW
   ·exact e
  have hrr:=iE.rows (rowOf (aP X mi os) l l[p]);have h2r:2≤(rowOf (aP X mi os) l l[p]).length*2-j*2:=by omega
  have t0:(eT (ci,q))[0]?=some (I (ci:Int)):=rfl;have t0':(eT (ci,q)).head?=some (I (ci:Int)):=rfl;have t1:(eT (ci,q))[1]?=some (I (q:Int)):=rfl;have te:eT (ci,q)=[I (ci:Int),I (q:Int)]:=rfl;have s3:=kTSu bY;have e03:=e02.trans e3;have F3:=F.ext e03;have G3:=(G19.ext e2).ext e3;have GB3:=(GB.ext e2).ext e3;have e4:=E0 h3 bY (.cells [I (ci:Int)] .fix);have hol:(Au pre).length=pre.length:=List.length_map ..;obtain⟨Wi,h5,r9,Wj,ha,G5,F5⟩:=(G3.ext e4).As FO (by decide) (by decide) (by omega) (ci:Int);have F35:=(nR.iT e4 o19).trans F5;have hej:eI (ci:Int)=[I (ci:Int)]:=rfl;rw[hej]at ha;have n35:=F35.n;have n03:=e03.n;have aQH:∀b:Key,o19=some b→b.toNat<bY.toNat:=fun b hb=>G3.lt b hb;have ank:∀b,Wj=some b→nx0.toNat≤b.toNat∧b≠b14∧b≠bg:=fun b hb=>by
   rcases F35.o with e|⟨y,e,hy⟩
   ·rw[e]at hb;exact abN b hb
   ·rw[e]at hb;cases hb;have h1:=GB3.2.2.1;have h2:=GB3.2.2.2;exact⟨by omega,fun e=>by rw[e]at hy;omega,fun e=>by rw[e]at hy;omega⟩
  have e05:Ext h0 nx0 h5 r9:=⟨by omega,fun b hb=>by rw[F35.g b (by omega) (fun e=>by have:=(abN b e).1;omega)];exact e03.g b hb⟩
  have F5':=F.ext e05;have GB5:GdB b14 bg (dH (aP X mi os) l 0) h5 r9:=by obtain⟨q1,q2,q3,q4⟩:=GB3;exact⟨by rw[F35.g b14 q3 (fun e=>(abN b14 e).2.1 rfl)];exact q1,by rw[F35.g bg q4 (fun e=>(abN bg e).2.2 rfl)];exact q2,by omega,by omega⟩
  simp;simp[-appendTo,↓F3.S.ix1 hpc,Ge,g13,g19,g20,F3.vr,anj,bW,hrr,h2r,EK,te,ha];simp[↓F5'.S.ix1 hpc,Gf,g13,g20,F5'.vr,anj,bW,hrr,h2r,EK,te];obtain⟨hql,hqc⟩:=List.getElem?_eq_some_iff.1 hq1;have aF7:j0 (aP X mi os) l q=true:=by unfold j0;rw[hq1];exact hgq
  have hor:Au (pre ++ [ci])=Au pre ++ [(ci:Int)]:=by unfold Au;rw[List.map_append];rfl
  refine⟨l.length-q,by omega,q,pre ++ [ci],Wi,Wj,rfl,hql,aF7,by simp;omega,?_,?_,by simp[g11],by simp[g13],by simp[g14],by simp,by simp,by rw[hor];exact G5,ank,GB5,e05⟩
  ·intro r c hc hr;have NM:c=c':=by rw[hq1]at hc;exact(Option.some.inj hc).symm
   subst NM;obtain⟨c0,z1,z2⟩:=aus (ci ::r) l[p] hcp (hpp r hr);exact⟨c0,z1,by simpa using z2⟩
  ·repeat' (first|exact hKp|refine Kpt.set ?_ (by decide))
end Ln
namespace Ln
open Go.Sx Go
variable{C:bQ}{X:Kn}(S:Std C X)
include S
end Ln
namespace Ln
open Go.Sx Go
def am7(X:Kn)(i:Nat)(l:List Ev)(h:T ah)(nx:Key)(o:Out)(h':T ah)(nx':Key):Prop:=Ext h nx h' nx'∧
 ((mh i l≠0∧o=.ret (.tuple [.nils,.agg [.nils],I (mh i l)]))∨
  (mh i l=0∧((S8 (aP X i (cT 0 l)) 1025 0 [(0,cX i)]=none∧o=.ret (.tuple [.nils,.agg [.nils],I 4]))∨
   ∃L,S8 (aP X i (cT 0 l)) 1025 0 [(0,cX i)]=some L∧Kept (aP X i (cT 0 l)) L.length L∧(∀y∈L,iz i y.2)∧((∃p cR,Path (aP X i (cT 0 l)) (0,cX i) p∧gI 1 eI cR (Au p)∧o=.ret (.tuple [cR,.agg [.nils],I 0]))∨
    (¬Good (aP X i (cT 0 l)) (0,cX i)∧∃cR,gI 5 eC cR (mj L)∧o=.ret (.tuple [.nils,.agg [cR],I 0]))))))
theorem afb(S:Sys St)(l:List (Cf St)):OY l.length [AV.bool false] []=fQ (dH S l l.length):=by rw[afc,repL_eq,List.append_nil];unfold fQ;rw[List.map_replicate];simp
variable{C:bQ}{X:Kn}(S:Std C X)(H:OU C)
include S H
theorem am8{i:Nat}(hi:i<3){ev:AV}{l:List Ev}(hv:gI 8 eE ev l)(hl:Wc l)(yv:bu [] l=0→∀o∈cT 0 l,before o o=false){h:T ah}{nx:Key} :
  aG C jF [X.m,ft i,ev,iU] h nx (am7 X i l h nx):=by
 have s1:=kTSu nx;have s2:=kTSu nx.succ;have s3:=kTSu nx.succ.succ;have rb:C.raw iF=false:=S.nr (by decide);have rE:C.raw eW=false:=S.nr (by decide);have rC:C.raw dI=false:=S.nr (by decide);have rS:C.raw cU=true:=S.rw (by decide);have hz:∀H,aM 9999 ev H=(ev,H):=fun H=>hv.r7 _ _;have yN:(cT 0 l).length≤16:=by have:=yO l 0;have:=hl.len;omega
 refine S.BX.call ?_;simp[A8];simp[zp,Kn.m,iU];have e2:=((E0 h nx (.cells [.sl X.rows 7 45 .any] .fix)).trans (E0 _ nx.succ (.cells [I 200,I 50] .fix))).trans (E0 _ nx.succ.succ (.cells [.nils] .fix));have NK:ae nx (aw nx.succ.succ (some (.cells [.nils] .fix)) (aw nx.succ (some (.cells [I 200,I 50] .fix)) (aw nx (some (.cells [.sl X.rows 7 45 .any] .fix)) h)))=some (.cells [.sl X.rows 7 45 .any] .fix):=by rw[ax (by omega),ax (by omega)];simp
 have bl2:ae nx.succ (aw nx.succ.succ (some (.cells [.nils] .fix)) (aw nx.succ (some (.cells [I 200,I 50] .fix)) (aw nx (some (.cells [.sl X.rows 7 45 .any] .fix)) h)))=some (.cells [I 200,I 50] .fix):=by rw[ax (by omega)];simp
 have b92:ae nx.succ.succ (aw nx.succ.succ (some (.cells [.nils] .fix)) (aw nx.succ (some (.cells [I 200,I 50] .fix)) (aw nx (some (.cells [.sl X.rows 7 45 .any] .fix)) h)))=some (.cells [.nils] .fix):=by simp
 generalize aw nx.succ.succ (some (.cells [.nils] .fix)) (aw nx.succ (some (.cells [I 200,I 50] .fix)) (aw nx (some (.cells [.sl X.rows 7 45 .any] .fix)) h))=h2 at *;simp[zq,NK,bl2,rb,hz];refine(am9 S hi hv hl).mono ?_;rintro o h3 bY ⟨e3,hR⟩;have Iy:=e2.trans e3;have n3:=e3.n;have b93:ae nx.succ.succ h3=some (.cells [.nils] .fix):=by rw[e3.g _ (by omega)];exact b92
 rcases hR with⟨bX,rfl⟩|⟨Mx,bj,cO,rfl,RZ,hc,bj0,bjn⟩
 ·simp;simp[sA,bq bX];simp[zr,b93];exact⟨Iy.put (by omega),.inl ⟨bX,rfl⟩⟩
 ·obtain⟨Mw,tC⟩:=QQ Mx;have hbo:=yv Mw;simp;simp[sA];simp[IA,rE];refine(afd S H hi tC hbo yN hc RZ bjn).mono ?_;rintro o h4 jZ ⟨e4,hR⟩;have ZD:=Iy.trans e4;have n4:=e4.n;have b94:ae nx.succ.succ h4=some (.cells [.nils] .fix):=by rw[e4.g _ (by omega)];exact b93
  have bj4:ae bj h4=some (.cells (jB X i cO (cX i) (jE (cT 0 l) (cT 0 l).length)) .fix):=by rw[e4.g bj bjn];exact RZ
  rcases hR with⟨qx,rfl⟩|⟨L,br,cC,cS,cs,qx,rfl,kp,h0,BL,G⟩
  ·simp;simp[zt];simp[IB,b94];exact⟨ZD.put (by omega),.inr ⟨Mx,.inl ⟨qx,rfl⟩⟩⟩
  ·simp;simp[zt];obtain⟨bm,oC,E,R⟩:=G.R;obtain⟨oS,GS⟩:=G.B;have F:FdH X i (cT 0 l) cO L bj br bm cC cS cs h4 jZ:=⟨bj4,R.lW,R.C.rd,GS.rd,⟨by omega,R.brn⟩,G.csl,G.row⟩;have hL:=kp.len;have hL0:0<L.length:=(List.getElem?_eq_some_iff.1 h0).1;have hLc:L.length≤1048576:=by omega
   have t1:=kTSu jZ;have t2:=kTSu jZ.succ;have hRC:=F.C;simp[↓hRC.ln,IC,R.lW,hLc,-repL_eq];rw[afb (aP X i (cT 0 l)) L];have e5:=(E0 h4 jZ (.cells (fQ (dH (aP X i (cT 0 l)) L L.length)) .fix)).trans (E0 _ jZ.succ (.cells [.slice jZ 0 L.length 1] .fix));have vg:ae jZ (aw jZ.succ (some (.cells [.slice jZ 0 L.length 1] .fix)) (aw jZ (some (.cells (fQ (dH (aP X i (cT 0 l)) L L.length)) .fix)) h4))=some (.cells (fQ (dH (aP X i (cT 0 l)) L L.length)) .fix):=by rw[ax (by omega)];simp
   have v14:ae jZ.succ (aw jZ.succ (some (.cells [.slice jZ 0 L.length 1] .fix)) (aw jZ (some (.cells (fQ (dH (aP X i (cT 0 l)) L L.length)) .fix)) h4))=some (.cells [.slice jZ 0 L.length 1] .fix):=by simp
   generalize aw jZ.succ (some (.cells [.slice jZ 0 L.length 1] .fix)) (aw jZ (some (.cells (fQ (dH (aP X i (cT 0 l)) L L.length)) .fix)) h4)=h5 at *;have F5:=F.ext e5;have aFS:=F5.C;have hw1:aW .i64 ((L.length:Int)-1)=(L.length:Int)-1:=aB (by omega) (by omega);simp[↓aFS.ln,ID,F5.vr,hw1];refine aj6 S yN kp F (b14:=jZ.succ) (bg:=jZ) (by omega) (fun e=>by have:=congrArg Key.toNat e;omega) (m:=L.length) ⟨L.length,rfl,fg _,Kpt.refl _,by simp,by simp,by simp,by simp,v14,vg,by omega,by omega,e5⟩ ?_;intro ay h6 Cv hKp Qf q13 OE w14 wg aeV bgn e6;have q9:=hKp (K 9) (.inr (.inl rfl));simp at q9;have e26:=ZD.trans e6;have n6:=e6.n;have b96:ae nx.succ.succ h6=some (.cells [.nils] .fix):=by rw[e6.g _ (by omega)];exact b94
   have QG:(fQ (dH (aP X i (cT 0 l)) L 0)).length=L.length:=by rw[JC,rj]
   have hg0:∀hh,(fQ (dH (aP X i (cT 0 l)) L 0))[0]'hh=.bool (sB (aP X i (cT 0 l)) (0,cX i)):=fun hh=>by
    have cD:0<(dH (aP X i (cT 0 l)) L 0).length:=by rw[rj];exact hL0
    have h1:=JD cD;rw[yT hh]at h1;rw[Option.some.inj h1];have h2:=Pr (S:=aP X i (cT 0 l)) (l:=L) (a:=0) hL0;rw[List.getD_eq_getElem?_getD,yT cD]at h2;have h3:j0 (aP X i (cT 0 l)) L 0=sB (aP X i (cT 0 l)) (0,cX i):=by unfold j0;rw[h0]
    rw[h3]at h2;simpa using h2
   simp;simp[FU,OE,w14,wg,hL0,QG,hg0];refine⟨fun hgf=>?_,fun QL=>?_⟩
   ·have t3:=kTSu Cv;have hk3:∀y∈L,y.2.kids.length≤3:=fun y hy=>Ic (BL y hy);have GC6:=R.C.ext e6;obtain⟨hiC,My⟩:=Gr.xN eJ GC6 9998;have F6:=F.ext e6;have aAT:∀b,oC=some b→bY.toNat≤b.toNat:=fun b hb=>(R.ow b (.inl hb)).2.2;simp[FV,q13,F6.vr,rC];generalize hcC:(aM 9999 cC h6).1=cC' at *;generalize hh7:(aM 9999 cC h6).2=h7 at *;refine(anb S hL0 hL hk3 hiC (h:=h7) (nx:=Cv)).mono ?_;rintro o h8 Tc ⟨rfl,vn,vlt,e8⟩;have t4:=kTSu Tc;have n8:=e8.n;simp;have b97:ae nx.succ.succ h7=some (.cells [.nils] .fix):=by rw[My _ (fun e=>by have:=aAT _ e;omega)];exact b96
    have b98:ae nx.succ.succ h8=some (.cells [.nils] .fix):=by rw[e8.g _ (by omega)];exact b97
    have low:∀b:Key,b.toNat<nx.toNat→ae b h8=ae b h:=fun b hb=>by rw[e8.g b (by omega),My b (fun e=>by have:=aAT _ e;omega)];exact e26.g b hb
    have v18:ae Tc (aw Tc (some (.cells [.slice Cv 0 L.length 5] .fix)) h8)=some (.cells [.slice Cv 0 L.length 5] .fix):=by simp
    have vn9:ae Cv (aw Tc (some (.cells [.slice Cv 0 L.length 5] .fix)) h8)=some (.cells (ag eC L) .fix):=by rw[ax (by omega)];exact vn
    have b99:ae nx.succ.succ (aw Tc (some (.cells [.slice Cv 0 L.length 5] .fix)) h8)=some (.cells [.nils] .fix):=by rw[ax (by omega)];exact b98
    have aFU:∀b:Key,b.toNat<nx.toNat→ae b (aw Tc (some (.cells [.slice Cv 0 L.length 5] .fix)) h8)=ae b h:=fun b hb=>by rw[ax (by omega)];exact low b hb
    generalize aw Tc (some (.cells [.slice Cv 0 L.length 5] .fix)) h8=h9 at *;simp[FX,v18,rS];refine .inl ⟨_,_,_,H.anc L Cv h9 Tc.succ hk3 kp.nodup hL vn9,?_⟩;simp;have n68:Tc≠Cv:=fun e=>by rw[e]at vlt;omega
    have n62:nx.succ.succ≠Cv:=fun e=>by rw[←e]at n6;omega
    have v182:ae Tc (aw Cv (some (.cells (ag eC (mj L)) .fix)) h9)=some (.cells [.slice Cv 0 L.length 5] .fix):=by rw[aU _ _ _ _ n68];exact v18
    have b9a:ae nx.succ.succ (aw Cv (some (.cells (ag eC (mj L)) .fix)) h9)=some (.cells [.nils] .fix):=by rw[aU _ _ _ _ n62];exact b99
    have vna:ae Cv (aw Cv (some (.cells (ag eC (mj L)) .fix)) h9)=some (.cells (ag eC (mj L)) .fix):=by simp
    have aFV:∀b:Key,b.toNat<nx.toNat→ae b (aw Cv (some (.cells (ag eC (mj L)) .fix)) h9)=ae b h:=fun b hb=>by rw[ax (by omega)];exact aFU b hb
    generalize aw Cv (some (.cells (ag eC (mj L)) .fix)) h9=ha at *;have hsl:(mj L).length=L.length:=by unfold mj;rw[List.length_mergeSort]
    have hrw:(ag eC (mj L)).length=L.length*5:=by rw[eJ.rows,hsl]
    have vnb:∀B,ae Cv (aw nx.succ.succ B ha)=some (.cells (ag eC (mj L)) .fix):=fun B=>by rw[aU _ _ _ _ (Ne.symm n62)];exact vna
    simp[FY,v182,b9a,q9];have hz:=AP (n:=9997) (b:=Cv) (len:=L.length) (sz:=5) (H:=aw nx.succ.succ (some (.cells [.slice Cv 0 L.length 5] .fix)) ha) (vnb _) hrw (eJ.yo _);rw[hz];refine⟨⟨by omega,fun b hb=>?_⟩,.inr ⟨Mx,.inr ⟨L,qx,kp,BL,.inr ⟨Yf.1 hgf,_,.inr (by rw[hsl]),rfl⟩⟩⟩⟩;show ae b (aw Cv _ (aw nx.succ.succ _ ha))=ae b h;rw[ax (by omega),ax (by omega)];exact aFV b hb
   ·have t3:=kTSu Cv;have aFW:j0 (aP X i (cT 0 l)) L 0=true:=by unfold j0;rw[h0];exact QL
    simp[FZ];have e7:=E0 h6 Cv (.cells [] .fix);have v19:ae Cv (aw Cv (some (.cells [] .fix)) h6)=some (.cells [] .fix):=by simp
    generalize aw Cv (some (.cells [] .fix)) h6=h7 at *;have e47:=e6.trans e7;have GB:GdB jZ.succ jZ (dH (aP X i (cT 0 l)) L 0) h7 Cv.succ:=by refine⟨by rw[e7.g _ aeV,rj];exact w14,by rw[e7.g _ bgn];exact wg,by omega,by omega⟩
    simp[Ga];refine afe S yN kp F (b14:=jZ.succ) (bg:=jZ) (by omega) (m:=L.length) ⟨0,[],.slice Cv 0 0 1,some Cv,by simp,hL0,aFW,by simp,fun r c hc hr=>⟨c,hc,by simpa using hr⟩,Kpt.refl _,by simp[Qf],by simp[q13],by simp[OE],by simp,by simp,.inr (.inl ⟨Cv,.fix,rfl,rfl,v19,by omega,rfl,.inr rfl⟩),fun b hb=>by cases hb;exact⟨by omega,fun e=>by rw[e]at aeV;omega,fun e=>by rw[e]at bgn;omega⟩,GB,e47⟩ ?_;intro tm8 h8 Tc pre c19 o19 hP hK8 g19 G19 abN e8;have p9:=hK8 (K 9) (.inr (.inl rfl));simp[q9]at p9;obtain⟨c0',z1,z2⟩:=hP;have aFX:c0'=(0,cX i):=by rw[h0]at z1;exact(Option.some.inj z1).symm
    subst aFX;have b98:ae nx.succ.succ h8=some (.cells [.nils] .fix):=by rw[e8.g _ (by omega)];exact b94
    simp;simp[Gb,p9,g19,b98];have n8:=e8.n;have G20:Gr 1 c19 (ag eI (Au pre)) (Au pre).length (aw nx.succ.succ (some (.cells [.nils] .fix)) h8) Tc o19:=G19.cF (fg _) fun b hb=>aU _ _ _ _ (fun e=>by have:=abN b hb;rw[e]at this;omega);obtain⟨aFY,aFZ⟩:=Gr.xN FO G20 9998;refine⟨⟨by omega,fun b hb=>?_⟩,.inr ⟨Mx,.inr ⟨L,qx,kp,BL,.inl ⟨pre,_,z2,aFY,rfl⟩⟩⟩⟩;rw[aFZ b (fun e=>by have:=abN b e;omega),ax (by omega),e8.g b (by omega)];exact ZD.g b hb
end Ln
