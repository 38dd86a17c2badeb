/- A part of the proof. No condition. -/
import Derived.Test.YtecbfpngkfdkoaaGreatP39
import Derived.Test.YtecbfpngkfdkoaaGreatP7
import Derived.Lib.LaidTab
set_option linter.unusedSimpArgs false
set_option linter.unusedVariables false
set_option linter.unusedSectionVars false
namespace Ln
open Go.Sx Go
inductive SX(mi:Nat):List Ev→GS→Prop
 |nil (g:GS) (h:g.o=fun _=>false):SX mi [] g
 |snoc {l:List Ev} {g g':GS} {x:Ev} (h:SX mi l g) (s:amu mi g x g'):SX mi (l ++ [x]) g'
theorem amu.few{mi:Nat}{g g':GS}{x:Ev}(s:amu mi g x g'):x.args.length≤1∧0≤x.client∧x.client≤3:=by
 cases s with
 |lost h _=>subst h;simp
 |ends c r hc _ h _=>subst h;simp;omega
 |begins c cmd aZZ hc _ _ ha _ h _=>
  subst h
  have:cmd.ar≤1:=by cases cmd<;>decide
  refine⟨?_,?_,?_⟩
  ·show aZZ.length≤1;omega
  ·show(0:Int)≤c;omega
  ·show(c:Int)≤3;omega
theorem SX.few{mi:Nat}{l:List Ev}{g:GS}(h:SX mi l g):∀ x∈l,x.args.length≤1∧0≤x.client∧x.client≤3:=by
 induction h with
 |nil g h=>intro x hx;cases hx
 |snoc h s ih=>
  intro x hx
  rcases List.mem_append.1 hx with hx|hx
  ·exact ih x hx
  ·simp at hx;subst hx;exact s.few
theorem SX.aEQ{mi:Nat}{l:List Ev}{g:GS}(h:SX mi l g)(hl:l.length≤16):Tu l:=⟨hl,fun x hx=>Nat.le_trans (h.few x hx).1 (by omega),fun x hx=>(h.few x hx).2⟩
theorem _root_.Go.Sx.Rd.ixI{c:AV}{us:List Int}{h:T ah}{nx:Key}(g:Rd 1 c (ai eI us) us.length h nx){i:Nat}(hi:i<us.length){C:dm}{Q:cX}{L:List J}{tm:T AV}{n2 k1 k2 d1 d2:Key}(h1:aa k1 tm=some c)(h2:aa k2 tm=some (I i)) :
  mF C Q (⟨some d1,.indexL 1 (.t k1) (.t k2),none⟩ ::⟨some d2,.load false 1 (.t d1),none⟩ ::L) tm h n2=mF C Q L (av d2 (some (I us[i])) (av d1 (some (KB 1 i c)) tm)) h n2:=by
 have Ty:(ai eI us).length=us.length:=bU _
 have hd:=jb hi
 have tl:1≤us.length-i:=by omega
 rcases g with⟨_,_,e⟩|⟨f,rfl⟩|⟨b,k,rfl,hb,_,_⟩
 ·omega
 ·simp[h1,h2,hi,Ty,hd,tl,KB]
 ·simp[h1,h2,hi,Ty,KB,hb]
variable{C:dm}{X:Kn}(S:Std C X)
include S
theorem at6{bg n0:Key}{mi:Nat}{l:List Ev}{g:GS}{k:Nat}{cL cQ:AV}{oL oQ:Option Key}{h:T ah}{nx:Key}(G:tE bg n0 (jg mi) l g k cL cQ oL oQ h nx)(hi:mi<3)(hl:l.length≤100)(hk:k≤100)(hn:n0.toNat≤nx.toNat){kk:Nat}(qq:kk<1000000) :
  aO C jT [.ptr bg 0,I kk] h nx (Tz bg n0 mi l g k h nx):=by
 have hb:=G.nM
 have hm3:Int.tmod (kk:Int) 3=((kk%3:Nat):Int):=rfl
 have hw3:bV .i64 ((kk%3:Nat):Int)=((kk%3:Nat):Int):=au (by omega) (by omega)
 have hd3:Int.tdiv (kk:Int) 3=((kk / 3:Nat):Int):=rfl
 have hv3:bV .i64 ((kk / 3:Nat):Int)=((kk / 3:Nat):Int):=au (by omega) (by omega)
 have aE1:Int.tmod ((kk / 3:Nat):Int) 17=((kk / 3%17:Nat):Int):=rfl
 have aE2:bV .i64 ((kk / 3%17:Nat):Int)=((kk / 3%17:Nat):Int):=au (by omega) (by omega)
 have hc:kk%3=0∨kk%3=1∨kk%3=2:=by omega
 generalize kk / 3%17=e17 at *
 generalize kk / 3=e3 at *
 generalize kk%3=c at *
 refine S.Ct.call ?_
 simp[ze]
 simp[Ae,hm3,hw3]
 by_cases h16:e17=16
 ·have aBh:((e17:Int)==16)=true:=bt (by omega)
  have key:=fun tm2 a=>apA S G hl hn (tm:=tm2) a (Q:=aq (dz C (.seq (.seq (.ops dN) (.cond (.t (K 34)) (.seq (.seq (.ops db) (.cond (.t (K 40)) (.ops fJ) .skip)) (.seq (.ops dc) (.seq (.seq (.ops bP) (.cond (.t (K 53)) (.ops dd) .skip)) (.seq (.staged bD ⟨[K 56,K 57,K 58,K 59,K 60,K 61,K 62,K 63,K 64,K 65,K 66,K 67,K 68],[]⟩) (.seq (.ops bE) .ret))))) .skip)) (.seq (.ops eT) (.seq (.ops eV) (.seq (.seq (.ops dw) (.cond (.t (K 82)) (.ops eW) .skip)) (.seq (.seq (.ops dx) (.cond (.t (K 88)) (.ops eX) .skip)) (.seq (.ops ct) (.seq (.ops bG) (.seq (.staged bH ⟨[K 105,K 106,K 107,K 108,K 109,K 110,K 111],[]⟩) (.seq (.seq (.ops bF) (.cond (.t (K 124)) (.ops br) .skip)) (.seq (.staged aU ⟨[K 134,K 135,K 136,K 137,K 138,K 139,K 140,K 141,K 142,K 143],[]⟩) (.seq (.ops aV) (.seq (.ops aW) (.seq (.ops aJ) (.cond (.t (K 162)) (.ops aX) .skip)))))))))))))) (bb [] (Tz bg n0 mi l g k h nx))) (bb [] (Tz bg n0 mi l g k h nx))) (fun _ _ _ hq=>hq)
  simp only[aL,aQ] at key
  simp[rZ,hd3,hv3,aE1,aE2,aBh]
  refine key _ ?_
  simp
 ·have aBh:((e17:Int)==16)=false:=bq (by omega)
  simp[rZ,hd3,hv3,aE1,aE2,aBh]
  have wQ:∀ an h' nx',bb [] (Tz bg n0 mi l g k h nx) .ret an h' nx'→aq (dz C (.seq (.ops eT) (.seq (.ops eV) (.seq (.seq (.ops dw) (.cond (.t (K 82)) (.ops eW) .skip)) (.seq (.seq (.ops dx) (.cond (.t (K 88)) (.ops eX) .skip)) (.seq (.ops ct) (.seq (.ops bG) (.seq (.staged bH ⟨[K 105,K 106,K 107,K 108,K 109,K 110,K 111],[]⟩) (.seq (.seq (.ops bF) (.cond (.t (K 124)) (.ops br) .skip)) (.seq (.staged aU ⟨[K 134,K 135,K 136,K 137,K 138,K 139,K 140,K 141,K 142,K 143],[]⟩) (.seq (.ops aV) (.seq (.ops aW) (.seq (.ops aJ) (.cond (.t (K 162)) (.ops aX) .skip))))))))))))) (bb [] (Tz bg n0 mi l g k h nx))) (bb [] (Tz bg n0 mi l g k h nx)) .ret an h' nx':=fun _ _ _ hq=>hq
  cases ho:g.o c with
  |true=>
   have key:=fun tm2 a b d=>apB S G hl hk hn qq hc ho (tm:=tm2) (Q:=aq (dz C (.seq (.ops eT) (.seq (.ops eV) (.seq (.seq (.ops dw) (.cond (.t (K 82)) (.ops eW) .skip)) (.seq (.seq (.ops dx) (.cond (.t (K 88)) (.ops eX) .skip)) (.seq (.ops ct) (.seq (.ops bG) (.seq (.staged bH ⟨[K 105,K 106,K 107,K 108,K 109,K 110,K 111],[]⟩) (.seq (.seq (.ops bF) (.cond (.t (K 124)) (.ops br) .skip)) (.seq (.staged aU ⟨[K 134,K 135,K 136,K 137,K 138,K 139,K 140,K 141,K 142,K 143],[]⟩) (.seq (.ops aV) (.seq (.ops aW) (.seq (.ops aJ) (.cond (.t (K 162)) (.ops aX) .skip))))))))))))) (bb [] (Tz bg n0 mi l g k h nx))) (bb [] (Tz bg n0 mi l g k h nx))) a b d wQ
   simp only[aL,aQ,dF,aM] at key
   clear wQ
   rcases hc with rfl|rfl|rfl
   ·simp[dN,hb,gB,ho]
    refine key _ ?_ ?_ ?_<;>simp
   ·simp[dN,hb,gB,ho]
    refine key _ ?_ ?_ ?_<;>simp
   ·simp[dN,hb,gB,ho]
    refine key _ ?_ ?_ ?_<;>simp
  |false=>
   have key:=fun tm2 a b d=>aiq S G hi hl hk hn qq hc ho (tm:=tm2) a b d
   simp only[aL,aQ,dF,aM] at key
   rcases hc with rfl|rfl|rfl
   ·simp[dN,hb,gB,ho]
    refine key _ ?_ ?_ ?_<;>simp
   ·simp[dN,hb,gB,ho]
    refine key _ ?_ ?_ ?_<;>simp
   ·simp[dN,hb,gB,ho]
    refine key _ ?_ ?_ ?_<;>simp
def aK9(mi:Nat)(n most:Nat)(c1:AV)(bg:Key)(h:T ah)(nx:Key)(m:Nat)(an:T AV)(h':T ah)(nx':Key):Prop:=∃ (j:Nat) (l:List Ev) (g:GS) (cL cQ:AV) (oL oQ:Option Key),m=most-j∧j≤most∧j≤n∧l.length=j∧aa (K 1) an=some c1∧aa (K 2) an=some (I most)∧aa (K 7) an=some (.ptr bg 0)∧aa (K 8) an=some (I j)∧tE bg nx (jg mi) l g j cL cQ oL oQ h' nx'∧SX mi l g∧Old nx h nx h' nx'
def aE4(mi most:Nat)(h:T ah)(nx:Key)(o:Out)(h':T ah)(nx':Key):Prop:=∃ cR l g,o=.ret cR∧iD 8 eE cR l∧l.length≤most∧SX mi l g∧Ext h nx h' nx'
theorem alU{mi:Nat}(hi:mi<3){ks:List Int}(K9:∀ x∈ks,td x){c1:AV}(hc:iD 1 eI c1 ks){most:Nat}(hm:most≤16){h:T ah}{nx:Key}:aO C iR [dE mi,c1,I most] h nx (aE4 mi most h nx):=by
 have rA:C.raw cM=false:=S.nr (by decide)
 have rG:C.raw jT=false:=S.nr (by decide)
 have s1:=kTSu nx
 refine S.z6.call ?_
 simp[wF]
 simp[x7]
 simp[x8]
 simp[x9]
 have G0:tE nx nx (jg mi) [] ⟨0,fun _=>0,fun _=>false,fun _=>false,fun _=>0,fun _=>(0,0)⟩ 0 .nils .nils none none (av nx (some (.cells (gB (jg mi) .nils .nils ⟨0,fun _=>0,fun _=>false,fun _=>false,fun _=>0,fun _=>(0,0)⟩) .fix)) h) nx.succ:=⟨by simp,Gr.nil _ _ _,⟨0,fe _,.inl ⟨rfl,rfl,rfl⟩⟩,fe _,by omega,(fun b hb=>by cases hb),(fun b hb=>by cases hb)⟩
 have e0:=E0 h nx (.cells (gB (jg mi) .nils .nils ⟨0,fun _=>0,fun _=>false,fun _=>false,fun _=>0,fun _=>(0,0)⟩) .fix)
 simp[gB] at G0 e0
 refine W.di (n:=most) (aK9 mi ks.length most c1 nx h nx) ⟨0,[],_,_,_,_,_,by simp,by omega,by omega,rfl,by simp,by simp,by simp,by simp,G0,.nil _ rfl,by omega,fun b hb=>e0.g b hb⟩ ?_
 rintro m cu h1 bM ⟨j,l,g,cL,cQ,oL,oQ,rfl,hjm,hjn,hlj,g1,g2,g7,g8,G,hr,O⟩
 have nO:=O.n
 refine W.of ?_
 simp[ya]
 have hR:Rd 1 c1 (ai eI ks) ks.length h1 bM:=hc.rd _ _
 have fin:∀ tm2:T AV,aa (K 7) tm2=some (.ptr nx 0)→dz C (.seq (.ops pB) .ret) (bb [.tmp (K 6)] (aE4 mi most h nx)) tm2 h1 bM:=by
  intro tm2 q7
  have fr:=G.L.I1 ew 9998
  have hb:=G.nM
  simp
  simp[pB,q7,hb,gB]
  refine⟨_,l,g,rfl,fr.1,by omega,hr,by omega,fun b hb=>?_⟩
  rw[fr.2 b (fun e=>by have:=(G.lo b e).1;omega)]
  exact O.g b hb
 simp only[aL,aQ] at fin
 by_cases aR:j<ks.length
 ·have sB:(j:Int)<ks.length:=by omega
  by_cases aRI:j<most
  ·have aLb:(j:Int)<most:=by omega
   have hx:=K9 _ (JW aR)
   have bN:=Se (m:=1000000) (by omega) ks[j]
   have Pa:=CY S hx (m:=1000000) (by omega) (by omega) (h:=h1) (nx:=bM)
   simp[↓hR.ln,kr,g1,g2,g8,sB,aLb]
   simp at Pa
   simp[↓hR.ixI aR,yb,g1,g7,g8,rA]
   refine Pa.mono ?_
   rintro o h2 aI ⟨rfl,rfl,rfl⟩
   simp[rG]
   refine(at6 S G hi (by omega) (by omega) nO bN).mono ?_
   rintro o h3 bu ⟨rfl,x,g',cL',A7,oL',EG,G3,O3,st⟩
   simp
   simp[yc,g8]
   rw[au (by omega) (by omega)]
   exact⟨most-(j+1),by omega,j+1,l ++ [x],g',cL',A7,oL',EG,rfl,by omega,by omega,by simp[hlj],by simp[g1],by simp[g2],by simp[g7],by simp,G3,hr.snoc st,O.trans O3⟩
  ·have nS:j=most:=by omega
   subst nS
   simp[↓hR.ln,kr,g1,g2,g8,sB]
   refine fin _ ?_
   simp[g7]
 ·have nS:j=ks.length:=by omega
  subst nS
  simp[↓hR.ln,kr,g1,g2,g8]
  refine fin _ ?_
  simp[g7]
end Ln
/-
 LN: the law of Check: its end. No condition.
-/
namespace Ln
open Go.Sx Go
theorem aqL{n:Int}(h:td n):td (bV .i64 (n+1)):=by
 obtain⟨h1,h2⟩:=h
 by_cases e:n+1<9223372036854775808
 ·rw[au (by omega) e];exact⟨by omega,e⟩
 ·have:n=9223372036854775807:=by omega
  subst this
  have:bV .i64 (9223372036854775807+1)=-9223372036854775808:=by decide
  rw[this]
  exact⟨by omega,by omega⟩
theorem Rd.ord{c:AV}{l:List Int}{h:T ah}{nx:Key}(g:Rd 1 c (ai eI l) l.length h nx):Ord c l l.length h nx:=by
 refine⟨fe _,?_⟩
 rcases g with⟨e,_,e2⟩|⟨f,e⟩|⟨b,k,e,hb,hl,_⟩
 ·exact .inl ⟨e,e2⟩
 ·exact .inr (.inl ⟨f,by rw[List.take_length];exact e⟩)
 ·exact .inr (.inr ⟨b,k,e,hb,hl⟩)
theorem R1(n:Int):nmI n<3:=Se (by omega) n
structure LwS(X:Kn)(bm:Key)(n:Int)(ev cF:AV)(tm:T AV)(h:T ah)(nx:Key):Prop where
 q1:aa (K 1) tm=some (I n)
 q9:aa (K 9) tm=some (.ptr bm 0)
 A9:aa (K 10) tm=some ev
 DL:aa (K 11) tm=some cF
 mb:aa bm h=some (.cells [.sl X.rows 7 45 .any] .fix)
 bn:bm.toNat<nx.toNat
variable{C:dm}{X:Kn}(S:Std C X)
include S
theorem axl(hX:AV.beq X.m X.m=true){bm:Key}{n:Int}(hn:td n){ev cF:AV}{l:List Ev}(hv:iD 8 eE ev l)(hl:Tu l){ord:List Int}(ho:ord.length≤1000)(hF:iD 1 eI cF ord){tm:T AV}{h hB:T ah}{nx nxB:Key}(A:LwS X bm n ev cF tm h nx)(eB:Ext hB nxB h nx) :
  dz C (.seq (.staged bO ⟨[K 124,K 125,K 126,K 127,K 128,K 129,K 130,K 131,K 132,K 133,K 134,K 135,K 136,K 137,K 138,K 139,K 140,K 141,K 142,K 143,K 144,K 8],[]⟩) .ret) (bb [.tmp (K 8)] fun o h' nx'=>o=.ret (.bool true)∧Ext hB nxB h' nx') tm h nx:=by
 obtain⟨q1,q9,A9,DL,MQ,bn⟩:=A
 have rn:C.raw de=false:=S.nr (by decide)
 have re:C.raw fm=false:=S.nr (by decide)
 have rl:C.raw cJ=false:=S.nr (by decide)
 have rc:C.raw fo=true:=S.rw (by decide)
 have rk:C.raw gz=true:=S.rw (by decide)
 have rv:C.raw wM=false:=S.nr (by decide)
 have hn1:=aqL hn
 have hvz:∀ H,aY 9999 ev H=(ev,H):=fun H=>hv.Fl _ _
 have hmi:=R1 (bV .i64 (n+1))
 simp[Kn.m] at hX
 simp
 simp[bO,q1,q9,A9,DL,MQ,rn]
 refine(CW S hn1).mono ?_
 rintro o h1 bM ⟨rfl,e1⟩
 have b1:aa bm h1=some (.cells [.sl X.rows 7 45 .any] .fix):=by rw[e1.g bm bn];exact MQ
 simp[q9,b1,hX,re,hvz]
 have ajw:l.length≤1000:=by have:=hl.len;omega
 refine(Qj S ajw hv).mono ?_
 rintro o h2 aI ⟨cE,rfl,hE,e2⟩
 have TG:=e1.trans e2
 have b2:aa bm h2=some (.cells [.sl X.rows 7 45 .any] .fix):=by rw[TG.g bm bn];exact MQ
 simp[q9,b2,hX,rl]
 refine(xf S).mono ?_
 rintro o h3 bu ⟨rfl,e3⟩
 have e13:=TG.trans e3
 have b3:aa bm h3=some (.cells [.sl X.rows 7 45 .any] .fix):=by rw[e13.g bm bn];exact MQ
 simp[q9,b3,hX,rc]
 refine(Uo S hmi hE hl ho (Rd.ord (hF.rd h3 bu))).mono ?_
 rintro o h4 mB ⟨rfl,e4⟩
 have e14:=e13.trans e4
 have b4:aa bm h4=some (.cells [.sl X.rows 7 45 .any] .fix):=by rw[e14.g bm bn];exact MQ
 simp[q9,b4,hX,rn]
 refine(CW S hn1).mono ?_
 rintro o h5 zA ⟨rfl,e5⟩
 have e15:=e14.trans e5
 have b5:aa bm h5=some (.cells [.sl X.rows 7 45 .any] .fix):=by rw[e15.g bm bn];exact MQ
 simp[q9,b5,hX,rl]
 refine(xf S).mono ?_
 rintro o h6 nx6 ⟨rfl,e6⟩
 have e16:=e15.trans e6
 have b6:aa bm h6=some (.cells [.sl X.rows 7 45 .any] .fix):=by rw[e16.g bm bn];exact MQ
 simp[q9,b6,hX,rk]
 refine(Qk S hmi hv hl ho (Rd.ord (hF.rd h6 nx6))).mono ?_
 rintro o h7 nx7 ⟨rfl,e7⟩
 have e17:=e16.trans e7
 simp[rv]
 refine aO.known (S.anD _ _) ?_
 simp
 exact eB.trans e17
end Ln
/-
 LN: the law of Check: the orders, one by one. No condition.
-/
namespace Ln
open Go.Sx Go
structure GD(c:AV)(h:T ah)(nx:Key):Prop where
 ex:∃ ord:List Int,ord.length≤1000∧Ord c ord ord.length h nx
 bq:AV.beq c c=true
theorem GD.ext{c:AV}{h h':T ah}{nx nx':Key}(o:GD c h nx)(e:Ext h nx h' nx'):GD c h' nx':=by
 obtain⟨ord,h1,h2⟩:=o.ex
 exact⟨⟨ord,h1,h2.ext e⟩,o.bq⟩
variable{C:dm}{X:Kn}(S:Std C X)
def LlI(X:Kn)(bm b18:Key)(n:Int)(ev cF:AV)(cs:List AV)(h:T ah)(nx:Key)(m:Nat)(an:T AV)(h':T ah)(nx':Key):Prop:=∃ i:Nat,m=5-i∧i≤5∧LwS X bm n ev cF an h' nx'∧aa (K 18) an=some (.slice b18 0 5 1)∧aa (K 19) an=some (I i)∧aa b18 h'=some (.cells cs .fix)∧b18.toNat<nx'.toNat∧Ext h nx h' nx'
include S
theorem asi(hX:AV.beq X.m X.m=true){bm b18:Key}{n:Int}(hn:td n){ev cF:AV}{l:List Ev}(hv:iD 8 eE ev l)(hl:Tu l){cs:List AV}(Hy:cs.length=5){h:T ah}{nx:Key}(Oi:∀ c∈cs,GD c h nx){Q:cX}{m:Nat}{tm:T AV}{h1:T ah}{bM:Key}(A:LlI X bm b18 n ev cF cs h nx m tm h1 bM)
  (cH:∀ an h' nx',LwS X bm n ev cF an h' nx'→Ext h nx h' nx'→Q .norm an h' nx') :
  W C (.loop bW) (ak 2 Q) tm h1 bM:=by
 have rn:C.raw de=false:=S.nr (by decide)
 have re:C.raw fm=false:=S.nr (by decide)
 have rl:C.raw cJ=false:=S.nr (by decide)
 have rc:C.raw fo=true:=S.rw (by decide)
 have rk:C.raw gz=true:=S.rw (by decide)
 have hvz:∀ H,aY 9999 ev H=(ev,H):=fun H=>hv.Fl _ _
 have ajw:l.length≤1000:=by have:=hl.len;omega
 have hmi:=R1 n
 refine W.di (LlI X bm b18 n ev cF cs h nx) A ?_
 rintro m cu h2 aI ⟨i,rfl,hi,L,q18,q19,h18,l18,eB⟩
 obtain⟨q1,q9,A9,DL,MQ,bn⟩:=L
 simp[Kn.m] at hX
 refine W.of ?_
 simp[bW]
 by_cases J3:i<5
 ·have hii:(i:Int)<5:=by omega
  have hg:cs[i]?=some cs[i]:=Fo (by omega)
  have hoc:=(Oi _ (JW (by omega:i<cs.length))).ext eB
  obtain⟨ord,hol,hor⟩:=hoc.ex
  have hbq:=hoc.bq
  generalize cs[i]=c at *
  simp[jh,q18,q19,hii]
  simp[nT,q1,q9,A9,q18,q19,MQ,h18,J3,hg,rn]
  refine(CW S hn).mono ?_
  rintro o h3 bu ⟨rfl,e3⟩
  have b3:aa bm h3=some (.cells [.sl X.rows 7 45 .any] .fix):=by rw[e3.g bm bn];exact MQ
  have d3:aa b18 h3=some (.cells cs .fix):=by rw[e3.g b18 l18];exact h18
  simp[q9,q18,q19,b3,d3,J3,hg,hbq,hX,re,hvz]
  refine(Qj S ajw hv).mono ?_
  rintro o h4 mB ⟨cE,rfl,hE,e4⟩
  have Da:=e3.trans e4
  have b4:aa bm h4=some (.cells [.sl X.rows 7 45 .any] .fix):=by rw[Da.g bm bn];exact MQ
  have d4:aa b18 h4=some (.cells cs .fix):=by rw[Da.g b18 l18];exact h18
  simp[q9,q18,q19,b4,d4,J3,hg,hbq,hX,rl]
  refine(xf S).mono ?_
  rintro o h5 zA ⟨rfl,e5⟩
  have e25:=Da.trans e5
  have b5:aa bm h5=some (.cells [.sl X.rows 7 45 .any] .fix):=by rw[e25.g bm bn];exact MQ
  have d5:aa b18 h5=some (.cells cs .fix):=by rw[e25.g b18 l18];exact h18
  simp[q9,q18,q19,b5,d5,J3,hg,hbq,hX,rc]
  refine(Uo S hmi hE hl hol (hor.ext e25)).mono ?_
  rintro o h6 nx6 ⟨rfl,e6⟩
  have e26:=e25.trans e6
  have b6:aa bm h6=some (.cells [.sl X.rows 7 45 .any] .fix):=by rw[e26.g bm bn];exact MQ
  have d6:aa b18 h6=some (.cells cs .fix):=by rw[e26.g b18 l18];exact h18
  simp[q9,q18,q19,b6,d6,J3,hg,hbq,hX,rn]
  refine(CW S hn).mono ?_
  rintro o h7 nx7 ⟨rfl,e7⟩
  have e27:=e26.trans e7
  have b7:aa bm h7=some (.cells [.sl X.rows 7 45 .any] .fix):=by rw[e27.g bm bn];exact MQ
  have d7:aa b18 h7=some (.cells cs .fix):=by rw[e27.g b18 l18];exact h18
  simp[q9,q18,q19,b7,d7,J3,hg,hbq,hX,rl]
  refine(xf S).mono ?_
  rintro o h8 nx8 ⟨rfl,e8⟩
  have e28:=e27.trans e8
  have b8:aa bm h8=some (.cells [.sl X.rows 7 45 .any] .fix):=by rw[e28.g bm bn];exact MQ
  have d8:aa b18 h8=some (.cells cs .fix):=by rw[e28.g b18 l18];exact h18
  simp[q9,q18,q19,b8,d8,J3,hg,hbq,hX,rk]
  refine(Qk S hmi hv hl hol (hor.ext e28)).mono ?_
  rintro o h9 nx9 ⟨rfl,e9⟩
  have e29:=e28.trans e9
  have n29:=e29.n
  simp
  simp[nU,q19]
  rw[au (by omega) (by omega)]
  exact⟨5-(i+1),by omega,i+1,rfl,by omega,⟨by simp[q1],by simp[q9],by simp[A9],by simp[DL],by rw[e29.g bm bn];exact MQ,by omega⟩,by simp[q18],by simp,by rw[e29.g b18 l18];exact h18,by omega,eB.trans e29⟩
 ·have EE:i=5:=by omega
  subst EE
  simp[jh,q18,q19]
  refine cH _ _ _ ⟨?_,?_,?_,?_,MQ,bn⟩ eB<;>simp[q1,q9,A9,DL]
end Ln
/-
 LN: the law of Check: the list of orders. No condition.
-/
namespace Ln
open Go.Sx Go
theorem Gr.Sf{c:AV}{l:List Int}{h:T ah}{nx:Key}{ob:Option Key}(g:Gr 1 c (ai eI l) l.length h nx ob)(hl:l.length≤1000):GD c h nx:=⟨⟨l,hl,Rd.ord g.rd⟩,g.lits sF⟩
theorem iD.Sf{c:AV}{l:List Int}(g:iD 1 eI c l)(hl:l.length≤1000)(h:T ah)(nx:Key):GD c h nx:=⟨⟨l,hl,Rd.ord (g.rd h nx)⟩,by
 rcases g with⟨rfl,_⟩|rfl
 ·exact beq_refl _ rfl
 ·exact beq_refl _ (by simp only[AV.lits];exact sF.arK _)⟩
variable{C:dm}{X:Kn}(S:Std C X)
include S
theorem asN(hX:AV.beq X.m X.m=true){bm:Key}{n:Int}(hn:td n){ev cF c14 TC:AV}{l:List Ev}(hv:iD 8 eE ev l)(hl:Tu l){ord:List Int}(ho:ord.length≤16)(hF:iD 1 eI cF ord){tm:T AV}{h hB:T ah}{nx nxB:Key}(A:LwS X bm n ev cF tm h nx)(Qt:aa (K 14) tm=some c14)(UD:aa (K 16) tm=some TC)(o14:GD c14 h nx)(o16:GD TC h nx)(dT:c14.aK=true∧c14.cells=[c14])(dM:TC.aK=true∧TC.cells=[TC])(eB:Ext hB nxB h nx) :
  dz C (.seq (.staged bA ⟨[K 81,K 82,K 83,K 84,K 85,K 86,K 87,K 88,K 89,K 90,K 91,K 92,K 93,K 94,K 95,K 18],[]⟩) (.seq (.seq (.ops cx) (.block 2 (.loop bW))) (.seq (.staged bO ⟨[K 124,K 125,K 126,K 127,K 128,K 129,K 130,K 131,K 132,K 133,K 134,K 135,K 136,K 137,K 138,K 139,K 140,K 141,K 142,K 143,K 144,K 8],[]⟩) .ret))) (bb [.tmp (K 8)] fun o h' nx'=>o=.ret (.bool true)∧Ext hB nxB h' nx') tm h nx:=by
 obtain⟨q1,q9,A9,DL,MQ,bn⟩:=A
 have s1:=kTSu nx
 have s2:=kTSu nx.succ
 have kF:=hF.cell
 -- the found order, and a number behind it
 have e1:=E0 h nx (.cells [] .fix)
 have G0:Gr 1 (.slice nx 0 0 1) (ai eI []) 0 (av nx (some (.cells [] .fix)) h) nx.succ.succ (some nx):=.inr (.inl ⟨nx,.fix,rfl,rfl,by simp,by omega,rfl,.inr rfl⟩)
 obtain⟨c86,h2,aI,o2,KZ,G2,F2⟩:=G0.asg (m:=ord.length) (new:=ai eI ord) (by decide) (by decide) (by simp) (by rw[bU,Nat.mul_one]) (by omega) (sF.azi _)
 have n2:=F2.n
 have s3:=kTSu aI
 have ho2:o2≠some nx.succ:=by
  intro e
  rcases F2.o with e'|⟨y,e',hy⟩
  ·rw[e] at e'
   have:=congrArg Key.toNat (Option.some.inj e')
   omega
  ·rw[e] at e'
   cases e'
   omega
 have G2':Gr 1 c86 (ai eI ord) ord.length (av nx.succ (some (.cells [I 0] .fix)) h2) aI o2:=by
  have:=G2.kN (h':=av nx.succ (some (.cells [I 0] .fix)) h2) (fe _) fun b hb=>bZ _ _ _ _ (fun e=>ho2 (by rw[hb,e]))
  simpa using this
 obtain⟨c88,h4,mB,o4,ha4,G4,F4⟩:=G2'.BG sF (by decide) (by decide) (by omega) 0
 have n4:=F4.n
 have s4:=kTSu mB
 have hej:eI 0=[I 0]:=rfl
 rw[hej] at ha4
 have wx:=G4.cell
 have o88:=Gr.Sf G4 (by simp;omega)
 -- all ay6 was there
 have e4:Ext h nx h4 mB:=⟨by omega,fun b hb=>by
  rw[F4.g b (by omega) (fun e=>by
   rcases F2.o with e'|⟨y,e',hy⟩
   ·rw[e] at e';have:=congrArg Key.toNat (Option.some.inj e');omega
   ·rw[e] at e';cases e';omega),bZ _ _ _ _ (fun e=>by have:=congrArg Key.toNat e;omega),F2.g b (by omega) (fun e=>by have:=congrArg Key.toNat (Option.some.inj e);omega)]
  exact e1.g b (by omega)⟩
 have last:∀ (tm2:T AV) (c94:AV),c94.aK=true→c94.cells=[c94]→GD c94 h4 mB→aa (K 1) tm2=some (I n)→aa (K 9) tm2=some (.ptr bm 0)→aa (K 10) tm2=some ev→aa (K 11) tm2=some cF→aa (K 18) tm2=some (.slice mB 0 5 1)→
   dz C (.seq (.seq (.ops cx) (.block 2 (.loop bW))) (.seq (.staged bO ⟨[K 124,K 125,K 126,K 127,K 128,K 129,K 130,K 131,K 132,K 133,K 134,K 135,K 136,K 137,K 138,K 139,K 140,K 141,K 142,K 143,K 144,K 8],[]⟩) .ret)) (bb [.tmp (K 8)] fun o h' nx'=>o=.ret (.bool true)∧Ext hB nxB h' nx') tm2 (av mB (some (.cells [cF,c14,TC,c88,c94] .fix)) h4) mB.succ:=by
  intro tm2 c94 _ _ o94 p1 p9 p10 p11 p18
  have e5:=E0 h4 mB (.cells [cF,c14,TC,c88,c94] .fix)
  have e45:=e4.trans e5
  have Oi:∀ c∈[cF,c14,TC,c88,c94],GD c (av mB (some (.cells [cF,c14,TC,c88,c94] .fix)) h4) mB.succ:=by
   intro c hc
   simp at hc
   rcases hc with rfl|rfl|rfl|rfl|rfl
   ·exact iD.Sf hF (by omega) _ _
   ·exact o14.ext e45
   ·exact o16.ext e45
   ·exact o88.ext e5
   ·exact o94.ext e5
  simp
  simp[cx]
  refine asi S hX hn hv hl (cs:=[cF,c14,TC,c88,c94]) rfl (h:=av mB (some (.cells [cF,c14,TC,c88,c94] .fix)) h4) (nx:=mB.succ) Oi (bm:=bm) (b18:=mB) (cF:=cF) (m:=5) ⟨0,by simp,by omega,⟨by simp[p1],by simp[p9],by simp[p10],by simp[p11],by rw[e45.g bm bn];exact MQ,by omega⟩,by simp[p18],by simp,by simp,by omega,Ext.refl _ _⟩ ?_
  intro an h' nx' L e'
  have key:=axl S hX hn hv hl (ord:=ord) (by omega) hF L (eB.trans (e45.trans e'))
  simp only[aL,aM] at key
  simpa using key
 simp only[aL,aQ,aM,gU] at last
 simp only[aL,aQ,aM,gU]
 have hwm:bV .i64 (-1)=-1:=by decide
 have hw0:bV .i64 0=0:=by decide
 rcases id hF with⟨rfl,rfl⟩|rfl
 ·simp[-appendTo] at KZ
  simp[-appendTo,bA,DL,Qt,UD,KZ,ha4,hwm,dT.1,dT.2,dM.1,dM.2,wx.1,wx.2]
  refine last _ .nils rfl rfl (iD.Sf (l:=[]) (.inl ⟨rfl,rfl⟩) (by simp) _ _) ?_ ?_ ?_ ?_ ?_<;>simp[q1,q9,A9,DL]
 ·cases ord with
  |nil=>
   simp[-appendTo] at KZ
   simp[-appendTo,bA,DL,Qt,UD,KZ,ha4,hwm,dT.1,dT.2,dM.1,dM.2,wx.1,wx.2]
   refine last _ (.sl [] 0 1 .any) rfl rfl (iD.Sf (l:=[]) (.inr rfl) (by simp) _ _) ?_ ?_ ?_ ?_ ?_<;>simp[q1,q9,A9,DL]
  |cons x t=>
   have htl:(t.length:Int)≤15:=by simp at ho;omega
   have hw:bV .i64 (t.length:Int)=t.length:=au (by omega) (by omega)
   have Ty:(ai eI (x ::t)).length=t.length+1:=bU _
   have CU:=IK (x ::t) t.length
   simp[-appendTo] at KZ
   cases t with
   |nil=>
    simp[-appendTo] at KZ
    simp[-appendTo,bA,DL,Qt,UD,KZ,ha4,hw0,dT.1,dT.2,dM.1,dM.2,wx.1,wx.2]
    refine last _ (.sl [] 0 1 .any) rfl rfl (iD.Sf (l:=[]) (.inr rfl) (by simp) _ _) ?_ ?_ ?_ ?_ ?_<;>simp[q1,q9,A9,DL]
   |cons y t=>
    have htp:(0:Int)<(t.length:Int)+1:=by omega
    simp at hw Ty
    simp[-appendTo] at KZ
    have aAA:mr (AV.int .i64 (.lit ((t.length:Int)+1)))=some (t.length+1):=rfl
    have aFp:=IK (x ::y ::t) (t.length+1)
    have hwl:((x ::y ::t).take (t.length+1)).length=t.length+1:=by rw[zqy];simp
    clear CU
    generalize (x ::y ::t).take (t.length+1)=w at aFp hwl
    have hwo:GD (.sl (ai eI w) (t.length+1) 1 .any) h4 mB:=iD.Sf (l:=w) (.inr (by rw[hwl])) (by simp at ho;omega) _ _
    simp[-appendTo,bA,DL,Qt,UD,KZ,ha4,hw,htp,Ty,aFp,aAA,dT.1,dT.2,dM.1,dM.2,wx.1,wx.2]
    refine last _ (.sl (ai eI w) (t.length+1) 1 .any) rfl rfl hwo ?_ ?_ ?_ ?_ ?_<;>simp[q1,q9,A9,DL]
end Ln
/-
 LN: the law of Check: the order that is turned. No condition.
-/
namespace Ln
open Go.Sx Go
theorem UK{l:List Int}{k:Nat}(h:k<l.length)(y:Int):List.take k (ai eI l)++I y ::List.drop (k+1) (ai eI l)=ai eI (l.set k y):=by
 have:=sF.put h y
 simpa[eI] using this
theorem awk{ord:List Int}(h0:0<ord.length)(h1:ord.length≤1000){h:T ah}{nx b:Key}(hb:aa b h=some (.cells [] .fix)):appendTo 1 (.slice b 0 0 1) (ai eI ord) ord.length h nx=.val (.slice nx 0 ord.length 1) (av nx (some (.cells (ai eI ord) .part)) h) nx.succ:=by
 have hl:ord.length≤1048576:=by omega
 have ha:=sF.azi ord
 have bI:¬ ord.length=0:=by omega
 have hn2:ord≠[]:=fun e=>bI (by rw[e];rfl)
 simp[hb,hl,ha,bI,hn2]
variable{C:dm}{X:Kn}(S:Std C X)
include S
theorem asM(hX:AV.beq X.m X.m=true){bm:Key}{n at':Int}(hn:td n)(EP:td at'){ev cF c14:AV}{l:List Ev}(hv:iD 8 eE ev l)(hl:Tu l){ord:List Int}(ho:ord.length≤16)(hF:iD 1 eI cF ord){tm:T AV}{h hB:T ah}{nx nxB:Key}(A:LwS X bm n ev cF tm h nx)(q3:aa (K 3) tm=some (I at'))(Qt:aa (K 14) tm=some c14)(o14:GD c14 h nx)(dT:c14.aK=true∧c14.cells=[c14])(eB:Ext hB nxB h nx) :
  dz C (.seq (.ops dv) (.seq (.seq (.ops cw) (.cond (.t (K 59)) (.seq (.ops fC) (.staged fD ⟨[K 65,K 66,K 67,K 68,K 69,K 70,K 71,K 72,K 73,K 74,K 75,K 76,K 77,K 78,K 79,K 80],[]⟩)) .skip)) (.seq (.staged bA ⟨[K 81,K 82,K 83,K 84,K 85,K 86,K 87,K 88,K 89,K 90,K 91,K 92,K 93,K 94,K 95,K 18],[]⟩) (.seq (.seq (.ops cx) (.block 2 (.loop bW))) (.seq (.staged bO ⟨[K 124,K 125,K 126,K 127,K 128,K 129,K 130,K 131,K 132,K 133,K 134,K 135,K 136,K 137,K 138,K 139,K 140,K 141,K 142,K 143,K 144,K 8],[]⟩) .ret))))) (bb [.tmp (K 8)] fun o h' nx'=>o=.ret (.bool true)∧Ext hB nxB h' nx') tm h nx:=by
 obtain⟨q1,q9,A9,DL,MQ,bn⟩:=A
 have rA:C.raw cM=false:=S.nr (by decide)
 have s1:=kTSu nx
 have s2:=kTSu nx.succ
 have e1:=E0 h nx (.cells [] .fix)
 have last:∀ (tm2:T AV) (h2:T ah) (aI:Key) (TC:AV),Ext h nx h2 aI→aa (K 1) tm2=some (I n)→aa (K 9) tm2=some (.ptr bm 0)→aa (K 10) tm2=some ev→aa (K 11) tm2=some cF→aa (K 14) tm2=some c14→aa (K 16) tm2=some TC→GD TC h2 aI→TC.aK=true→TC.cells=[TC]→dz C (.seq (.staged bA ⟨[K 81,K 82,K 83,K 84,K 85,K 86,K 87,K 88,K 89,K 90,K 91,K 92,K 93,K 94,K 95,K 18],[]⟩) (.seq (.seq (.ops cx) (.block 2 (.loop bW))) (.seq (.staged bO ⟨[K 124,K 125,K 126,K 127,K 128,K 129,K 130,K 131,K 132,K 133,K 134,K 135,K 136,K 137,K 138,K 139,K 140,K 141,K 142,K 143,K 144,K 8],[]⟩) .ret))) (bb [.tmp (K 8)] fun o h' nx'=>o=.ret (.bool true)∧Ext hB nxB h' nx') tm2 h2 aI:=by
  intro tm2 h2 aI TC e p1 p9 p10 p11 p14 p16 o16 k1 k2
  exact asN S hX hn hv hl ho hF ⟨p1,p9,p10,p11,by rw[e.g bm bn];exact MQ,by have:=e.n;omega⟩ p14 p16 (o14.ext e) o16 dT ⟨k1,k2⟩ (eB.trans e)
 simp only[aL,aQ,aM,gU] at last
 simp only[aL,aQ,aM,gU,dF]
 by_cases h0:ord.length=0
 ·have:ord=[]:=TW h0
  subst this
  have hb:aa nx (av nx (some (.cells [] .fix)) h)=some (.cells [] .fix):=by simp
  have G0:Gr 1 (.slice nx 0 0 1) (ai eI []) ([]:List Int).length (av nx (some (.cells [] .fix)) h) nx.succ (some nx):=.inr (.inl ⟨nx,.fix,rfl,rfl,hb,by omega,rfl,.inr rfl⟩)
  have oc:=Gr.Sf G0 (by simp)
  rcases id hF with⟨rfl,_⟩|rfl
  ·simp[dv,DL]
   simp[cw]
   refine last _ _ _ _ e1 ?_ ?_ ?_ ?_ ?_ ?_ oc rfl rfl<;>simp[q1,q9,A9,DL,Qt]
  ·simp[dv,DL]
   simp[cw]
   refine last _ _ _ _ e1 ?_ ?_ ?_ ?_ ?_ ?_ oc rfl rfl<;>simp[q1,q9,A9,DL,Qt]
 ·have hcF:cF=.sl (ai eI ord) ord.length 1 .any:=by
   rcases hF with⟨_,rfl⟩|e
   ·simp at h0
   ·exact e
  have ha:=awk (ord:=ord) (by omega) (by omega) (h:=av nx (some (.cells [] .fix)) h) (nx:=nx.succ) (b:=nx) (by simp)
  have e2:=e1.trans (E0 _ nx.succ (.cells (ai eI ord) .part))
  have A8:aa nx.succ (av nx.succ (some (.cells (ai eI ord) .part)) (av nx (some (.cells [] .fix)) h))=some (.cells (ai eI ord) .part):=by simp
  have Ty:=bU ord
  have oS:∀ (w:List Int) (h3:T ah) (bu:Key),w.length=ord.length→aa nx.succ h3=some (.cells (ai eI w) .part)→nx.succ.succ.toNat≤bu.toNat→GD (.slice nx.succ 0 ord.length 1) h3 bu:=fun w h3 bu hw hg hx=>⟨⟨w,by omega,fe _,.inr (.inr ⟨nx.succ,.part,by rw[hw],hg,by omega⟩)⟩,beq_refl _ rfl⟩
  generalize av nx.succ (some (.cells (ai eI ord) .part)) (av nx (some (.cells [] .fix)) h)=h2 at *
  simp[-appendTo,dv,DL,hcF,ha]
  by_cases h1:1<ord.length
  ·have h1i:(1:Int)<ord.length:=by omega
   obtain⟨len,hlen⟩:∃ len,ord.length=len+2:=⟨ord.length-2,by omega⟩
   have hw1:bV .i64 ((ord.length:Int)-1)=((len+1:Nat):Int):=by rw[hlen,au (by omega) (by omega)];omega
   have Pa:=CY S EP (m:=len+1) (by omega) (by omega) (h:=h2) (nx:=nx.succ.succ)
   have bN:=Se (m:=len+1) (by omega) at'
   simp[cw,h1i]
   simp[fC,q3,rA,hw1]
   simp at Pa
   refine Pa.mono ?_
   rintro o h3 bu ⟨rfl,rfl,rfl⟩
   generalize aro at' (len+1)=kk at *
   have hk0:kk<ord.length:=by omega
   have hk1:kk+1<ord.length:=by omega
   have hwk:bV .i64 ((kk:Int)+1)=(kk:Int)+1:=au (by omega) (by omega)
   have hg0:=xd hk0
   have hg1:=xd hk1
   have p0:=UK hk0 ord[kk+1]
   have p1':=UK (l:=ord.set kk ord[kk+1]) (k:=kk+1) (by simpa using hk1) ord[kk]
   have aAA:mr (AV.int .i64 (.lit ((kk:Int)+1)))=some (kk+1):=rfl
   simp[-appendTo]
   have le0:kk+1≤ord.length:=hk0
   have le1:kk+1+1≤ord.length:=hk1
   simp[I] at p0 p1'
   have aJ2:(ai eI (ord.set kk ord[kk+1])).length=ord.length:=by rw[bU,List.length_set]
   simp[fD,A8,hwk,hk0,hk1,Ty,aJ2,aAA,le0,le1,p0,p1']
   have e3:Ext h nx (av nx.succ (some (.cells (ai eI ((ord.set kk ord[kk+1]).set (kk+1) ord[kk])) .part)) h3) nx.succ.succ:=⟨e2.n,fun b hb=>by rw[az (by omega)];exact e2.g b hb⟩
   have oc:=oS ((ord.set kk ord[kk+1]).set (kk+1) ord[kk]) (av nx.succ (some (.cells (ai eI ((ord.set kk ord[kk+1]).set (kk+1) ord[kk])) .part)) h3) nx.succ.succ (by simp) (by simp) (fe _)
   refine last _ _ _ _ e3 ?_ ?_ ?_ ?_ ?_ ?_ oc rfl rfl<;>simp[q1,q9,A9,DL,Qt,hcF]
  ·have h1e:ord.length=1:=by omega
   have h1i:¬ (1:Int)<ord.length:=by omega
   have oc:=oS ord h2 nx.succ.succ rfl A8 (fe _)
   simp[cw,h1i]
   refine last _ _ _ _ e2 ?_ ?_ ?_ ?_ ?_ ?_ oc rfl rfl<;>simp[q1,q9,A9,DL,Qt,hcF]
end Ln
/-
 LN: the law of Check, all of it. No condition.
-/
namespace Ln
open Go.Sx Go
variable{C:dm}{X:Kn}(S:Std C X)
def OdI(X:Kn)(bm:Key)(n at':Int)(ev cF c2:AV)(len:Nat)(h:T ah)(nx:Key)(m:Nat)(an:T AV)(h':T ah)(nx':Key):Prop:=∃ (i:Nat) (odd:List Int) (c14:AV) (o14:Option Key),m=8-i∧i≤8∧i≤len∧LwS X bm n ev cF an h' nx'∧aa (K 2) an=some c2∧aa (K 3) an=some (I at')∧aa (K 15) an=some (I i)∧aa (K 14) an=some c14∧Gr 1 c14 (ai eI odd) odd.length h' nx' o14∧odd.length=i∧lU h nx none h' nx' o14
include S
theorem aw0(hX:AV.beq X.m X.m=true){bm:Key}{n at':Int}(hn:td n)(EP:td at'){ev cF c2:AV}{l:List Ev}(hv:iD 8 eE ev l)(hl:Tu l){ord order:List Int}(ho:ord.length≤16)(hF:iD 1 eI cF ord)(hc2:iD 1 eI c2 order)(aix:∀ x∈order,td x){tm:T AV}{h hB:T ah}{nx nxB:Key}(A:LwS X bm n ev cF tm h nx)(q2:aa (K 2) tm=some c2)(q3:aa (K 3) tm=some (I at'))(eB:Ext hB nxB h nx) :
  dz C (.seq (.ops jV) (.seq (.seq (.ops jW) (.block 0 (.loop jX))) (.seq (.ops dv) (.seq (.seq (.ops cw) (.cond (.t (K 59)) (.seq (.ops fC) (.staged fD ⟨[K 65,K 66,K 67,K 68,K 69,K 70,K 71,K 72,K 73,K 74,K 75,K 76,K 77,K 78,K 79,K 80],[]⟩)) .skip)) (.seq (.staged bA ⟨[K 81,K 82,K 83,K 84,K 85,K 86,K 87,K 88,K 89,K 90,K 91,K 92,K 93,K 94,K 95,K 18],[]⟩) (.seq (.seq (.ops cx) (.block 2 (.loop bW))) (.seq (.staged bO ⟨[K 124,K 125,K 126,K 127,K 128,K 129,K 130,K 131,K 132,K 133,K 134,K 135,K 136,K 137,K 138,K 139,K 140,K 141,K 142,K 143,K 144,K 8],[]⟩) .ret))))))) (bb [.tmp (K 8)] fun o h' nx'=>o=.ret (.bool true)∧Ext hB nxB h' nx') tm h nx:=by
 have rA:C.raw cM=false:=S.nr (by decide)
 have key:=fun tm2 h2 aI c14 a b d e f g=>asM S hX (bm:=bm) hn EP hv hl ho hF (tm:=tm2) (h:=h2) (nx:=aI) (hB:=hB) (nxB:=nxB) (c14:=c14) a b d e f g
 simp only[aL,aQ,aM,gU,dF] at key
 simp only[aL,aQ,aM,gU,dF]
 have bn:=A.bn
 have MQ:=A.mb
 simp[jV]
 simp[jW]
 refine W.di (n:=8) (OdI X bm n at' ev cF c2 order.length h nx) ⟨0,[],.nils,none,by simp,by omega,by omega,⟨by simp[A.q1],by simp[A.q9],by simp[A.A9],by simp[A.DL],A.mb,A.bn⟩,by simp[q2],by simp[q3],by simp,by simp,Gr.nil _ _ _,rfl,lU.refl _ _ _⟩ ?_
 rintro m cu h1 bM ⟨i,odd,c14,o14,rfl,hi8,hio,L,p2,p3,p15,p14,G,hol,F⟩
 obtain⟨p1,p9,p10,p11,aKJ,bn1⟩:=L
 refine W.of ?_
 simp[jX]
 have hR:Rd 1 c2 (ai eI order) order.length h1 bM:=hc2.rd _ _
 have nF:=F.n
 have s1:=kTSu bM
 have oc:=Gr.Sf G (by omega)
 have kc:=G.cell
 have eF:Ext h nx h1 bM:=⟨F.n,fun b hb=>F.g b hb (by simp)⟩
 have fin:∀ tm2:T AV,aa (K 1) tm2=some (I n)→aa (K 9) tm2=some (.ptr bm 0)→aa (K 10) tm2=some ev→aa (K 11) tm2=some cF→aa (K 3) tm2=some (I at')→aa (K 14) tm2=some c14→_:=fun tm2 a b c d e f=>key tm2 h1 bM c14 ⟨a,b,c,d,aKJ,bn1⟩ e f oc kc (eB.trans eF)
 by_cases J3:i<order.length
 ·have hii:(i:Int)<order.length:=by omega
  by_cases hi:i<8
  ·have aKK:(i:Int)<8:=by omega
   have hx:=aix _ (JW J3)
   have Pa:=CY S hx (m:=9) (by omega) (by omega) (h:=h1) (nx:=bM)
   simp[↓hR.ln,gf,p2,p15,hii,aKK]
   simp at Pa
   simp[↓hR.ixI J3,qv,p2,p14,p15,rA]
   refine Pa.mono ?_
   rintro o h2 aI ⟨rfl,rfl,rfl⟩
   generalize order[i]=x at *
   have e2:=E0 h2 aI (.cells (eI (bV .i64 ((aro x 9:Int)-1))) .fix)
   obtain⟨c5,h5,zA,o5,ha,G5,F5⟩:=(G.ext e2).BG sF (by decide) (by decide) (by omega) (bV .i64 ((aro x 9:Int)-1))
   have F15:=(lU.jk e2 o14).trans F5
   have hej:eI (bV .i64 ((aro x 9:Int)-1))=[I (bV .i64 ((aro x 9:Int)-1))]:=rfl
   rw[hej] at ha
   have n5:=F15.n
   simp[-appendTo,ha]
   simp[qw,p15]
   rw[au (by omega) (by omega)]
   have FT:=F.trans F15
   exact⟨8-(i+1),by omega,i+1,odd ++ [_],c5,o5,rfl,by omega,by omega,⟨by simp[p1],by simp[p9],by simp[p10],by simp[p11],by rw[FT.g bm bn (by simp)];exact MQ,by omega⟩,by simp[p2],by simp[p3],by simp,by simp,G5,by simp[hol],FT⟩
  ·have aKL:i=8:=by omega
   subst aKL
   have hii:(8:Int)<order.length:=by omega
   simp[↓hR.ln,gf,p2,p15,hii]
   refine fin _ ?_ ?_ ?_ ?_ ?_ ?_<;>simp[p1,p9,p10,p11,p3,p14]
 ·have EE:i=order.length:=by omega
  subst EE
  simp[↓hR.ln,gf,p2,p15]
  refine fin _ ?_ ?_ ?_ ?_ ?_ ?_<;>simp[p1,p9,p10,p11,p3,p14]
theorem atY{i:Nat}{l:List Ev}{h h':T ah}{nx nx':Key}{o:Out}(hF:asc X i l h nx o h' nx'):∃ (cF v2:AV) (e:Int) (ord:List Int),o=.ret (.tuple [cF,v2,I e])∧iD 1 eI cF ord∧ord.length≤16:=by
 obtain⟨_,hF⟩:=hF
 rcases hF with⟨_,rfl⟩|⟨_,⟨_,rfl⟩|⟨L,_,⟨p,cR,_,hl,hR,rfl⟩|⟨_,out,cR,_,_,_,rfl⟩⟩⟩
 ·exact⟨_,_,_,[],rfl,.inl ⟨rfl,rfl⟩,by simp⟩
 ·exact⟨_,_,_,[],rfl,.inl ⟨rfl,rfl⟩,by simp⟩
 ·exact⟨_,_,_,_,rfl,hR,hl⟩
 ·exact⟨_,_,_,[],rfl,.inl ⟨rfl,rfl⟩,by simp⟩
theorem aqA(hX:AV.beq X.m X.m=true){n at':Int}(hn:td n)(EP:td at'){ks order:List Int}(K9:∀ x∈ks,td x)(aix:∀ x∈order,td x){c0 c2:AV}(kV:iD 1 eI c0 ks)(hc2:iD 1 eI c2 order)(hB:T ah)(nxB:Key) :
  aO C kT [c0,I n,c2,I at'] hB nxB (fun o h' nx'=>o=.ret (.bool true)∧Ext hB nxB h' nx'):=by
 have rM:C.raw uE=false:=S.nr (by decide)
 have rn:C.raw de=false:=S.nr (by decide)
 have rH:C.raw iR=false:=S.nr (by decide)
 have rl:C.raw cJ=false:=S.nr (by decide)
 have rF:C.raw mV=false:=S.nr (by decide)
 have aKM:∀ H,aY 9999 c0 H=(c0,H):=fun H=>kV.Fl _ _
 have s1:=kTSu nxB
 have hX':=hX
 simp[Kn.m] at hX'
 refine S.sU.call ?_
 have key:=fun tm2 h2 aI ev cF l ord hv hl ho hF A a b d=>aw0 S hX hn EP (ev:=ev) (cF:=cF) (l:=l) (ord:=ord) hv hl ho hF hc2 aix (tm:=tm2) (h:=h2) (nx:=aI) (bm:=nxB) (hB:=hB) (nxB:=nxB) A a b d
 simp only[aL,aQ,aM,gU,dF] at key
 simp only[nd,aL,aQ,aM,gU,dF]
 simp[qx]
 simp[qy,rM]
 refine aO.known (S.VE _ _) ?_
 simp[Kn.m]
 have e1:=E0 hB nxB (.cells [.sl X.rows 7 45 .any] .fix)
 have b1:aa nxB (av nxB (some (.cells [.sl X.rows 7 45 .any] .fix)) hB)=some (.cells [.sl X.rows 7 45 .any] .fix):=by simp
 generalize av nxB (some (.cells [.sl X.rows 7 45 .any] .fix)) hB=h1 at *
 simp[qz,rn]
 refine(CW S hn).mono ?_
 rintro o h2 aI ⟨rfl,e2⟩
 have hz:∀ H,aY 9999 (dE (nmI n)) H=(dE (nmI n),H):=fun H=>rfl
 simp[rH,aKM]
 have hh:=alU S (R1 n) K9 kV (most:=14) (by omega) (h:=h2) (nx:=aI)
 simp at hh
 refine hh.mono ?_
 rintro o h3 bu ⟨ev,l,g,rfl,hv,hll,hr,e3⟩
 have hl:=hr.aEQ (by omega)
 have hvz:∀ H,aY 9999 ev H=(ev,H):=fun H=>hv.Fl _ _
 have e13:=(e1.trans e2).trans e3
 have n2:=e2.n
 have n3:=e3.n
 have b3:aa nxB h3=some (.cells [.sl X.rows 7 45 .any] .fix):=by rw[e3.g nxB (by omega),e2.g nxB (by omega)];exact b1
 simp
 simp[qA,b3,rn]
 refine(CW S hn).mono ?_
 rintro o h4 mB ⟨rfl,e4⟩
 have n4:=e4.n
 have b4:aa nxB h4=some (.cells [.sl X.rows 7 45 .any] .fix):=by rw[e4.g nxB (by omega)];exact b3
 simp[b4,hX',rl]
 refine(xf S).mono ?_
 rintro o h5 zA ⟨rfl,e5⟩
 have n5:=e5.n
 have b5:aa nxB h5=some (.cells [.sl X.rows 7 45 .any] .fix):=by rw[e5.g nxB (by omega)];exact b4
 have hf:=asd S (R1 n) hv hl (h:=h5) (nx:=zA)
 have hlz:∀ H,aY 9999 jG H=(jG,H):=fun H=>rfl
 simp[Kn.m] at hf
 simp[b5,hX',rF,hvz,hlz]
 refine hf.mono ?_
 rintro o h6 nx6 hR
 have e6:=hR.1
 have n6:=e6.n
 obtain⟨cF,v2,e,ord,rfl,hFr,hol⟩:=atY S hR
 have b6:aa nxB h6=some (.cells [.sl X.rows 7 45 .any] .fix):=by rw[e6.g nxB (by omega)];exact b5
 simp
 refine key _ h6 nx6 ev cF l ord hv hl hol hFr ⟨?_,?_,?_,?_,b6,by omega⟩ ?_ ?_ (((e13.trans e4).trans e5).trans e6)<;>simp
end Ln
/-
 SX: package-level arrays of strings that a row lists, as the machine's blocks. No condition.
-/
namespace Go.Sx
def zW(W:World)(c i:Nat):Option Value:=match W.heap[c]? with
 |some (.cells arr _ _)=>arr[i]?
 |_=>none
theorem aw8{W:World}:∀ c i v,zW W c i=some v→∃ arr elem f,W.heap[c]?=some (.cells arr elem f)∧arr[i]?=some v:=by
 intro c i v h
 unfold zW at h
 split at h
 ·rename_i arr e f he;exact⟨arr,e,f,he,h⟩
 ·cases h
end Go.Sx
