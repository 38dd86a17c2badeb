/- A part of the proof. No condition. -/
import Derived.Test.YtmdpbiocakjlkaaGreatDoorP8
set_option linter.unusedSimpArgs false
set_option linter.unusedVariables false
set_option linter.unusedSectionVars false
namespace Tp
open Go.Sx Go Tb
@[simp] theorem aHQ(x:Br):(eB x).length=3:=rfl
@[simp] theorem az6(x:Br):List.take 3 (eB x)=eB x:=rfl
@[simp] theorem aLE(x:Br)(r:List AV):List.take 3 (eB x++r)=eB x:=rfl
@[simp] theorem aLF(x:Br)(a b c:AV):List.drop 6 (eB x ++ [a,b,c])=[]:=rfl
@[simp] theorem aHR(x:Pr):List.take 3 (eP x)=eB x.1:=rfl
@[simp] theorem aHS(x:Pr):List.take 3 (List.drop 3 (eP x))=eB x.2:=rfl
@[simp] theorem az7(x:Pr):List.drop 3 (eP x)=eB x.2:=rfl
theorem atv{C:cU}(S:Std C)(a b:Int):XR C nN [.sl [I a,I b] 2 1 .any] (·=.ret (I (if a=0 then b else a))):=by
 intro h nx
 have w1:aW .i64 1=1:=rfl
 have w2:aW .i64 2=2:=rfl
 refine S.U5.call ?_
 simp[EM]
 simp[H9]
 simp[Ia]
 simp[Ib]
 by_cases h1:a=0
 ·subst h1
  by_cases h2:b=0
  ·subst h2
   refine W.rn (W.of ?_)
   try simp[js]
   try simp[cd]
   try simp[cz]
   try simp[dJ]
   try simp[pM,w1]
   refine W.rn (W.of ?_)
   try simp
   try simp[cd]
   try simp[cz]
   try simp[dJ,decide_true]
   try simp[w2]
   refine W.rn (W.of ?_)
   try simp
   try simp[cd]
   try simp[Ic]
   exact Ext.refl _ _
  ·have hb:(b==0)=false:=by simpa using h2
   refine W.rn (W.of ?_)
   try simp[js]
   try simp[cd]
   try simp[cz]
   try simp[dJ]
   try simp[pM,w1]
   refine W.rn (W.of ?_)
   try simp
   try simp[cd]
   try simp[cz]
   try simp[h2,hb]
   try simp[pL]
   exact Ext.refl _ _
 ·have hb:(a==0)=false:=by simpa using h1
  refine W.rn (W.of ?_)
  try simp[js]
  try simp[cd]
  try simp[cz]
  try simp[dJ,h1,hb]
  try simp[pL]
  exact Ext.refl _ _
def Ar(h:T ab)(nx:Key)(c:AV)(l:List Br):Prop:=(c=.nils∧l=[])∨(∃ f,c=.sl (aI eB l) l.length 3 f)∨∃ b,c=.slice b 0 l.length 3∧aa b h=some (.cells (aI eB l) .part)∧b.toNat<nx.toNat
theorem Ar.ext{h h':T ab}{nx nx':Key}{c:AV}{l:List Br}(a:Ar h nx c l)(e:Ext h nx h' nx'):Ar h' nx' c l:=by
 have:=e.n
 rcases a with a|a|⟨b,rfl,hb,hl⟩
 ·exact .inl a
 ·exact .inr (.inl a)
 ·exact .inr (.inr ⟨b,rfl,by rw[e.g b hl];exact hb,by omega⟩)
theorem Ar.of{h:T ab}{nx:Key}{c:AV}{l:List Br}(a:afR c l):Ar h nx c l:=by
 rcases a with a|a
 ·exact .inl a
 ·exact .inr (.inl ⟨_,a⟩)
theorem Ar.app{h:T ab}{nx n0:Key}{c:AV}{l:List Br}(A:App c (aI eB l) l.length 3 h nx n0):Ar h nx c l:=by
 rcases A.is with⟨rfl,_,e⟩|⟨b,rfl,hb,vj,aM,_⟩|⟨t,rfl,_⟩
 ·exact .inl ⟨rfl,zqr e⟩
 ·exact .inr (.inr ⟨b,rfl,hb,aM⟩)
 ·exact .inr (.inl ⟨_,rfl⟩)
variable{C:cU}(S:abT C)
include S
omit S in
theorem amt(S:Std C)(x y:Pr):XR C qJ [.agg (eP x),.agg (eP y)] (·=.ret (I (adt x y))):=by
 intro h nx
 have q1:C.raw mU=false:=S.raw _ (by decide)
 have q2:C.raw nN=false:=S.raw _ (by decide)
 have s0:=kTSu nx
 have s1:=kTSu nx.succ
 refine S.U4.call ?_
 have x0:Ext h nx (aK nx.succ (some (.cells (eP y) .fix)) (aK nx (some (.cells (eP x) .fix)) h)) nx.succ.succ:=(E0 h nx _).trans (E0 _ _ _)
 have g0:aa nx (aK nx.succ (some (.cells (eP y) .fix)) (aK nx (some (.cells (eP x) .fix)) h))=some (.cells (eP x) .fix):=by rw[bU _ _ _ _ (aG (by omega)),gTSm]
 have g1:aa nx.succ (aK nx.succ (some (.cells (eP y) .fix)) (aK nx (some (.cells (eP x) .fix)) h))=some (.cells (eP y) .fix):=by rw[gTSm]
 have zx:(eP x).all AV.aD=true:=rfl
 have zy:(eP y).all AV.aD=true:=rfl
 simp[pn]
 simp[EK]
 generalize aK nx.succ (some (.cells (eP y) .fix)) (aK nx (some (.cells (eP x) .fix)) h)=Hb at x0 g0 g1 ⊢
 have hz1:∀ (b:Br) n H,az (ax n) (eB b) H=(eB b,H):=fun b n H=>av (jr.jh b)
 simp[EL,g0,g1,hz1,q1]
 refine(ahL S x.1 y.1 _ _).mono ?_
 rintro o h1 aY ⟨rfl,x1⟩
 have n1:=x1.n
 have g0':aa nx h1=some (.cells (eP x) .fix):=by rw[x1.g nx (by omega)];exact g0
 have g1':aa nx.succ h1=some (.cells (eP y) .fix):=by rw[x1.g nx.succ (by omega)];exact g1
 have bq:∀ b:Br,AV.beq (.agg (eB b)) (.agg (eB b))=true:=fun b=>beq_refl _ rfl
 simp[g0',g1',hz1,q1,bq]
 refine(ahL S x.2 y.2 _ _).mono ?_
 rintro o h2 aH ⟨rfl,x2⟩
 have n2:=x2.n
 have s2:=kTSu aH
 have hz:=si (n:=9998) (b:=aH) (len:=2) (sz:=1) (l:=[I (Dj x.1 y.1),I (Dj x.2 y.2)]) (H:=aK aH (some (.cells [I (Dj x.1 y.1),I (Dj x.2 y.2)] .fix)) h2) (by rw[gTSm]) (by simp) (fun c hc=>by simp at hc;rcases hc with rfl|rfl<;>exact Lt _ _)
 simp[hz,q2]
 refine(atv S _ _ _ _).mono ?_
 rintro o h3 dw ⟨rfl,x3⟩
 have n3:=x3.n
 simp
 refine⟨rfl,by omega,fun q hq=>?_⟩
 rw[x3.g q (by omega),bA (by omega),x2.g q (by omega),x1.g q (by omega),x0.g q hq]
def PaI(l:List Br)(c:AV)(h:T ab)(nx:Key)(k:Nat)(tm':T AV)(h':T ab)(nx':Key):Prop:=
 ∃ j:Nat,k=(dH l).length-j∧j≤(dH l).length∧aa (K 0) tm'=some c∧aa (K 3) tm'=some (AV.map nx)∧aa (K 4) tm'=some (I ((j+1:Nat):Int))∧aa nx h'=some (.map (mp (((dH l).take j).foldl add [])))∧Ext h nx h' nx'∧nx.toNat<nx'.toNat
theorem alz{c:AV}{l:List Br}{h:T ab}{nx:Key}(hc:Ar h nx c l)(ho:NQ l)(hl:l.length≤1000000):aO C rB [c] h nx (fun o h' nx'=>Wa (·∈dH l) (dH l).length o∧Ext h nx h' nx'):=by
 have s0:=kTSu nx
 have hnl:=QZ l
 refine S.ZK.call ?_
 simp[Dv]
 simp[Mp]
 simp[Mq]
 simp[Mr]
 refine W.bV (n:=(dH l).length) (PaI l c h nx) ?_ ?_
 ·exact⟨0,by omega,by omega,by simp,by simp,by simp,by rw[gTSm];rfl,E0 h nx _,by omega⟩
 rintro k jk h1 aY ⟨j,rfl,hj,e0,e3,e4,hb,x1,aqE⟩
 refine W.of ?_
 simp[Ms]
 have n1:=x1.n
 have s1:=kTSu aY
 have rest:∀ tm',aa (K 3) tm'=some (.map nx)→j=(dH l).length→bt C ((U.ops BG).seq (.seq (.seq (.ops uE) (.block 2 (.loop uF))) (.seq (.ops sB) (.seq (.ops sD) .ret)))) (aN [.tmp (K 2)] fun o h' nx'=>Wa (·∈dH l) (dH l).length o∧Ext h nx h' nx') tm' h1 aY:=by
  intro tm' e3 UM
  rw[UM,List.take_length] at hb
  have VA:=ZH (dH l) (r:=[]) (by simp)
  have oR:∀ y,y∈(dH l).foldl add []↔y∈dH l:=fun y=>by rw[aer];simp
  have On:=aes (dH l) []
  simp at On
  have M:=U2.of hb VA
  have aHU:=L0 ((dH l).foldl add []) 0
  have hlen:=ahx ((dH l).foldl add []) 0
  have hp:∀ n,(afd n [AV.str 0 0,AV.int .i64 (.lit 0),AV.int .i64 (.lit 0),AV.str 0 0,AV.int .i64 (.lit 0),AV.int .i64 (.lit 0)] []).length=n*6:=by
   intro n
   induction n with
   |zero=>rfl
   |succ n ih=>rw[repL_eq] at ih ⊢;simp[List.replicate_succ] at ih ⊢;omega
  have hou:∀ y∈(num 0 ((dH l).foldl add [])).map Prod.snd,Mb y:=fun y hy=>by
   rw[aHU] at hy
   exact acJ ho y ((oR y).1 hy)
  generalize hr:(dH l).foldl add []=r at *
  have aPS:r.length≤1000000:=by omega
  have aHV:=L0 r 0
  have fin:=fun xD (f0:aa (K 3) xD=some (AV.map nx)) (f3:aa (K 5) xD=some (.slice aY 0 0 6))=>alH S M aqE (by omega) hou (h1:=aK aY (some (.cells (afd r.length [AV.str 0 0,AV.int .i64 (.lit 0),AV.int .i64 (.lit 0),AV.str 0 0,AV.int .i64 (.lit 0),AV.int .i64 (.lit 0)] []) .fix)) h1) f0 f3 (gTSm _ _ _) (by rw[hp,hlen]) (E0 h1 aY _) (R:=fun o h' nx'=>Wa (·∈dH l) (dH l).length o∧Ext h nx h' nx') (fun o h' nx' ⟨c',ho',r',a1,a2,a3⟩ e=>⟨⟨c',ho',r',a1,a2.congr (fun y=>by rw[aHV];exact oR y),by omega⟩,x1.trans e⟩)
  simp[-repL_eq] at fin
  simp
  simp[-repL_eq,BG,e3,hb,mp,(show r.length≤1048576 by omega)]
  refine fin _ ?_ ?_
  ·simp[e3]
  ·simp
 by_cases aM:j<(dH l).length
 ·have RX:j+1<l.length:=by omega
  rcases hc with⟨_,rfl⟩|⟨f,rfl⟩|⟨bk,rfl,ak5,hlk⟩
  ·simp at RX
  ·have hr:=jr.rows l
   have ec:=jr.at (l:=l) (i:=j) (by omega)
   have ec1:=jr.at (l:=l) (i:=j+1) RX
   have h3:3≤(aI eB l).length-j*3:=by omega
   have h31:3≤(aI eB l).length-(j+1)*3:=by omega
   have Yd:(dH l)[j]=(l[j],l[j+1]):=by have:=KY l j RX;rw[Af aM] at this;simpa using this
   have hsk:=acN (dH l)[j] (((dH l).take j).foldl add [])
   have heP:eP (dH l)[j]=eB l[j]++eB l[j+1]:=by rw[Yd];rfl
   rw[heP] at hsk
   have hr0:(aI eB l).length=l.length*3:=jr.rows l
   have hw1:aW .i64 (((j+1:Nat):Int)-1)=(j:Int):=by rw[show((j+1:Nat):Int)-1=(j:Int) by omega];exact br (by omega) (by omega)
   have TO:aW .i64 (((j+1:Nat):Int)+1)=((j+1+1:Nat):Int):=by rw[show((j+1:Nat):Int)+1=((j+1+1:Nat):Int) by omega];exact br (by omega) (by omega)
   have UU:((j+1:Nat):Int)<l.length:=by omega
   have hj1:(j:Int)<l.length:=by omega
   have Yd:j<l.length:=by omega
   have agn:Sd pP (.agg (eB l[j]++eB l[j+1]))=true:=ahw (l[j],l[j+1])
   generalize hjj:((j+1:Nat):Int)=jj at e4 hw1 TO UU
   have af7:rm (I jj)=some (j+1):=by rw[← hjj];rfl
   generalize aI eB l=L at e0 ec ec1 h3 h31 hr0
   simp[kS,e0,e4,UU]
   simp[BE,e0,e3,e4,hw1,Yd,RX,af7,ec,ec1,h3,h31,hb,S.orc,hsk,agn]
   simp[BF,e4,TO]
   refine⟨(dH l).length-(j+1),by omega,?_⟩
   unfold PaI
   exact⟨j+1,rfl,by omega,by simp[e0],by simp[e3],by simp,by rw[gTSm,zqu aM,List.foldl_append];rfl,x1.put (bS _),by omega⟩
  ·have hbk:aa bk h1=some (.cells (aI eB l) .part):=by rw[x1.g bk hlk];exact ak5
   have hr:=jr.rows l
   have ec:=jr.at (l:=l) (i:=j) (by omega)
   have ec1:=jr.at (l:=l) (i:=j+1) RX
   have h3:3≤(aI eB l).length-j*3:=by omega
   have h31:3≤(aI eB l).length-(j+1)*3:=by omega
   have Yd:(dH l)[j]=(l[j],l[j+1]):=by have:=KY l j RX;rw[Af aM] at this;simpa using this
   have hsk:=acN (dH l)[j] (((dH l).take j).foldl add [])
   have heP:eP (dH l)[j]=eB l[j]++eB l[j+1]:=by rw[Yd];rfl
   rw[heP] at hsk
   have hr0:(aI eB l).length=l.length*3:=jr.rows l
   have hw1:aW .i64 (((j+1:Nat):Int)-1)=(j:Int):=by rw[show((j+1:Nat):Int)-1=(j:Int) by omega];exact br (by omega) (by omega)
   have TO:aW .i64 (((j+1:Nat):Int)+1)=((j+1+1:Nat):Int):=by rw[show((j+1:Nat):Int)+1=((j+1+1:Nat):Int) by omega];exact br (by omega) (by omega)
   have UU:((j+1:Nat):Int)<l.length:=by omega
   have hj1:(j:Int)<l.length:=by omega
   have Yd:j<l.length:=by omega
   have agn:Sd pP (.agg (eB l[j]++eB l[j+1]))=true:=ahw (l[j],l[j+1])
   generalize hjj:((j+1:Nat):Int)=jj at e4 hw1 TO UU
   have af7:rm (I jj)=some (j+1):=by rw[← hjj];rfl
   generalize aI eB l=L at hbk ec ec1 h3 h31 hr0
   simp[kS,e0,e4,UU]
   simp[BE,hbk,e0,e3,e4,hw1,Yd,RX,af7,ec,ec1,h3,h31,hb,S.orc,hsk,agn]
   simp[BF,e4,TO]
   refine⟨(dH l).length-(j+1),by omega,?_⟩
   unfold PaI
   exact⟨j+1,rfl,by omega,by simp[e0],by simp[e3],by simp,by rw[gTSm,zqu aM,List.foldl_append];rfl,x1.put (bS _),by omega⟩
 ·have UM:j=(dH l).length:=by omega
  simp at rest
  rcases hc with⟨rfl,rfl⟩|⟨f,rfl⟩|⟨bk,rfl,ak5,hlk⟩
  ·have hn0:(dH []).length=0:=rfl
   have hj0:j=0:=by omega
   subst hj0
   simp[kS,e0,e4]
   exact rest _ (by simp[e3]) (by omega)
  ·have UU:¬ ((j+1:Nat):Int)<l.length:=by omega
   generalize hjj:((j+1:Nat):Int)=jj at e4 UU
   generalize aI eB l=L at e0
   simp[kS,e0,e4,UU]
   exact rest _ (by simp[e3]) UM
  ·have UU:¬ ((j+1:Nat):Int)<l.length:=by omega
   generalize hjj:((j+1:Nat):Int)=jj at e4 UU
   simp[kS,e0,e4,UU]
   exact rest _ (by simp[e3]) UM
end Tp
/-
 SM: the reference's pairs of neighbors: the walk. No condition.
-/
namespace Tp
open Go.Sx Go Tb
theorem agB{x y:Br}(hx:Ta x)(hy:Ta y):Yl x y=Dj x y:=by
 rw[aeZ hx hy]
 unfold Yl or3
 by_cases h1:x.a=y.a∧x.b=y.b
 ·have h0:=(aaW hx hy).2 h1
  rw[if_neg (by simpa using h1),if_pos h0]
  by_cases h2:x.n=y.n
  ·have h3:=GF.2 h2
   rw[if_neg (by simpa using h2),if_pos h3]
   unfold ci
   by_cases h4:x.m=y.m
   ·rw[if_neg (by simpa using h4),if_neg (by omega),if_neg (by omega)]
   ·rw[if_pos h4]
    by_cases h5:x.m<y.m
    ·rw[if_pos h5,if_pos h5]
    ·rw[if_neg h5,if_neg h5,if_pos (by omega)]
  ·rw[if_pos h2,if_neg (fun h=>h2 (GF.1 h))]
   unfold ci
   by_cases h5:x.n<y.n
   ·rw[if_pos h5,if_pos h5]
   ·rw[if_neg h5,if_neg h5,if_pos (by omega)]
 ·rw[if_pos h1,if_neg (fun h=>h1 ((aaW hx hy).1 h))]
  unfold cs
  cases h2:Lk x.a x.b y.a y.b with
  |true=>simp
  |false=>
   cases h3:Lk y.a y.b x.a x.b with
   |true=>simp
   |false=>exact absurd (XN _ _ _ _ hx hy h2 h3) h1
theorem ajb{p q:Pr}(hp:Mb p)(hq:Mb q):(Yl p.1 q.1<0∨(p.1=q.1∧Yl p.2 q.2≤0))↔¬ Vx q p:=by
 rw[agB hp.1 hq.1,agB hp.2 hq.2,ajc hp.2 hq.2,Ll hq hp]
 show lt p.1 q.1∨_↔_
 constructor
 ·rintro(h|⟨h1,h2⟩) (h3|⟨h3,h4⟩)
  ·exact lt_irrefl hp.1 (lt_trans hp.1 hq.1 hp.1 h h3)
  ·rw[h3] at h;exact lt_irrefl hp.1 h
  ·rw[h1] at h3;exact lt_irrefl hq.1 h3
  ·exact h2 h4
 ·intro h
  by_cases h1:lt p.1 q.1
  ·exact .inl h1
  ·have e:=Ym hp.1 hq.1 h1 (fun h2=>h (.inl h2))
   exact .inr ⟨e,fun h2=>h (.inr ⟨e.symm,h2⟩)⟩
def Src(h:T ab)(x:AV)(vs:List Pr):Prop:=(x=.nils∧vs=[])∨(∃ f,x=.sl (aI eP vs) vs.length 6 f)∨∃ b off L,x=.slice b off vs.length 6∧aa b h=some (.cells L .part)∧off+vs.length*6≤L.length∧(L.drop off).take (vs.length*6)=aI eP vs
theorem aqb{x:Pr}{n:Nat}{H:T ab}:az (ax n) (eP x) H=(eP x,H):=av (rh.jh x)
theorem ahV{l:List Pr}{n:Nat}{H:T ab}:az (ax n) (aI eP l) H=(aI eP l,H):=av (rh.bY l)
theorem aml{orc:pF}{k k':Key}{tm:T AV}{h:T ab}{nx n0:Key}{d x:AV}{ws vs:List Pr}(hk:aa k tm=some d)(Ed:aa k' tm=some x)(hd:App d (aI eP ws) ws.length 6 h nx n0)(hx:Src h x vs)(hn:n0.toNat≤nx.toNat)(hl:ws.length+vs.length≤1048576) :
  ∃ c' h' nx',aOp orc (.append 6 (.t k) (.t k')) tm h nx=.val c' h' nx'∧App c' (aI eP (ws++vs)) (ws++vs).length 6 h' nx' n0∧nx.toNat≤nx'.toNat∧∀ b:Key,b.toNat<n0.toNat→aa b h'=aa b h:=by
 obtain⟨c2,h2,aH,g,A2,x1,x2,_⟩:=hd.ae0 (new:=aI eP vs) (m:=vs.length) hn (by rw[rh.rows]) hl (rh.auE vs)
 rw[← IB] at A2
 refine⟨c2,h2,aH,?_,by rw[Lc];exact A2,x1,x2⟩
 rcases hx with⟨rfl,rfl⟩|⟨f,rfl⟩|⟨b,off,L,rfl,hb,hle,Tc⟩
 ·simpa[-appendTo,hk,Ed] using g
 ·simpa[-appendTo,hk,Ed] using g
 ·have ajd:vs.length*6≤L.length-off:=by omega
  simpa[-appendTo,hk,Ed,hb,ajd,Tc,ahV] using g
theorem aqc{orc:pF}{k k':Key}{tm:T AV}{h:T ab}{nx n0:Key}{c:AV}{us:List Pr}{i:Nat}(hk:aa k tm=some c)(Ed:aa k' tm=some (I i))(A:App c (aI eP us) us.length 6 h nx n0)(hi:i≤us.length) :
  ∃ x,lightOp orc (.sliceL 6 (.t k) none (some (.t k'))) tm h=some x∧Src h x (us.take i):=by
 have hr:=rh.rows us
 have hl:(us.take i).length=i:=by rw[zqy];omega
 have ht:=rh.take us i
 rcases A.is with⟨rfl,e,_⟩|⟨b,rfl,hb,_⟩|⟨t,rfl,_⟩
 ·have:us=[]:=by
   cases us with
   |nil=>rfl
   |cons x l=>cases e
  subst this
  have:i=0:=by simpa using hi
  subst this
  exact⟨.nils,by simp[hk,Ed],.inl ⟨rfl,rfl⟩⟩
 ·refine⟨.slice b 0 i 6,by simp[hk,Ed,hi],.inr (.inr ⟨b,0,_,by rw[hl],hb,by omega,by rw[hl,List.drop_zero,ht]⟩)⟩
 ·have h6:i*6≤us.length*6:=by omega
  refine⟨_,by simp[hk,Ed,hi,hr,h6,ht];rfl,.inr (.inl ⟨_,by rw[hl]⟩)⟩
theorem aqd{orc:pF}{k k':Key}{tm:T AV}{h:T ab}{nx n0:Key}{c:AV}{us:List Pr}{i:Nat}(hk:aa k tm=some c)(Ed:aa k' tm=some (I i))(A:App c (aI eP us) us.length 6 h nx n0)(hi:i≤us.length) :
  ∃ x,lightOp orc (.sliceL 6 (.t k) (some (.t k')) none) tm h=some x∧Src h x (us.drop i):=by
 have hr:=rh.rows us
 have hl:(us.drop i).length=us.length-i:=by rw[List.length_drop]
 have ht:=rh.drop us i
 have hr2:=rh.rows (us.drop i)
 rcases A.is with⟨rfl,e,_⟩|⟨b,rfl,hb,_⟩|⟨t,rfl,_⟩
 ·have:us=[]:=by
   cases us with
   |nil=>rfl
   |cons x l=>cases e
  subst this
  have:i=0:=by simpa using hi
  subst this
  exact⟨.nils,by simp[hk,Ed],.inl ⟨rfl,rfl⟩⟩
 ·refine⟨.slice b (i*6) (us.length-i) 6,by simp[hk,Ed,hi],.inr (.inr ⟨b,i*6,_,by rw[hl],hb,by omega,?_⟩)⟩
  rw[ht,XO (by omega)]
 ·have h6:(us.length-i)*6≤us.length*6-i*6:=by omega
  have h7:List.take ((us.length-i)*6) (aI eP (us.drop i))=aI eP (us.drop i):=XO (by omega)
  have h8:(us.length-i)*6≤(aI eP (us.drop i)).length:=by omega
  exact⟨.sl (aI eP (us.drop i)) (us.length-i) 6 (.tok t),by simp[hk,Ed,hi,h8,ht,h7],.inr (.inl ⟨_,by rw[hl]⟩)⟩
end Tp
/-
 SM: the reference's pairs of neighbors: the walk, the rest. No condition.
-/
namespace Tp
open Go.Sx Go Tb
open Tg (wsq wop wbk wrt wsk snm srt sex bnm brt bex wp_if)
variable{C:cU}(S:abT C)
include S
structure Sc(c:AV)(r:List Pr)(p:Pr)(np nx:Key)(l0:AV)(j:Nat)(h:T ab)(m:Nat)(tm':T AV)(h':T ab)(nx':Key):Prop where
 e0:aa (K 0) tm'=some l0
 e3:aa (K 3) tm'=some c
 e4:aa (K 4) tm'=some (I j)
 e5:aa (K 5) tm'=some (.ptr np 0)
 e6:aa (K 6) tm'=some (I m)
 A:App c (aI eP r) r.length 6 h' nx' nx
 hp:aa np h'=some (.cells (eP p) .fix)
 x:Ext h nx h' nx'
 lt:np.toNat<nx'.toNat
def ScI(c:AV)(r:List Pr)(p:Pr)(np nx:Key)(l0:AV)(j:Nat)(h:T ab)(m:Nat)(tm':T AV)(h':T ab)(nx':Key):Prop:=
 m≤r.length∧Sc c r p np nx l0 j h m tm' h' nx'∧∀ y∈r.drop m,¬ Vx y p
theorem ahk{c l0:AV}{r:List Pr}{p:Pr}{np nx:Key}{j:Nat}{h:T ab}{tm:T AV}{h1:T ab}{aY:Key}(op:Mb p)(or:∀ y∈r,Mb y)(hr:r.length≤1000000)(X:Sc c r p np nx l0 j h r.length tm h1 aY)(hn:nx.toNat≤np.toNat) :
  W C (.loop EF) (fun e tm' h' nx'=>e=.exit 2∧∃ i:Nat,i≤r.length∧Sc c r p np nx l0 j h i tm' h' nx'∧(∀ y∈r.drop i,¬ Vx y p)∧∀ k,i=k+1→∃ z,r[k]?=some z∧Vx z p) tm h1 aY:=by
 have q1:C.raw ph=false:=S.raw _ (by decide)
 refine W.bV (n:=r.length) (ScI c r p np nx l0 j h) ⟨bS _,X,by simp⟩ ?_
 clear X
 rintro m jk h1 aY ⟨hm,X,hd⟩
 obtain⟨e0,e3,e4,e5,e6,A,hp,x,lt⟩:=X
 refine W.of ?_
 simp[EF]
 cases m with
 |zero=>
  simp[vX,e6]
  exact⟨0,by omega,⟨by simp[e0],by simp[e3],by simp[e4],by simp[e5],by simp[e6],A,hp,x,lt⟩,by simpa using hd,by omega⟩
 |succ m=>
  have hml:m<r.length:=by omega
  have Oc:(0:Int)<(m:Int)+1:=by omega
  have hw:aW .i64 (m:Int)=m:=br (by omega) (by omega)
  have On:=rh.rows r
  have ec:=rh.at hml
  have h6:6≤(aI eP r).length-m*6:=by omega
  have oq:Mb r[m]:=or _ (XV hml)
  have hz:∀ (b:Br) n H,az (ax n) (eB b) H=(eB b,H):=fun b n H=>av (jr.jh b)
  have hsc:=ajb op oq
  have go:∀ tm' h2 aH,Ext h1 aY h2 aH→¬ Vx r[m] p→aa (K 0) tm'=some l0→aa (K 3) tm'=some c→aa (K 4) tm'=some (I j)→aa (K 5) tm'=some (.ptr np 0)→aa (K 6) tm'=some (I m)→ScI c r p np nx l0 j h m tm' h2 aH:=by
   intro tm' h2 aH x2 hle a0 a3 a4 a5 a6
   refine⟨by omega,⟨a0,a3,a4,a5,a6,A.ext x2,by rw[x2.g np lt];exact hp,x.trans x2,by have:=x2.n;omega⟩,?_⟩
   rw[zqt hml]
   intro y hy
   rcases xH.1 hy with rfl|hy
   ·exact hle
   ·exact hd y hy
  have stop:∀ tm' h2 aH,Ext h1 aY h2 aH→Vx r[m] p→aa (K 0) tm'=some l0→aa (K 3) tm'=some c→aa (K 4) tm'=some (I j)→aa (K 5) tm'=some (.ptr np 0)→aa (K 6) tm'=some (I ((m:Int)+1))→∃ i:Nat,i≤r.length∧Sc c r p np nx l0 j h i tm' h2 aH∧(∀ y∈r.drop i,¬ Vx y p)∧∀ k,i=k+1→∃ z,r[k]?=some z∧Vx z p:=by
   intro tm' h2 aH x2 hle a0 a3 a4 a5 a6
   refine⟨m+1,hm,⟨a0,a3,a4,a5,a6,A.ext x2,by rw[x2.g np lt];exact hp,x.trans x2,by have:=x2.n;omega⟩,hd,?_⟩
   intro k hk
   have:k=m:=by omega
   subst this
   exact⟨r[k],Af hml,hle⟩
  have a1:3≤(eP p).length:=by rw[asp];omega
  have h3:3≤(aI eP r).length-m*6:=by omega
  have h33:3≤(aI eP r).length-(m*6+3):=by omega
  have ec1:List.take 3 (List.drop (m*6) (aI eP r))=eB r[m].1:=by
   have:=congrArg (List.take 3) ec
   rw[List.take_take] at this;exact this
  have ec2:List.take 3 (List.drop (m*6+3) (aI eP r))=eB r[m].2:=by
   have:=congrArg (fun l=>List.take 3 (List.drop 3 l)) ec
   simp only[List.drop_take,List.take_take,List.drop_drop] at this
   exact this
  rcases id A.is with⟨rfl,e,_⟩|⟨b,rfl,hb,vj,ab1,hbl⟩|⟨t,rfl,ht,vj,ab1⟩
  ·rw[e] at On;simp at On;omega
  ·simp[vX,e3,e5,e6,hp,hw,Oc,hml,q1,hz,hb,h3,ec1]
   refine(Yc S.toStd p.1 r[m].1 _ _).mono ?_
   rintro o h2 aH ⟨rfl,x2⟩
   have n2:=x2.n
   have hp2:aa np h2=some (.cells (eP p) .fix):=by rw[x2.g np lt];exact hp
   have UU:aa b h2=some (.cells (aI eP r) .part):=by rw[x2.g b ab1];exact hb
   by_cases hc:Yl p.1 r[m].1<0
   ·simp[hc]
    simp[rG,e6,hw]
    exact⟨m,by omega,go _ _ _ x2 (hsc.1 (.inl hc)) (by simp[e0]) (by simp[e3]) (by simp[e4]) (by simp[e5]) (by simp)⟩
   ·have hq:=eqB p.1 r[m].1
    by_cases he:p.1=r[m].1
    ·rw[decide_eq_true he] at hq
     simp[hc,hq,e3,e5,e6,hp2,hw,hml,q1,hz,S.orc,h3,h33,ec1,ec2,UU]
     refine(Yc S.toStd p.2 r[m].2 _ _).mono ?_
     rintro o h3 dw ⟨rfl,x3⟩
     have n3:=x3.n
     simp[rG,e6,hw]
     refine⟨fun Xc=>?_,fun Xc=>?_⟩
     ·exact⟨m,by omega,go _ _ _ (x2.trans x3) (hsc.1 (.inr ⟨he,by omega⟩)) (by simp[e0]) (by simp[e3]) (by simp[e4]) (by simp[e5]) (by simp)⟩
     ·simpa using stop _ _ _ (x2.trans x3) (Classical.not_not.1 fun h=>(hsc.2 h).elim hc fun h=>by have:=h.2;omega) (by simp[e0]) (by simp[e3]) (by simp[e4]) (by simp[e5]) (by simp[e6])
    ·rw[decide_eq_false he] at hq
     simp[hc,hq,e3,e5,e6,hp2,hw,hml,S.orc,h3,ec1,UU]
     simpa using stop _ _ _ x2 (Classical.not_not.1 fun h=>(hsc.2 h).elim hc fun h=>he h.1) (by simp[e0]) (by simp[e3]) (by simp[e4]) (by simp[e5]) (by simp[e6])
  ·simp[vX,e3,e5,e6,hp,hw,Oc,hml,q1,hz,ec,h6,S.orc]
   refine(Yc S.toStd p.1 r[m].1 _ _).mono ?_
   rintro o h2 aH ⟨rfl,x2⟩
   have n2:=x2.n
   have hp2:aa np h2=some (.cells (eP p) .fix):=by rw[x2.g np lt];exact hp
   skip
   by_cases hc:Yl p.1 r[m].1<0
   ·simp[hc]
    simp[rG,e6,hw]
    exact⟨m,by omega,go _ _ _ x2 (hsc.1 (.inl hc)) (by simp[e0]) (by simp[e3]) (by simp[e4]) (by simp[e5]) (by simp)⟩
   ·have hq:=eqB p.1 r[m].1
    by_cases he:p.1=r[m].1
    ·rw[decide_eq_true he] at hq
     simp[hc,hq,e3,e5,e6,hp2,hw,hml,q1,hz,ec,h6,S.orc]
     refine(Yc S.toStd p.2 r[m].2 _ _).mono ?_
     rintro o h3 dw ⟨rfl,x3⟩
     have n3:=x3.n
     simp[rG,e6,hw]
     refine⟨fun Xc=>?_,fun Xc=>?_⟩
     ·exact⟨m,by omega,go _ _ _ (x2.trans x3) (hsc.1 (.inr ⟨he,by omega⟩)) (by simp[e0]) (by simp[e3]) (by simp[e4]) (by simp[e5]) (by simp)⟩
     ·simpa using stop _ _ _ (x2.trans x3) (Classical.not_not.1 fun h=>(hsc.2 h).elim hc fun h=>by have:=h.2;omega) (by simp[e0]) (by simp[e3]) (by simp[e4]) (by simp[e5]) (by simp[e6])
    ·rw[decide_eq_false he] at hq
     simp[hc,hq,e3,e5,e6,hp2,hw,hml,ec,h6,S.orc]
     simpa using stop _ _ _ x2 (Classical.not_not.1 fun h=>(hsc.2 h).elim hc fun h=>he h.1) (by simp[e0]) (by simp[e3]) (by simp[e4]) (by simp[e5]) (by simp[e6])
--END aMS
end Tp
/-
 SM: the reference's pairs of neighbors: the walk of the whole. No condition.
-/
namespace Tp
open Go.Sx Go Tb
open Tg (wsq wop wbk wrt wsk snm srt sex bnm brt bex wp_if)
section
variable{C:cU}{Q:bp}{tm:T AV}{h:T ab}{nx:Key}
theorem QY{dst k:Key}{l:List J}{v:AV}(hk:aa k tm=some v)(hQ:eu C Q l (aK dst (some v) tm) h nx):eu C Q (⟨some dst,.mov (.t k),none⟩ ::l) tm h nx:=by
 rw[KP,wants_none,Ej]
 have g:aOp C.orc (.mov (.t k)) tm h nx=.val v h nx:=by simp[hk]
 rw[g]
 exact hQ
theorem aho{dst:Key}{op:T7}{l:List J}{v:AV}(ho:aOp C.orc op tm h nx=okV h nx (lightOp C.orc op tm h))(hk:lightOp C.orc op tm h=some v)(hQ:eu C Q l (aK dst (some v) tm) h nx):eu C Q (⟨some dst,op,none⟩ ::l) tm h nx:=by
 rw[KP,wants_none,Ej,ho,hk]
 exact hQ
theorem ak3{dst k k':Key}{l:List J}{n0:Key}{d x:AV}{ws vs:List Pr}(hk:aa k tm=some d)(Ed:aa k' tm=some x)(hd:App d (aI eP ws) ws.length 6 h nx n0)(hx:Src h x vs)(hn:n0.toNat≤nx.toNat)(hl:ws.length+vs.length≤1048576)
  (hQ:∀ c' h' nx',App c' (aI eP (ws++vs)) (ws++vs).length 6 h' nx' n0→nx.toNat≤nx'.toNat→(∀ b:Key,b.toNat<n0.toNat→aa b h'=aa b h)→eu C Q l (aK dst (some c') tm) h' nx'):eu C Q (⟨some dst,.append 6 (.t k) (.t k'),none⟩ ::l) tm h nx:=by
 obtain⟨c',h',nx',g,A,VE,hf⟩:=aml (orc:=C.orc) hk Ed hd hx hn hl
 rw[KP,wants_none,Ej,g]
 exact hQ c' h' nx' A VE hf
end
structure Nw(c d:AV)(r ws:List Pr)(p:Pr)(np nx n1:Key)(l0:AV)(j i:Nat)(h:T ab)(tm':T AV)(h':T ab)(nx':Key):Prop where
 e0:aa (K 0) tm'=some l0
 e3:aa (K 3) tm'=some c
 e4:aa (K 4) tm'=some (I j)
 e5:aa (K 5) tm'=some (.ptr np 0)
 e6:aa (K 6) tm'=some (I i)
 e7:aa (K 7) tm'=some d
 A:App c (aI eP r) r.length 6 h' n1 nx
 N:App d (aI eP ws) ws.length 6 h' nx' n1
 hp:aa np h'=some (.cells (eP p) .fix)
 x:Ext h nx h' nx'
 lt:np.toNat<n1.toNat
 le:n1.toNat≤nx'.toNat
 lo:nx.toNat≤n1.toNat
variable{C:cU}{Q:bp}{c d l0:AV}{r ws:List Pr}{p:Pr}{np nx n1:Key}{j i:Nat}{h:T ab}{tm:T AV}{h1:T ab}{aY:Key}
theorem Nw.put(X:Nw c d r ws p np nx n1 l0 j i h tm h1 aY){d':AV}{vs:List Pr}{tm':T AV}{h2:T ab}{aH:Key}(N:App d' (aI eP (ws++vs)) (ws++vs).length 6 h2 aH n1)(hn:aY.toNat≤aH.toNat)(hf:∀ b:Key,b.toNat<n1.toNat→aa b h2=aa b h1)
  (a0:aa (K 0) tm'=some l0) (a3:aa (K 3) tm'=some c) (a4:aa (K 4) tm'=some (I j)) (a5:aa (K 5) tm'=some (.ptr np 0)) (a6:aa (K 6) tm'=some (I i)) (a7:aa (K 7) tm'=some d'):Nw c d' r (ws++vs) p np nx n1 l0 j i h tm' h2 aH:=by
 have xn:=X.x.n
 have:=X.lo
 exact⟨a0,a3,a4,a5,a6,a7,X.A.Bx (bS _) fun b hb _=>hf b hb,N,by rw[hf np X.lt];exact X.hp,⟨by omega,fun q hq=>by rw[hf q (by omega),X.x.g q hq]⟩,X.lt,by have:=X.le;omega,X.lo⟩
theorem apm(X:Nw c d r ws p np nx n1 l0 j i h tm h1 aY)(hi:i≤r.length)(hl:ws.length+r.length≤1048576)(cont:∀ d' tm' h2 aH,Nw c d' r (ws++r.take i) p np nx n1 l0 j i h tm' h2 aH→Q .norm tm' h2 aH):eu C Q My tm h1 aY:=by
 have ht:(r.take i).length≤r.length:=by rw[zqy];omega
 refine QY X.e7 (QY (v:=c) (by simp[X.e3]) (QY (v:=I i) (by simp[X.e6]) ?_))
 obtain⟨x,g,hx⟩:=aqc (orc:=C.orc) (k:=K 79) (k':=K 80) (tm:=aK (K 80) (some (I i)) (aK (K 79) (some c) (aK (K 78) (some d) tm))) (by simp) (by simp) X.A hi
 refine aho rfl g (ak3 (d:=d) (x:=x) (by simp) (by simp) X.N hx X.le (by omega) fun c' h' nx' A' VE hf=>?_)
 refine QY (v:=c') (by simp) ?_
 simp
 exact cont _ _ _ _ (X.put A' VE hf (by simp[X.e0]) (by simp[X.e3]) (by simp[X.e4]) (by simp[X.e5]) (by simp[X.e6]) (by simp))
theorem apn(X:Nw c d r ws p np nx n1 l0 j i h tm h1 aY)(hi:i≤r.length)(hl:ws.length+(r.length-i)≤1048576)(cont:∀ d' tm' h2 aH,aa (K 0) tm'=some l0→aa (K 3) tm'=some d'→aa (K 4) tm'=some (I j)→App d' (aI eP (ws++r.drop i)) (ws++r.drop i).length 6 h2 aH nx→Ext h nx h2 aH→Q .norm tm' h2 aH):eu C Q Mz tm h1 aY:=by
 have ht:(r.drop i).length=r.length-i:=by rw[List.length_drop]
 have xn:=X.x.n
 have:=X.lo
 refine QY X.e7 (QY (v:=c) (by simp[X.e3]) (QY (v:=I i) (by simp[X.e6]) ?_))
 obtain⟨x,g,hx⟩:=aqd (orc:=C.orc) (k:=K 88) (k':=K 89) (tm:=aK (K 89) (some (I i)) (aK (K 88) (some c) (aK (K 87) (some d) tm))) (by simp) (by simp) X.A hi
 refine aho rfl g (ak3 (d:=d) (x:=x) (by simp) (by simp) X.N hx X.le (by omega) fun c' h' nx' A' VE hf=>?_)
 refine QY (v:=c') (by simp) ?_
 simp
 refine cont c' _ _ _ (by simp[X.e0]) (by simp) (by simp[X.e4]) ?_ ⟨by omega,fun q hq=>by rw[hf q (by omega),X.x.g q hq]⟩
 refine⟨?_⟩
 rcases A'.is with⟨rfl,e⟩|⟨b,rfl,hb,vj,e⟩|⟨t,rfl,ht,vj,e⟩
 ·exact .inl ⟨rfl,e⟩
 ·exact .inr (.inl ⟨b,rfl,hb,by omega,e⟩)
 ·exact .inr (.inr ⟨t,by rfl,ht,by omega,e⟩)
theorem apo(X:Nw c d r ws p np nx n1 l0 j i h tm h1 aY)(hl:ws.length+1≤1048576)(cont:∀ d' tm' h2 aH,Nw c d' r (ws ++ [p]) p np nx n1 l0 j i h tm' h2 aH→Q .norm tm' h2 aH):eu C Q BI tm h1 aY:=by
 have s1:=kTSu aY
 have hz:∀ n H,az (ax n) (eP p) H=(eP p,H):=fun n H=>aqb
 have hle:=X.le
 obtain⟨d2,h2,aH,g,N2,hn,hf,_⟩:=(X.N.ext (E0 h1 aY (.cells (eP p) .fix))).aqu rh (by omega) hl p
 simp[-appendTo,BI,X.e5,X.e7,X.hp,hz,g]
 exact cont _ _ _ _ (X.put N2 (by omega) (fun b hb=>by rw[hf b hb,bA (by omega)]) (by simp[X.e0]) (by simp[X.e3]) (by simp[X.e4]) (by simp[X.e5]) (by simp[X.e6]) (by simp))
theorem awI(S:abT C){A B:U}(X:Sc c r p np nx l0 j h i tm h1 aY)(hi:i≤r.length)
  (hA:∀ tm',r[i]?=some p→Sc c r p np nx l0 j h i tm' h1 aY→bt C A Q tm' h1 aY) (hB:∀ tm',¬ r[i]?=some p→Sc c r p np nx l0 j h i tm' h1 aY→bt C B Q tm' h1 aY) :
  bt C (.seq (.staged fp ⟨[K 66,K 67,K 68,K 69,K 70,K 71,K 72,K 73,K 74,K 75,K 76,K 77],[]⟩) (.cond (.t (K 77)) A B)) Q tm h1 aY:=by
 obtain⟨e0,e3,e4,e5,e6,Ax,hp,x,lt⟩:=X
 have aQ:∀ tm',aa (K 0) tm'=aa (K 0) tm→aa (K 3) tm'=aa (K 3) tm→aa (K 4) tm'=aa (K 4) tm→aa (K 5) tm'=aa (K 5) tm→aa (K 6) tm'=aa (K 6) tm→Sc c r p np nx l0 j h i tm' h1 aY:=fun tm' a b c d e=>⟨a.trans e0,b.trans e3,c.trans e4,d.trans e5,e.trans e6,Ax,hp,x,lt⟩
 have On:=rh.rows r
 by_cases aM:i<r.length
 ·have ec:=rh.at aM
  have h6:6≤(aI eP r).length-i*6:=by omega
  have hq:=XJ r[i] p
  have hge:r[i]?=some r[i]:=Af aM
  rw[hge] at hA hB
  rcases id Ax.is with⟨rfl,e,_⟩|⟨b,rfl,hb,vj,ab1,hbl⟩|⟨t,rfl,ht,vj,ab1⟩
  ·rw[e] at On;simp at On;omega
  ·by_cases he:r[i]=p
   ·rw[decide_eq_true he] at hq
    simp[fp,e3,e5,e6,hp,aM,hb,ec,h6,S.orc,hq]
    exact hA _ (by rw[he]) (aQ _ (by simp) (by simp) (by simp) (by simp) (by simp))
   ·rw[decide_eq_false he] at hq
    simp[fp,e3,e5,e6,hp,aM,hb,ec,h6,S.orc,hq]
    exact hB _ (fun h=>he (Option.some.inj h)) (aQ _ (by simp) (by simp) (by simp) (by simp) (by simp))
  ·by_cases he:r[i]=p
   ·rw[decide_eq_true he] at hq
    simp[fp,e3,e5,e6,hp,aM,ec,h6,S.orc,hq]
    exact hA _ (by rw[he]) (aQ _ (by simp) (by simp) (by simp) (by simp) (by simp))
   ·rw[decide_eq_false he] at hq
    simp[fp,e3,e5,e6,hp,aM,ec,h6,S.orc,hq]
    exact hB _ (fun h=>he (Option.some.inj h)) (aQ _ (by simp) (by simp) (by simp) (by simp) (by simp))
 ·have hn:¬ r[i]?=some p:=by rw[zqo (by omega)];simp
  have fin:=fun tm' a b c d e=>hB tm' hn (aQ tm' a b c d e)
  have LV:i=r.length:=by omega
  rcases id Ax.is with⟨rfl,e,e2⟩|⟨b,rfl,hb,vj,ab1,hbl⟩|⟨t,rfl,ht,vj,ab1⟩
  ·have ak4:¬ (i:Int)<0:=by omega
   simp[fp,e3,e6,ak4]
   exact fin _ (by simp) (by simp) (by simp) (by simp) (by simp)
  ·simp[fp,e3,e6,aM]
   exact fin _ (by simp) (by simp) (by simp) (by simp) (by simp)
  ·simp[fp,e3,e6,aM]
   exact fin _ (by simp) (by simp) (by simp) (by simp) (by simp)
theorem wlp{c:U}(x:W C (.loop c) Q tm h nx):bt C (.loop c) Q tm h nx:=x
theorem wxt{k:Nat}(x:Q (.exit k) tm h nx):bt C (.exit k) Q tm h nx:=x
theorem awJ{Q:bp}{h:T ab}{nx n0:Key}(e3:aa (K 3) tm=some c)(A:App c (aI eP r) r.length 6 h nx n0)(cont:∀ tm',aa (K 0) tm'=aa (K 0) tm→aa (K 3) tm'=some c→aa (K 4) tm'=aa (K 4) tm→aa (K 5) tm'=aa (K 5) tm→aa (K 6) tm'=some (I r.length)→Q .norm tm' h nx):eu C Q rF tm h nx:=by
 rcases A.is with⟨rfl,e,e2⟩|⟨b,rfl,hb,vj,ab1,hbl⟩|⟨t,rfl,ht,vj,ab1⟩
 ·simp[rF,e3]
  exact cont _ (by simp) (by simp[e3]) (by simp) (by simp) (by simp[e2])
 ·simp[rF,e3]
  exact cont _ (by simp) (by simp[e3]) (by simp) (by simp) (by simp)
 ·simp[rF,e3]
  exact cont _ (by simp) (by simp[e3]) (by simp) (by simp) (by simp)
theorem awK(X:Sc c r p np nx l0 j h i tm h1 aY)(cont:∀ tm',Nw c .nils r [] p np nx aY l0 j i h tm' h1 aY→Q .norm tm' h1 aY):eu C Q EH tm h1 aY:=by
 simp[EH]
 exact cont _ ⟨by simp[X.e0],by simp[X.e3],by simp[X.e4],by simp[X.e5],by simp[X.e6],by simp,X.A,App.nil 6,X.hp,X.x,X.lt,bS _,X.x.n⟩
theorem af5.len{l r:List Pr}{x:Pr}(h:af5 Vx l x r):r.length≤l.length+1:=by
 obtain⟨i,hi,_,_,rfl⟩:=h
 split
 ·omega
 ·rw[Lc,Tj,zqy,List.length_drop];omega
def OuI(l:List Br)(l0:AV)(nx:Key)(h:T ab)(k:Nat)(tm':T AV)(h':T ab)(nx':Key):Prop:=
 ∃ (j:Nat) (c:AV) (r:List Pr),k=(dH l).length-j∧j≤(dH l).length∧aa (K 0) tm'=some l0∧aa (K 3) tm'=some c∧aa (K 4) tm'=some (I j)∧App c (aI eP r) r.length 6 h' nx' nx∧acI (·∈(dH l).take j) r∧r.length≤j∧Ext h nx h' nx'
theorem af6(S:abT C){c0:AV}{l:List Br}{h:T ab}{nx:Key}(hc:Ar h nx c0 l)(ho:NQ l)(hl:l.length≤1000000):aO C ud [c0] h nx (fun o h' nx'=>Wa (·∈dH l) (dH l).length o∧Ext h nx h' nx'):=by
 have hnl:=QZ l
 have hon:=acJ ho
 refine S.toStd.aaF.call ?_
 simp[GS]
 simp[OY]
 simp[OZ]
 simp[Pa]
 refine W.bV (n:=(dH l).length) (OuI l c0 nx h) ?_ ?_
 ·exact⟨0,.nils,[],by omega,by omega,by simp,by simp,by simp,App.nil 6,⟨List.Pairwise.nil,fun y=>by simp⟩,by simp,Ext.refl _ _⟩
 rintro k jk h1 aY ⟨j,c,r,rfl,hj,e0,e3,e4,A,TU,On,x⟩
 refine W.of ?_
 have n1:=x.n
 have s1:=kTSu aY
 have or:∀ y∈r,Mb y:=fun y hy=>hon y (List.mem_of_mem_take ((TU.mem y).1 hy))
 simp[Pe]
 have rest:∀ tm',aa (K 3) tm'=some c→j=(dH l).length→bt C ((U.ops BJ).seq .ret) (aN [.tmp (K 2)] fun o h' nx'=>Wa (·∈dH l) (dH l).length o∧Ext h nx h' nx') tm' h1 aY:=by
  intro tm' a3 UM
  obtain⟨z1,z2⟩:=A.ahc rh 9998
  rw[UM,List.take_length] at TU
  simp
  simp[BJ,a3]
  exact⟨⟨_,rfl,r,z1,TU,by omega⟩,n1,fun q hq=>by rw[z2 q hq,x.g q hq]⟩
 by_cases aM:j<(dH l).length
 ·have RX:j+1<l.length:=by omega
  clear rest
  rcases hc with⟨_,rfl⟩|⟨f,rfl⟩|⟨bk,rfl,ak5,hlk⟩
  ·simp at RX
  ·have hr0:(aI eB l).length=l.length*3:=jr.rows l
   have ec:=jr.at (l:=l) (i:=j) (by omega)
   have ec1:=jr.at (l:=l) (i:=j+1) RX
   have h3:3≤(aI eB l).length-j*3:=by omega
   have h31:3≤(aI eB l).length-(j+1)*3:=by omega
   have Yd:(dH l)[j]=(l[j],l[j+1]):=by have:=KY l j RX;rw[Af aM] at this;simpa using this
   have heP:eP (dH l)[j]=eB l[j]++eB l[j+1]:=by rw[Yd];rfl
   have op:Mb (dH l)[j]:=hon _ (XV aM)
   have TO:aW .i64 ((j:Int)+1)=((j+1:Nat):Int):=by rw[show(j:Int)+1=((j+1:Nat):Int) by omega];exact br (by omega) (by omega)
   have UU:((j+1:Nat):Int)<l.length:=by omega
   have Yd:j<l.length:=by omega
   have htk:(dH l).take (j+1)=(dH l).take j ++ [(dH l)[j]]:=zqu aM
   have fin:∀ tm' h2 aH c' r',aa (K 0) tm'=some (.sl (aI eB l) l.length 3 f)→aa (K 3) tm'=some c'→aa (K 4) tm'=some (I j)→App c' (aI eP r') r'.length 6 h2 aH nx→af5 Vx r (dH l)[j] r'→Ext h nx h2 aH→OuI l (.sl (aI eB l) l.length 3 f) nx h ((dH l).length-(j+1)) (aK (K 4) (some (I ((j+1:Nat):Int))) (aK (K 14) (some (I ((j+1:Nat):Int))) (aK (K 13) (some (I j)) tm'))) h2 aH:=by
    intro tm' h2 aH c' r' a0 a3 a4 A' hp e'
    obtain⟨b1,b2,b3⟩:=aej VC TU.sr or op hp
    exact⟨j+1,c',r',rfl,by omega,by simp[a0],by simp[a3],by simp,A',⟨b1,fun y=>by rw[b2 y,TU.mem y,htk,List.mem_append,List.mem_singleton];exact or_comm⟩,by omega,e'⟩
   generalize hp:(dH l)[j]=p at heP op fin
   generalize hjj:((j+1:Nat):Int)=jj at TO UU fin
   have af7:rm (I jj)=some (j+1):=by rw[← hjj];rfl
   generalize aI eB l=L at e0 ec ec1 h3 h31 hr0 fin
   have zp:(eB l[j]++eB l[j+1]).all AV.aD=true:=rfl
   simp[mT,e0,e4,TO,UU]
   have hB:∀ b,(eB b).all AV.aD=true:=fun _=>rfl
   simp[EC,e0,e4,TO,Yd,RX,af7,ec,ec1,h3,h31,hB]
   have A2:=A.ext (E0 h1 aY (.cells (eP p) .fix))
   have hg:aa aY (aK aY (some (.cells (eP p) .fix)) h1)=some (.cells (eP p) .fix):=gTSm _ _ _
   have x2:=x.trans (E0 h1 aY (.cells (eP p) .fix))
   rw[← heP]
   generalize aK aY (some (ab.cells (eP p) CK.fix)) h1=h2 at A2 hg x2
   have done:∀ {tm' h3 dw} {c':AV} {r':List Pr},aa (K 0) tm'=some (.sl L l.length 3 f)→aa (K 3) tm'=some c'→aa (K 4) tm'=some (I j)→App c' (aI eP r') r'.length 6 h3 dw nx→af5 Vx r p r'→Ext h nx h3 dw→∀ {Q:bp},(∀ tm' h' nx' m,m<(dH l).length-j→OuI l (.sl L l.length 3 f) nx h m tm' h' nx'→Q .norm tm' h' nx')→bt C (.ops pj) Q tm' h3 dw:=by
    intro tm' h3 dw c' r' a0 a3 a4 A' hpu e' Q hQ
    simp[pj,a4,TO]
    exact hQ _ _ _ _ (by omega) (fin _ _ _ _ _ a0 a3 a4 A' hpu e')
   refine awJ (c:=c) (by simp[e3]) A2 fun xD b0 b3 b4 b5 b6=>snm (wsq (wbk (wlp ?_)))
   have X0:Sc c r p aY nx (.sl L l.length 3 f) j h r.length xD h2 aY.succ:=⟨b0.trans (by simp[e0]),b3,b4.trans (by simp[e4]),b5.trans (by simp),b6,A2,hg,x2,by omega⟩
   refine(ahk S op or (by omega) X0 n1).mono ?_
   rintro e Vp h3 dw ⟨rfl,i,hi,X,hd,Oc⟩
   refine bex (snm (wsq (awI S X hi (fun oW UE X=>?_) fun oW UE X=>?_)))
   ·refine wxt (sex (bex (snm (done X.e0 X.e3 X.e4 X.A ⟨i,hi,hd,Oc,by rw[if_pos UE]⟩ X.x fun tm' h' nx' m hm hI=>?_))))
    exact⟨m,hm,hI⟩
   ·refine wsk (snm (wsq (wop (awK X fun Wt X=>snm (wsq (wop (apm X hi (by simp;omega) fun d1 tm6 h6 IC X=>snm (wsq (wop (apo X (by simp;omega) fun d2 tm7 h7 tZ X=>snm (wop (apn X hi ?_ fun d3 tm8 h8 Bs a0 a3 a4 A8 x8=>?_))))))))))))
    ·simp only[Lc,zqy,List.length_nil,List.length_singleton];omega
    ·refine bnm (snm (done a0 a3 a4 A8 ⟨i,hi,hd,Oc,by rw[if_neg UE];simp⟩ x8 fun tm' h' nx' m hm hI=>⟨m,hm,hI⟩))
  ·have hbk:aa bk h1=some (.cells (aI eB l) .part):=by rw[x.g bk hlk];exact ak5
   have hr0:(aI eB l).length=l.length*3:=jr.rows l
   have ec:=jr.at (l:=l) (i:=j) (by omega)
   have ec1:=jr.at (l:=l) (i:=j+1) RX
   have h3:3≤(aI eB l).length-j*3:=by omega
   have h31:3≤(aI eB l).length-(j+1)*3:=by omega
   have Yd:(dH l)[j]=(l[j],l[j+1]):=by have:=KY l j RX;rw[Af aM] at this;simpa using this
   have heP:eP (dH l)[j]=eB l[j]++eB l[j+1]:=by rw[Yd];rfl
   have op:Mb (dH l)[j]:=hon _ (XV aM)
   have TO:aW .i64 ((j:Int)+1)=((j+1:Nat):Int):=by rw[show(j:Int)+1=((j+1:Nat):Int) by omega];exact br (by omega) (by omega)
   have UU:((j+1:Nat):Int)<l.length:=by omega
   have Yd:j<l.length:=by omega
   have htk:(dH l).take (j+1)=(dH l).take j ++ [(dH l)[j]]:=zqu aM
   have fin:∀ tm' h2 aH c' r',aa (K 0) tm'=some (.slice bk 0 l.length 3)→aa (K 3) tm'=some c'→aa (K 4) tm'=some (I j)→App c' (aI eP r') r'.length 6 h2 aH nx→af5 Vx r (dH l)[j] r'→Ext h nx h2 aH→OuI l (.slice bk 0 l.length 3) nx h ((dH l).length-(j+1)) (aK (K 4) (some (I ((j+1:Nat):Int))) (aK (K 14) (some (I ((j+1:Nat):Int))) (aK (K 13) (some (I j)) tm'))) h2 aH:=by
    intro tm' h2 aH c' r' a0 a3 a4 A' hp e'
    obtain⟨b1,b2,b3⟩:=aej VC TU.sr or op hp
    exact⟨j+1,c',r',rfl,by omega,by simp[a0],by simp[a3],by simp,A',⟨b1,fun y=>by rw[b2 y,TU.mem y,htk,List.mem_append,List.mem_singleton];exact or_comm⟩,by omega,e'⟩
   generalize hp:(dH l)[j]=p at heP op fin
   generalize hjj:((j+1:Nat):Int)=jj at TO UU fin
   have af7:rm (I jj)=some (j+1):=by rw[← hjj];rfl
   generalize aI eB l=L at hbk ec ec1 h3 h31 hr0
   have zp:(eB l[j]++eB l[j+1]).all AV.aD=true:=rfl
   simp[mT,e0,e4,TO,UU]
   have hB:∀ b,(eB b).all AV.aD=true:=fun _=>rfl
   simp[EC,hbk,e0,e4,TO,Yd,RX,af7,ec,ec1,h3,h31,hB]
   have A2:=A.ext (E0 h1 aY (.cells (eP p) .fix))
   have hg:aa aY (aK aY (some (.cells (eP p) .fix)) h1)=some (.cells (eP p) .fix):=gTSm _ _ _
   have x2:=x.trans (E0 h1 aY (.cells (eP p) .fix))
   rw[← heP]
   generalize aK aY (some (ab.cells (eP p) CK.fix)) h1=h2 at A2 hg x2
   have done:∀ {tm' h3 dw} {c':AV} {r':List Pr},aa (K 0) tm'=some (.slice bk 0 l.length 3)→aa (K 3) tm'=some c'→aa (K 4) tm'=some (I j)→App c' (aI eP r') r'.length 6 h3 dw nx→af5 Vx r p r'→Ext h nx h3 dw→∀ {Q:bp},(∀ tm' h' nx' m,m<(dH l).length-j→OuI l (.slice bk 0 l.length 3) nx h m tm' h' nx'→Q .norm tm' h' nx')→bt C (.ops pj) Q tm' h3 dw:=by
    intro tm' h3 dw c' r' a0 a3 a4 A' hpu e' Q hQ
    simp[pj,a4,TO]
    exact hQ _ _ _ _ (by omega) (fin _ _ _ _ _ a0 a3 a4 A' hpu e')
   refine awJ (c:=c) (by simp[e3]) A2 fun xD b0 b3 b4 b5 b6=>snm (wsq (wbk (wlp ?_)))
   have X0:Sc c r p aY nx (.slice bk 0 l.length 3) j h r.length xD h2 aY.succ:=⟨b0.trans (by simp[e0]),b3,b4.trans (by simp[e4]),b5.trans (by simp),b6,A2,hg,x2,by omega⟩
   refine(ahk S op or (by omega) X0 n1).mono ?_
   rintro e Vp h3 dw ⟨rfl,i,hi,X,hd,Oc⟩
   refine bex (snm (wsq (awI S X hi (fun oW UE X=>?_) fun oW UE X=>?_)))
   ·refine wxt (sex (bex (snm (done X.e0 X.e3 X.e4 X.A ⟨i,hi,hd,Oc,by rw[if_pos UE]⟩ X.x fun tm' h' nx' m hm hI=>?_))))
    exact⟨m,hm,hI⟩
   ·refine wsk (snm (wsq (wop (awK X fun Wt X=>snm (wsq (wop (apm X hi (by simp;omega) fun d1 tm6 h6 IC X=>snm (wsq (wop (apo X (by simp;omega) fun d2 tm7 h7 tZ X=>snm (wop (apn X hi ?_ fun d3 tm8 h8 Bs a0 a3 a4 A8 x8=>?_))))))))))))
    ·simp only[Lc,zqy,List.length_nil,List.length_singleton];omega
    ·refine bnm (snm (done a0 a3 a4 A8 ⟨i,hi,hd,Oc,by rw[if_neg UE];simp⟩ x8 fun tm' h' nx' m hm hI=>⟨m,hm,hI⟩))
 ·have UM:j=(dH l).length:=by omega
  simp at rest
  rcases hc with⟨rfl,rfl⟩|⟨f,rfl⟩|⟨bk,rfl,ak5,hlk⟩
  ·have hj0:j=0:=by have:(dH []).length=0:=rfl;omega
   subst hj0
   have w1:aW .i64 1=1:=rfl
   simp[mT,e0,e4,w1]
   exact rest _ (by simp[e3]) (by omega)
  ·have UU:¬ ((j+1:Nat):Int)<l.length:=by omega
   have TO:aW .i64 ((j:Int)+1)=((j+1:Nat):Int):=by rw[show(j:Int)+1=((j+1:Nat):Int) by omega];exact br (by omega) (by omega)
   generalize hjj:((j+1:Nat):Int)=jj at TO UU
   generalize aI eB l=L at e0
   simp[mT,e0,e4,TO,UU]
   exact rest _ (by simp[e3]) UM
  ·have UU:¬ ((j+1:Nat):Int)<l.length:=by omega
   have TO:aW .i64 ((j:Int)+1)=((j+1:Nat):Int):=by rw[show(j:Int)+1=((j+1:Nat):Int) by omega];exact br (by omega) (by omega)
   generalize hjj:((j+1:Nat):Int)=jj at TO UU
   simp[mT,e0,e4,TO,UU]
   exact rest _ (by simp[e3]) UM
end Tp
/-
 SM: lists of branches made from numbers, as they grow. No condition.
-/
namespace Tb
open Go.Sx Go
structure FnR(C:cU)(f:Nat)(p:eG):Prop where
 get:OL C f=some p
 off:∀ l h nx,C.sum f l h nx=none
 IS:C.IS f=true
def aa3(res:List RV)(R:Out→T ab→Key→Prop):bp:=fun e tm h nx=>match e with
 |.norm|.ret=>∃ l,resultsA h tm res=some l∧R (.ret (vU l)) h nx
 |.pan a=>R (.pan a) h nx
 |.exit _=>False
@[simp] theorem atI(res:List RV)(R:Out→T ab→Key→Prop)(tm:T AV)(h:T ab)(nx:Key):aa3 res R .ret tm h nx=∃ l,resultsA h tm res=some l∧R (.ret (vU l)) h nx:=VI Iff.rfl
@[simp] theorem aqs(res:List RV)(R:Out→T ab→Key→Prop)(tm:T AV)(h:T ab)(nx:Key):aa3 res R .norm tm h nx=∃ l,resultsA h tm res=some l∧R (.ret (vU l)) h nx:=VI Iff.rfl
theorem FnR.call{C:cU}{f:Nat}{p:eG}(S:FnR C f p){l:List AV}{h:T ab}{nx:Key}{R:Out→T ab→Key→Prop}(hw:bt C p.body (aa3 p.res R) (ml l (K 0) .nil) h nx):aO C f l h nx R:=by
 refine aO.of_wp (S.off _ _ _) S.get ?_
 have e:I7 C f p.res R=aa3 p.res R:=by
  funext e tm h nx
  cases e<;>simp only[I7,aa3,S.IS]<;>rfl
 rw[e]
 exact hw
def eI(n:Int):List AV:=[I n]
theorem aoA:Flat 1 eI where
 len _:=rfl
 jh x y hy:=by simp[eI] at hy;subst hy;exact Lt _ _
 cell x y hy:=by simp[eI] at hy;subst hy;rfl
 lits x:=rfl
def inR(l:List Int):Prop:=∀ n∈l,-9223372036854775808≤n∧n<9223372036854775808
def mkB(q:Nat):Br:=⟨if q%3=0 then 0 else 1,if q%3=0 then 0 else if q%3=1 then 102 else 103,(q:Int) / 3%5-1,(q:Int) / 15%3⟩
def mk(n:Int):Br:=mkB (arF n 120).toNat
def lst(l:List Int):List Br:=(l.take 14).map mk
theorem au5(n:Int):Ta (mk n):=by
 unfold mk mkB Ta
 simp only
 split
 ·simp
 ·split<;>decide
theorem ajH(l:List Int):NQ (lst l):=fun y hy=>by
 obtain⟨n,_,rfl⟩:=Vn.1 hy
 exact au5 n
theorem agQ(l:List Int):(lst l).length≤14:=by unfold lst;rw[List.length_map,zqy];omega
theorem amx{n m:Int}(h1:-9223372036854775808≤n)(h2:n<9223372036854775808)(hm:0<m):0≤arF n m∧arF n m<m:=by
 unfold arF
 have hnn:0≤(if n<0 then aW .i64 (0-aW .i64 (n+1)) else n):=by
  split
  ·rw[br (n:=n+1) (by omega) (by omega),br (by omega) (by omega)];omega
  ·omega
 exact⟨Int.tmod_nonneg _ hnn,Int.tmod_lt_of_pos _ hm⟩
variable{C:cU}(S:Std C)
include S
theorem aAI{q:Nat}(hq:q<120){d:AV}{us:List Br}{h0 h:T ab}{nx0 nx:Key}{tm:T AV}(f5:aa (K 5) tm=some (I (q:Int)))(f3:aa (K 3) tm=some d)(hA:App d (aI eB us) us.length 3 h nx nx0)(he:Ext h0 nx0 h nx)(hu:us.length≤100){R:bp}
  (hR:∀ tm' d' h' nx',aa (K 0) tm'=aa (K 0) tm→aa (K 4) tm'=aa (K 4) tm→aa (K 3) tm'=some d'→App d' (aI eB (us ++ [mkB q])) (us ++ [mkB q]).length 3 h' nx' nx0→Ext h0 nx0 h' nx'→R .norm tm' h' nx') :
  bt C (.ops H0) R tm h nx:=by
 have t2:=kTSu nx
 have t3:=kTSu nx.succ
 have n0:=he.n
 have k0:Int.tmod (q:Int) 3=(q:Int)%3:=Int.tmod_eq_emod_of_nonneg (by omega)
 have k1:rm (.int .i64 (.lit ((q:Int)%3)))=some (q%3):=by rw[show(q:Int)%3=((q%3:Nat):Int) by omega];rfl
 have k2:aW .i64 ((q:Int) / 3)=(q:Int) / 3:=br (by omega) (by omega)
 have k3:Int.tmod ((q:Int) / 3) 5=(q:Int) / 3%5:=Int.tmod_eq_emod_of_nonneg (by omega)
 have k4:aW .i64 ((q:Int) / 3%5-1)=(q:Int) / 3%5-1:=br (by omega) (by omega)
 have k5:aW .i64 ((q:Int) / 15)=(q:Int) / 15:=br (by omega) (by omega)
 have k6:Int.tmod ((q:Int) / 15) 3=(q:Int) / 15%3:=Int.tmod_eq_emod_of_nonneg (by omega)
 have Tc:([AV.str 0 0,AV.str 1 102,AV.str 1 103]:List AV)[q%3]?=some (.str (mkB q).a (mkB q).b):=by
  have:q%3=0∨q%3=1∨q%3=2:=by omega
  unfold mkB
  rcases this with h|h|h<;>rw[h]<;>rfl
 have h33:q%3<3:=Nat.mod_lt _ (by omega)
 have ajI:([AV.str 0 0,AV.str 1 102,AV.str 1 103]:List AV)[q%3]'h33=.str (mkB q).a (mkB q).b:=by
  rw[Af h33] at Tc;exact Option.some.inj Tc
 clear Tc
 have hz:∀ H,az (ax 9999) (eB (mkB q)) H=(eB (mkB q),H):=fun H=>av (jr.jh _)
 have hee:[AV.str (mkB q).a (mkB q).b,I ((q:Int) / 3%5-1),I ((q:Int) / 15%3)]=eB (mkB q):=rfl
 have A1:App d (aI eB us) us.length 3 (aK nx.succ (some (.cells (eB (mkB q)) .fix)) (aK nx (some (.cells [AV.str 0 0,AV.str 1 102,AV.str 1 103] .fix)) h)) nx.succ.succ nx0:=(hA.ext (E0 h nx _)).ext (E0 _ nx.succ _)
 obtain⟨c2,h3,dw,g2,A2,m1,m2,m3⟩:=A1.aqu jr (by omega) (by omega) (mkB q)
 generalize hN:(mkB q).a=na at ajI hee
 generalize hM:(mkB q).b=nb at ajI hee
 simp[-appendTo,H0,f5,k0,k1,k2,k3,k4,k5,k6,ajI,h33,f3,hee,hz,g2]
 refine hR _ c2 _ _ ?_ ?_ ?_ A2 ?_
 ·simp
 ·simp
 ·simp
 ·exact⟨by omega,fun b hb=>by rw[m2 b hb,bA (by omega),bA (by omega)];exact he.g b hb⟩
def ajJ(l:List Int)(h:T ab)(nx:Key)(k:Nat)(tm':T AV)(h':T ab)(nx':Key):Prop:=
 ∃ (j:Nat) (d:AV),k=14-j∧j≤l.length∧j≤14∧aa (K 0) tm'=some (.sl (aI eI l) l.length 1 .any)∧aa (K 3) tm'=some d∧aa (K 4) tm'=some (I j)∧
  App d (aI eB ((l.take j).map mk)) ((l.take j).map mk).length 3 h' nx' nx∧Ext h nx h' nx'
def aoB(l:List Br)(h:T ab)(nx:Key)(o:Out)(h':T ab)(nx':Key):Prop:=(∃ c',o=.ret c'∧App c' (aI eB l) l.length 3 h' nx' nx)∧Ext h nx h' nx'
theorem ab0(SL:FnR C nM Et){c:AV}{l:List Int}(hc:IsR 1 eI c l)(hl:inR l)(h:T ab)(nx:Key):aO C nM [c] h nx (aoB (lst l) h nx):=by
 have r1:C.raw jI=false:=S.raw _ (by decide)
 refine SL.call ?_
 simp[Et]
 simp[R0]
 simp[R4]
 simp[R5]
 rcases hc with⟨rfl,rfl⟩|rfl
 ·refine W.rn (W.of ?_)
  simp[H4]
  simp[uc]
  simp[Ag]
  exact⟨⟨_,rfl,App.nil 3⟩,Ext.refl _ _⟩
 ·refine W.bV (n:=14) (ajJ l h nx) ?_ ?_
  ·refine⟨0,.nils,by simp,by omega,by omega,?_,?_,?_,App.nil 3,Ext.refl _ _⟩<;>simp
  ·rintro k jk h1 aY ⟨j,d,rfl,hj,hj2,f0,f3,f4,hA,e1⟩
   have fin:∀ tm,aa (K 3) tm=some d→(l.length≤j∨14≤j)→bt C ((U.ops Ag).seq U.ret) (aa3 [RV.tmp (K 2)] (aoB (lst l) h nx)) tm h1 aY:=by
    intro tm g3 aAJ
    have he:l.take j=l.take 14:=by
     rcases aAJ with h|h
     ·rw[XO h,XO (by omega)]
     ·have:j=14:=by omega
      rw[this]
    rw[he] at hA
    simp
    simp[Ag,g3]
    exact⟨⟨_,rfl,hA⟩,e1⟩
   refine W.of ?_
   simp[H4]
   by_cases aM:j<l.length
   ·by_cases ab1:j<14
    ·have Ix:(j:Int)<l.length:=by omega
     have W9:(j:Int)<14:=by omega
     simp[uc,f0,f4,Ix,W9]
     have ec:List.take 1 (List.drop j (aI eI l))=[I l[j]]:=by
      have:=aoA.at aM
      rw[Nat.mul_one] at this
      exact this
     have hrw:=aoA.rows l
     have h5:1≤(aI eI l).length-j:=by omega
     simp[R6,f0,f4,aM,h5,ec,r1]
     refine(aid S l[j] 120 (by omega) _ _).mono ?_
     rintro o h2 aH ⟨rfl,e2⟩
     obtain⟨ha,hb⟩:=amx (hl _ (XV aM)).1 (hl _ (XV aM)).2 (m:=120) (by omega)
     obtain⟨q,hq⟩:=Int.eq_ofNat_of_zero_le ha
     have au8:q<120:=by omega
     have hmk:mk l[j]=mkB q:=by unfold mk;rw[hq];rfl
     rw[hq]
     simp
     have hlj:((l.take j).map mk).length=j:=by rw[List.length_map,zqy];omega
     refine(aAI S au8 (tm:=aK (K 5) (some (I (q:Int))) (aK (K 20) (some (I (q:Int))) (aK (K 19) (some (I l[j])) (aK (K 18) (some (.cref [I l[j]])) (aK (K 17) (some (I j)) (aK (K 16) (some (.sl (aI eI l) l.length 1 .any)) (aK (K 13) (some (.bool true)) (aK (K 12) (some (.bool true)) (aK (K 11) (some (I j)) (aK (K 10) (some (.bool true)) (aK (K 9) (some (.bool true)) (aK (K 8) (some (I l.length)) (aK (K 7) (some (.sl (aI eI l) l.length 1 .any)) (aK (K 6) (some (I j)) jk)))))))))))))) (us:=(l.take j).map mk) (h0:=h) (nx0:=nx) ?_ ?_ (hA.ext e2) (e1.trans e2) (by omega) ?_)
     ·simp
     ·simp[f3]
     intro tm' d' h' nx' g0 g4 g3 A' E'
     simp[f0] at g0
     simp[f4] at g4
     simp
     simp[R7,g4]
     refine⟨14-(j+1),by omega,?_⟩
     unfold ajJ
     refine⟨j+1,d',rfl,by omega,by omega,?_,?_,?_,?_,E'⟩
     ·simp[g0]
     ·simp[g3]
     ·simp;rw[br (by omega) (by omega)]
     ·rw[zqu aM,List.map_append,List.map_singleton,hmk];exact A'
    ·have Ix:(j:Int)<l.length:=by omega
     have W9:¬ (j:Int)<14:=by omega
     simp[uc,f0,f4,Ix,W9]
     simpa using fin _ (by simp[f3]) (.inr (by omega))
   ·have Ix:¬ (j:Int)<l.length:=by omega
    simp[uc,f0,f4,Ix]
    simpa using fin _ (by simp[f3]) (.inl (by omega))
end Tb
/-
 SM: the law of pairs: the walk. No condition.
-/
namespace Tp
open Go.Sx Go Tb
open Tg (wsq wop wbk wrt wsk snm srt sex bnm brt bex wp_if IL g_module)
structure auN(C:cU):Prop extends abT C where
 agr:FnR C nM Et
 aGY:C.raw rB=true
 aGZ:C.raw ud=true
theorem Ar.Bx{h h':T ab}{nx nx':Key}{c:AV}{l:List Br}(a:Ar h nx c l)(hg:∀ b:Key,b.toNat<nx.toNat→aa b h'=aa b h)(hn:nx.toNat≤nx'.toNat):Ar h' nx' c l:=a.ext ⟨hn,hg⟩
theorem Ar.cell{h:T ab}{nx:Key}{c:AV}{l:List Br}(a:Ar h nx c l):c.aD=true∧c.cells=[c]:=by
 rcases a with⟨rfl,_⟩|⟨f,rfl⟩|⟨b,rfl,_⟩<;>exact⟨rfl,rfl⟩
theorem aiS{l:List Br}{n:Nat}{H:T ab}:az (ax n) (aI eB l) H=(aI eB l,H):=av (jr.bY l)
theorem ata{orc:pF}{k k':Key}{tm:T AV}{h:T ab}{nx n0:Key}{d x:AV}{ws vs:List Br}(hk:aa k tm=some d)(Ed:aa k' tm=some x)(hd:App d (aI eB ws) ws.length 3 h nx n0)(hx:Ar h nx x vs)(hn:n0.toNat≤nx.toNat)(hl:ws.length+vs.length≤1048576) :
  ∃ c' h' nx',aOp orc (.append 3 (.t k) (.t k')) tm h nx=.val c' h' nx'∧App c' (aI eB (ws++vs)) (ws++vs).length 3 h' nx' n0∧nx.toNat≤nx'.toNat∧∀ b:Key,b.toNat<n0.toNat→aa b h'=aa b h:=by
 have hr:=jr.rows vs
 obtain⟨c2,h2,aH,g,A2,x1,x2,_⟩:=hd.ae0 (new:=aI eB vs) (m:=vs.length) hn (by rw[jr.rows]) hl (jr.auE vs)
 rw[← IB] at A2
 refine⟨c2,h2,aH,?_,by rw[Lc];exact A2,x1,x2⟩
 rcases hx with⟨rfl,rfl⟩|⟨f,rfl⟩|⟨b,rfl,hb,aM⟩
 ·simpa[-appendTo,hk,Ed] using g
 ·simpa[-appendTo,hk,Ed] using g
 ·have ht:(aI eB vs).take (vs.length*3)=aI eB vs:=XO (by omega)
  have hle:vs.length*3≤(aI eB vs).length:=by omega
  simpa[-appendTo,hk,Ed,hb,ht,hle,aiS] using g
theorem axN{C:cU}{Q:bp}{dst k k':Key}{l:List J}{d x:AV}{ws vs:List Br}{tm:T AV}{h:T ab}{nx n0:Key}(hk:aa k tm=some d)(Ed:aa k' tm=some x)(hd:App d (aI eB ws) ws.length 3 h nx n0)(hx:Ar h nx x vs)(hn:n0.toNat≤nx.toNat)(hl:ws.length+vs.length≤1048576)
  (hQ:∀ c' h' nx',App c' (aI eB (ws++vs)) (ws++vs).length 3 h' nx' n0→nx.toNat≤nx'.toNat→(∀ b:Key,b.toNat<n0.toNat→aa b h'=aa b h)→eu C Q l (aK dst (some c') tm) h' nx'):eu C Q (⟨some dst,.append 3 (.t k) (.t k'),none⟩ ::l) tm h nx:=by
 obtain⟨c',h',nx',g,A,VE,hf⟩:=ata (orc:=C.orc) hk Ed hd hx hn hl
 rw[KP,wants_none,Ej,g]
 exact hQ c' h' nx' A VE hf
variable{C:cU}(S:auN C)
include S
omit S in
theorem axO{c:AV}{l:List Int}(hc:IsR 1 eI c l)(hl:inR l):IL c:=by
 rcases hc with⟨rfl,_⟩|rfl
 ·exact .inl rfl
 ·refine .inr ⟨l,?_,hl⟩
  have:aI eI l=l.map fun n=>I n:=by
   clear hl
   induction l with
   |nil=>rfl
   |cons a l ih=>rw[rj,ih];rfl
  rw[this]
structure Th(xs:List AV)(ls:List (List Br))(b:Key)(h0:T ab)(nx0:Key)(h:T ab)(nx:Key):Prop where
 hb:aa b h=some (.cells xs .fix)
 l1:xs.length=3
 l2:ls.length=3
 at_:∀ i (h1:i<xs.length) (h2:i<ls.length),Ar h nx xs[i] ls[i]
 ok:∀ l∈ls,NQ l∧l.length≤1000000
 x:Ext h0 nx0 h nx
 lo:nx0.toNat≤b.toNat
 lt:b.toNat<nx.toNat
omit S in
theorem Th.ext{xs:List AV}{ls:List (List Br)}{b:Key}{h0 h h':T ab}{nx0 nx nx':Key}(X:Th xs ls b h0 nx0 h nx)(e:Ext h nx h' nx'):Th xs ls b h0 nx0 h' nx':=
 ⟨by rw[e.g b X.lt];exact X.hb,X.l1,X.l2,fun i h1 h2=>(X.at_ i h1 h2).ext e,X.ok,X.x.trans e,X.lo,by have:=e.n;have:=X.lt;omega⟩
theorem atb{c d:AV}{l m:List Int}(hc:IsR 1 eI c l)(hd:IsR 1 eI d m)(hl:inR l)(hm:inR m){h:T ab}{nx:Key}{tm:T AV}(e0:aa (K 0) tm=some c)(e1:aa (K 1) tm=some d){Q:bp}
  (cont:∀ tm' h' nx' xs ls b,aa (K 5) tm'=some (.slice b 0 3 1)→Th xs ls b h nx h' nx'→Q .norm tm' h' nx'):eu C Q rz tm h nx:=by
 have q1:C.raw nM=false:=S.raw _ (by decide)
 have q2:C.raw GR=false:=S.raw _ (by decide)
 have q3:=S.ZQ
 have cs:∀ n h,ax n c h=(c,h):=IsR.jh hc
 have ds:∀ n h,ax n d h=(d,h):=IsR.jh hd
 simp[rz,e0,q1,cs]
 refine(ab0 S.toStd S.agr hc hl _ _).mono ?_
 rintro o h1 aY ⟨⟨c1,rfl,A1⟩,x1⟩
 simp[e1,q1,ds]
 refine(ab0 S.toStd S.agr hd hm _ _).mono ?_
 rintro o h2 aH ⟨⟨c2,rfl,A2⟩,x2⟩
 simp[e0,q1,cs]
 refine(ab0 S.toStd S.agr hc hl _ _).mono ?_
 rintro o h3 dw ⟨⟨c3,rfl,A3⟩,x3⟩
 have n1:=x1.n
 have n2:=x2.n
 have n3:=x3.n
 have ll:=agQ l
 have lm:=agQ m
 simp only[acy,putTm_some]
 refine axN (d:=c2) (x:=c3) (by simp) (by simp) (A2.ext x3) (Ar.app A3) (by omega) (by omega) fun c4 h4 jq A4 n4 f4=>?_
 have R1:Ar h4 jq c1 (lst l):=(Ar.app A1).Bx (fun b hb=>by rw[f4 b hb,x3.g b (by omega),x2.g b hb]) (by omega)
 have R2:Ar h4 jq c4 (lst m++lst l):=Ar.app A4
 have x4:Ext h nx h4 jq:=⟨by omega,fun b hb=>by rw[f4 b (by omega),x3.g b (by omega),x2.g b (by omega),x1.g b hb]⟩
 clear f4 A4 A1 A2 A3 x1 x2 x3
 simp[e0,q3,cs]
 refine(g_module S.todd (axO hc hl) _ _).mono ?_
 rintro o h5 iW ⟨⟨cm,rfl,om,hw⟩,x5⟩
 have Yu:=om.cell
 have hz:∀ n H,ax n cm H=(cm,H):=fun n H=>om.jh n H
 simp[q2,hz]
 refine(alj S.toStd om hw _ _).mono ?_
 rintro o h6 IC ⟨⟨cb,rfl,ib⟩,x6⟩
 have n6:=x6.n
 have n5:=x5.n
 have s6:=kTSu IC
 have al:=ahC om
 have R3:Ar h6 IC cb (allM cm):=Ar.of ib
 have R1':=(R1.ext x5).ext x6
 have R2':=(R2.ext x5).ext x6
 obtain⟨k1,k2⟩:=R1'.cell
 obtain⟨k3,k4⟩:=R2'.cell
 obtain⟨k5,k6⟩:=R3.cell
 simp[k2,k4,k6]
 refine cont _ _ _ [c1,c4,cb] [lst l,lst m++lst l,allM cm] IC (by simp) ?_
 have e6:=E0 h6 IC (.cells [c1,c4,cb] .fix)
 refine⟨by rw[gTSm],rfl,rfl,?_,?_,(x4.trans (x5.trans x6)).trans e6,by have:=x4.n;omega,by omega⟩
 ·intro i h1 h2
  rcases i with _|_|_|i
  ·exact R1'.ext e6
  ·exact R2'.ext e6
  ·exact R3.ext e6
  ·simp at h1;omega
 ·intro r hr
  have b1:=ajH l
  have b2:=ajH m
  simp only[xH,List.mem_nil_iff,or_false] at hr
  rcases hr with rfl|rfl|rfl
  ·exact⟨b1,by omega⟩
  ·refine⟨fun y hy=>(List.mem_append.1 hy).elim (b2 y) (b1 y),by rw[Lc];omega⟩
  ·exact⟨as4 om,by omega⟩
def ThI(xs:List AV)(ls:List (List Br))(b:Key)(h0:T ab)(nx0:Key)(k:Nat)(tm':T AV)(h':T ab)(nx':Key):Prop:=
 ∃ i:Nat,k=3-i∧i≤3∧aa (K 5) tm'=some (.slice b 0 3 1)∧aa (K 6) tm'=some (I i)∧Th xs ls b h0 nx0 h' nx'
def EqI(xs:List AV)(ls:List (List Br))(b:Key)(h0:T ab)(nx0:Key)(i:Nat)(ca cb:AV)(n:Nat)(h1:T ab)(aY:Key)(k:Nat)(tm':T AV)(h':T ab)(nx':Key):Prop:=
 ∃ j:Nat,k=n-j∧j≤n∧aa (K 5) tm'=some (.slice b 0 3 1)∧aa (K 6) tm'=some (I i)∧aa (K 7) tm'=some ca∧aa (K 8) tm'=some cb∧aa (K 9) tm'=some (I j)∧h'=h1∧nx'=aY
theorem an7{xs:List AV}{ls:List (List Br)}{b:Key}{h0:T ab}{nx0:Key}{i:Nat}{ca cb:AV}{r:List Pr}{h:T ab}{nx:Key}{tm:T AV}(ha:aiT ca r)(hb:aiT cb r)(hr:r.length≤1000000)(e5:aa (K 5) tm=some (.slice b 0 3 1))(e6:aa (K 6) tm=some (I i))(e7:aa (K 7) tm=some ca)(e8:aa (K 8) tm=some cb)(e9:aa (K 9) tm=some (I 0)) :
  W C (.loop rD) (fun e tm' h' nx'=>e=.exit 2∧aa (K 5) tm'=some (.slice b 0 3 1)∧aa (K 6) tm'=some (I i)∧h'=h∧nx'=nx) tm h nx:=by
 refine W.bV (n:=r.length) (EqI xs ls b h0 nx0 i ca cb r.length h nx) ⟨0,by omega,by omega,e5,e6,e7,e8,by simpa using e9,rfl,rfl⟩ ?_
 clear e5 e6 e7 e8 e9
 rintro k jk h1 aY ⟨j,rfl,hj,e5,e6,e7,e8,e9,rfl,rfl⟩
 refine W.of ?_
 simp[rD]
 have On:=rh.rows r
 by_cases aM:j<r.length
 ·rcases ha with⟨_,rfl⟩|rfl
  ·simp at aM
  rcases hb with⟨_,rfl⟩|rfl
  ·simp at aM
  have ec:=rh.at aM
  have h6:6≤(aI eP r).length-j*6:=by omega
  have hq:=XJ r[j] r[j]
  have hw:aW .i64 ((j:Int)+1)=((j+1:Nat):Int):=by rw[show(j:Int)+1=((j+1:Nat):Int) by omega];exact br (by omega) (by omega)
  rw[decide_eq_true rfl] at hq
  generalize aI eP r=L at e7 e8 ec h6 On
  simp[lk,e7,e9,aM]
  simp[xI,e7,e8,e9,aM,ec,h6,S.orc,hq]
  simp[xJ,e9,hw]
  exact⟨r.length-(j+1),by omega,j+1,rfl,by omega,by simp[e5],by simp[e6],by simp[e7],by simp[e8],by simp,rfl,rfl⟩
 ·have hge:¬ (j:Int)<r.length:=by omega
  rcases ha with⟨rfl,rfl⟩|rfl
  ·have ak4:¬ (j:Int)<0:=by omega
   simp[lk,e7,e9,ak4]
   exact⟨by simp[e5],by simp[e6]⟩
  ·generalize aI eP r=L at e7
   simp[lk,e7,e9,hge]
   exact⟨by simp[e5],by simp[e6]⟩
omit S in
theorem aly{orc:pF}{c:AV}{r:List Pr}{k:Key}{tm:T AV}{h:T ab}(hc:aiT c r)(hk:aa k tm=some c):lightOp orc (.lenL (.t k)) tm h=some (I r.length):=by
 rcases hc with⟨rfl,rfl⟩|rfl<;>simp[hk]
omit S in
theorem aG1{ca cb:AV}{r:List Pr}{tm:T AV}{h:T ab}{nx:Key}{A B:U}{Q:bp}(ha:aiT ca r)(hb:aiT cb r)(e7:aa (K 7) tm=some ca)(e8:aa (K 8) tm=some cb)(cont:∀ tm',aa (K 5) tm'=aa (K 5) tm→aa (K 6) tm'=aa (K 6) tm→aa (K 7) tm'=some ca→aa (K 8) tm'=some cb→bt C B Q tm' h nx):bt C ((U.ops AW).seq (.cond (.t (K 39)) A B)) Q tm h nx:=by
 refine wsq (wop ?_)
 refine QY e7 (aho rfl (aly ha (by simp)) (QY (v:=cb) (by simp[e8]) (aho rfl (aly hb (by simp)) ?_)))
 simp
 exact cont _ (by simp) (by simp) (by simp[e7]) (by simp[e8])
theorem an8{xs:List AV}{ls:List (List Br)}{b:Key}{h0 h:T ab}{nx0 nx:Key}{tm:T AV}(e5:aa (K 5) tm=some (.slice b 0 3 1))(e6:aa (K 6) tm=some (I 0))(X:Th xs ls b h0 nx0 h nx) :
  W C (.loop rE) (fun e tm' h' nx'=>e=.exit 0∧Ext h0 nx0 h' nx') tm h nx:=by
 refine W.bV (n:=3) (ThI xs ls b h0 nx0) ⟨0,by omega,by omega,e5,by simpa using e6,X⟩ ?_
 clear e5 e6 X
 rintro k jk h1 aY ⟨i,rfl,hi,e5,e6,X⟩
 refine W.of ?_
 simp[rE]
 by_cases aM:i<3
 ·have hl1:=X.l1
  have Sa:=X.l2
  have hi3:(i:Int)<3:=by omega
  have hx:i<xs.length:=by omega
  have hl:i<ls.length:=by omega
  have hg:xs[i]?=some xs[i]:=Af hx
  have a:=X.at_ i hx hl
  obtain⟨ob,lb⟩:=X.ok _ (XV hl)
  have hw:aW .i64 ((i:Int)+1)=((i+1:Nat):Int):=by rw[show(i:Int)+1=((i+1:Nat):Int) by omega];exact br (by omega) (by omega)
  simp[rA,e6,hi3]
  have hb:=X.hb
  simp[AT,e5,e6,aM,hb,hg,S.aGY]
  refine(Tp.alz S.toabT a ob lb).mono ?_
  rintro o h2 aH ⟨⟨ca,rfl,r,ia,sa,la⟩,x2⟩
  simp
  have X2:=X.ext x2
  have UU:=X2.hb
  simp[AU,e5,e6,aM,UU,hg,S.aGZ]
  refine(af6 S.toabT (X2.at_ i hx hl) ob lb).mono ?_
  rintro o h3 dw ⟨⟨cb,rfl,r2,ib,sb,lb2⟩,x3⟩
  have X3:=X2.ext x3
  have hrr:=sa.uniq sb (acJ ob)
  subst hrr
  have hnl:=QZ ls[i]
  simp only[acy,putTm_some]
  refine QY (v:=cb) (by simp) ?_
  refine snm (wsq (aG1 ia ib (by simp) (by simp) fun oW a5 a6 a7 a8=>wsk (snm (wsq (wop ?_)))))
  simp[e5] at a5
  simp[e6] at a6
  simp[AX]
  refine(an7 S (xs:=xs) (ls:=ls) (b:=b) (h0:=h0) (nx0:=nx0) (i:=i) ia ib (by omega) (by simp[a5]) (by simp[a6]) (by simp[a7]) (by simp[a8]) (by simp)).mono ?_
  rintro e Wt h5 iW ⟨rfl,b5,b6,rfl,rfl⟩
  simp
  simp[xK,b6,hw]
  exact⟨3-(i+1),by omega,i+1,rfl,by omega,by simp[b5],by simp,X3⟩
 ·have hi3:¬ (i:Int)<3:=by omega
  simp[rA,e6,hi3]
  exact X.x
theorem adu(live:XR C Ac [] (·=.ret (.bool true)))(ql:C.raw Ac=false){c d:AV}{l m:List Int}(hc:IsR 1 eI c l)(hd:IsR 1 eI d m)(hl:inR l)(hm:inR m):XR C tG [c,d] (·=.ret (.bool true)):=by
 intro h nx
 refine S.RQ.call ?_
 refine wsq (wop ?_)
 simp[AR]
 refine atb S hc hd hl hm (by simp) (by simp) fun jk h1 aY xs ls b e5 X=>?_
 simp
 simp[AS]
 refine(an8 S (by simp[e5]) (by simp) X).mono ?_
 rintro e xD h2 aH ⟨rfl,x2⟩
 simp
 simp[xL,ql]
 refine(live _ _).mono ?_
 rintro o h3 dw ⟨rfl,x3⟩
 have e:qI.res=[.tmp (K 4)]:=rfl
 simp[e]
 exact x2.trans x3
end Tp
