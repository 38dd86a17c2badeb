/- A part of the proof. No condition. -/
import Derived.Test.YtecbfpngkfdkoaaGreatP7
import Derived.Test.YtecbfpngkfdkoaaGreatP9
set_option linter.unusedSimpArgs false
set_option linter.unusedVariables false
set_option linter.unusedSectionVars false
namespace Go.Sx
open Go
def Gr(z:Nat)(c:AV)(l:List AV)(len:Nat)(h:T ab)(nx:Key)(ob:Option Key):Prop:=
 (c=.nils∧l=[]∧len=0∧ob=none)∨(∃(b:Key) (k:CK),ob=some b∧c=.slice b 0 len z∧ae b h=some (.cells l k)∧b.toNat<nx.toNat∧l.length=len*z∧(k=.part∨k=.fix))∨
 (∃t:Key,ob=some t∧c=.sl l len z (.tok t)∧ae t h=some .tok∧t.toNat<nx.toNat)
structure Ty(h:T ab)(nx:Key)(ob:Option Key)(h':T ab)(nx':Key)(Lz:Option Key):Prop where
 n:nx.toNat≤nx'.toNat
 g:∀b:Key,b.toNat<nx.toNat→ob≠some b→ae b h'=ae b h
 o:Lz=ob∨∃b:Key,Lz=some b∧nx.toNat≤b.toNat
theorem Ty.refl(h:T ab)(nx:Key)(ob:Option Key):Ty h nx ob h nx ob:=⟨cI _,fun _ _ _=>rfl,.inl rfl⟩
theorem Ty.ne{h h':T ab}{nx nx' b:Key}{ob Lz:Option Key}(a:Ty h nx ob h' nx' Lz)(hb:b.toNat<nx.toNat)(hn:ob≠some b):Lz≠some b:=by
 rcases a.o with e|⟨x,e,hx⟩
 ·rw[e];exact hn
 ·rw[e];intro q;cases q;omega
theorem Ty.trans{h h' h2:T ab}{nx nx' n2:Key}{ob Lz o2:Option Key}(a:Ty h nx ob h' nx' Lz)(b:Ty h' nx' Lz h2 n2 o2):Ty h nx ob h2 n2 o2:=by
 have h1:=a.n;refine⟨Nat.le_trans a.n b.n,fun x hx hn=>?_,?_⟩
 ·rw[b.g x (by omega) (a.ne hx hn)];exact a.g x hx hn
 ·rcases b.o with e|⟨y,e,hy⟩
  ·rw[e];exact a.o
  ·exact .inr ⟨y,e,by omega⟩
section
variable{z:Nat}{c:AV}{l new:List AV}{len m:Nat}{h h':T ab}{nx nx':Key}{ob:Option Key}
theorem Gr.nil(z:Nat)(h:T ab)(nx:Key):Gr z .nils [] 0 h nx none:=.inl ⟨rfl,rfl,rfl,rfl⟩
theorem Gr.lt(g:Gr z c l len h nx ob):∀b,ob=some b→b.toNat<nx.toNat:=by
 intro b hb;rcases g with⟨_,_,_,e⟩|⟨b',k,e,_,_,h4,_⟩|⟨t,e,_,_,h4⟩
 ·rw[hb]at e;cases e
 ·rw[hb]at e;cases e;exact h4
 ·rw[hb]at e;cases e;exact h4
theorem Gr.tY(g:Gr z c l len h nx ob)(hn:nx.toNat≤nx'.toNat)(hk:∀b,ob=some b→ae b h'=ae b h):Gr z c l len h' nx' ob:=by
 rcases g with g|⟨b,k,e,h1,h2,h3,h4⟩|⟨t,e,h1,h2,h3⟩
 ·exact .inl g
 ·exact .inr (.inl ⟨b,k,e,h1,by rw[hk b e];exact h2,by omega,h4⟩)
 ·exact .inr (.inr ⟨t,e,h1,by rw[hk t e];exact h2,by omega⟩)
theorem Gr.ext(g:Gr z c l len h nx ob)(e:Ext h nx h' nx'):Gr z c l len h' nx' ob:=g.tY e.n fun b hb=>e.g b (g.lt b hb)
theorem Gr.add(g:Gr z c l len h nx ob)(hw:Dg z=false)(hz:0<z)(hm:0<m)(hs:∀x∈l,PG x)(hn:new.length=m*z)(hl:len+m≤1048576)(hc:new.all AV.bH=true) :
  ∃c' h' nx' Lz,appendTo z c new m h nx=.val c' h' nx'∧Gr z c' (l++new) (len+m) h' nx' Lz∧Ty h nx ob h' nx' Lz:=by
 have s1:=kTSu nx;have yf:m≠0:=by omega
 rcases g with⟨rfl,rfl,rfl,rfl⟩|⟨b,k,rfl,rfl,h2,h3,h4,hk⟩|⟨t,rfl,rfl,h2,h3⟩
 ·have Dl:m≤1048576:=by omega
  exact⟨.slice nx 0 m z,ar nx (some (.cells new .part)) h,nx.succ,some nx,by simp[yf,Dl],.inr (.inl ⟨nx,.part,rfl,by simp,by simp,by omega,by simpa using hn,.inl rfl⟩),by omega,fun b hb _=>al hb,.inr ⟨nx,rfl,cI _⟩⟩
 ·rcases hk with rfl|rfl
  ·refine⟨.sl (l++new) (len+m) z (.tok nx),ar nx (some .tok) (ar b none h),nx.succ,some nx,?_,.inr (.inr ⟨nx,rfl,by simp,by simp,by omega⟩),by omega,fun x hx hk=>?_,.inr ⟨nx,rfl,cI _⟩⟩
   ·simp[hl,hc,h2,h4,yf,hw]
   ·rw[al hx,bQ];rintro rfl;exact hk rfl
  ·have JU:¬(len+m)*z≤len*z:=by rw[Nat.add_mul];have:=Nat.mul_pos hm hz;omega
   have PC:aO (aK 9999) l h=(l,h):=aG hs;have htl:List.take (len*z) l=l:=Hf (by omega);refine⟨.slice nx 0 (len+m) z,ar nx (some (.cells (l++new) .part)) h,nx.succ,some nx,?_,.inr (.inl ⟨nx,.part,rfl,rfl,by simp,by omega,by rw[fO,h4,hn,Nat.add_mul],.inl rfl⟩),by omega,fun b hb _=>al hb,.inr ⟨nx,rfl,cI _⟩⟩;simp[hl,hc,h2,h4,JU,htl,PC]
 ·refine⟨.sl (l++new) (len+m) z (.tok nx),ar nx (some .tok) (ar t none h),nx.succ,some nx,?_,.inr (.inr ⟨nx,rfl,by simp,by simp,by omega⟩),by omega,fun x hx hk=>?_,.inr ⟨nx,rfl,cI _⟩⟩
  ·simp[hl,hc,h2,yf]
  ·rw[al hx,bQ];rintro rfl;exact hk rfl
theorem Gr.LV{α:Type}{enc:α→List AV}(F:Flat z enc){us:List α}(g:Gr z c (an enc us) us.length h nx ob)(hw:Dg z=false)(hz:0<z)(hl:us.length+1≤1048576)(x:α) :
  ∃c' h' nx' Lz,appendTo z c (enc x) 1 h nx=.val c' h' nx'∧Gr z c' (an enc (us ++ [x])) (us ++ [x]).length h' nx' Lz∧Ty h nx ob h' nx' Lz:=by
 obtain⟨c',h',nx',Lz,a,b,r⟩:=g.add (new:=enc x) (m:=1) hw hz (by omega) (F.H9 us) (by rw[F.len,Nat.one_mul]) hl (Gj.2 (F.cell x));exact⟨c',h',nx',Lz,a,by rw[gA,kU,fO];exact b,r⟩
end
def Rd(z:Nat)(c:AV)(l:List AV)(len:Nat)(h:T ab)(nx:Key):Prop:=(c=.nils∧l=[]∧len=0)∨(∃f,c=.sl l len z f)∨∃(b:Key) (k:CK),c=.slice b 0 len z∧ae b h=some (.cells l k)∧b.toNat<nx.toNat∧l.length=len*z
theorem Gr.rd{z:Nat}{c:AV}{l:List AV}{len:Nat}{h:T ab}{nx:Key}{ob:Option Key}(g:Gr z c l len h nx ob):Rd z c l len h nx:=by
 rcases g with⟨h1,h2,h3,_⟩|⟨b,k,_,h1,h2,h3,h4,_⟩|⟨t,_,h1,_⟩
 ·exact .inl ⟨h1,h2,h3⟩
 ·exact .inr (.inr ⟨b,_,h1,h2,h3,h4⟩)
 ·exact .inr (.inl ⟨_,h1⟩)
theorem Rd.ext{z:Nat}{c:AV}{l:List AV}{len:Nat}{h h':T ab}{nx nx':Key}(g:Rd z c l len h nx)(e:Ext h nx h' nx'):Rd z c l len h' nx':=by
 rcases g with g|g|⟨b,k,h1,h2,h3,h4⟩
 ·exact .inl g
 ·exact .inr (.inl g)
 ·exact .inr (.inr ⟨b,k,h1,by rw[e.g b h3];exact h2,by have:=e.n;omega,h4⟩)
def aab(z i:Nat):AV→AV
 |.sl l _ _ _=>.cref (List.take z (List.drop (i*z) l))
 |.slice b off _ _=>.ptr b (off+i*z)
 |_=>.nils
theorem Rd.ix{z:Nat}{c:AV}{α:Type}{enc:α→List AV}(F:Flat z enc){us:List α}{h:T ab}{nx:Key}(g:Rd z c (an enc us) us.length h nx){i:Nat}(hi:i<us.length){C:cX}{Q:cu}{L:List aq}{tm:T AV}{n2 k1 k2 d1 d2:Key}(h1:ae k1 tm=some c)(h2:ae k2 tm=some (I i)) :
  xj C Q (⟨some d1,.indexL z (.t k1) (.t k2),none⟩ ::⟨some d2,.load true z (.t d1),none⟩ ::L) tm h n2=xj C Q L (ar d2 (some (.agg (enc us[i]))) (ar d1 (some (aab z i c)) tm)) h n2:=by
 have hr:=F.rows us;have he:=F.at hi;have hl:=F.len us[i];have tx:z≤us.length*z-i*z:=by rw[←Nat.sub_mul];exact Nat.le_mul_of_pos_left z (by omega)
 have tk:List.take z (enc us[i])=enc us[i]:=Hf (by omega);rcases g with⟨_,_,e⟩|⟨f,rfl⟩|⟨b,k,rfl,hb,_,_⟩
 ·omega
 ·simp[h1,h2,hi,hr,tx,he,hl,tk,aab]
 ·simp[h1,h2,hi,hr,tx,he,hl,tk,aab,hb]
theorem Rd.ln{z:Nat}{c:AV}{l:List AV}{len:Nat}{h:T ab}{nx:Key}(g:Rd z c l len h nx){C:cX}{Q:cu}{L:List aq}{tm:T AV}{h2:T ab}{n2 k1 d1:Key}(h1:ae k1 tm=some c) :
  xj C Q (⟨some d1,.lenL (.t k1),none⟩ ::L) tm h2 n2=xj C Q L (ar d1 (some (I len)) tm) h2 n2:=by
 rcases g with⟨rfl,_,rfl⟩|⟨f,rfl⟩|⟨b,k,rfl,_⟩
 ·simp[h1]
 ·simp[h1]
 ·simp[h1]
end Go.Sx
namespace Go.Sx
open Go.RowKit
def acR(o o':dP):Prop:=∀op a b r,o.ask op a b=some r→o'.ask op a b=some r
theorem cD.ext{ρ:Nat→Int}{o:dP}{op:BinOp}{a b:SI}{r:Bool}(h:cD ρ o)(h':cD ρ ((op,a,b,r) ::o)):acR o ((op,a,b,r) ::o):=by
 intro op2 x y r2 e;have h1:=h _ _ _ _ e;have h2:∃r3,dP.ask op2 x y ((op,a,b,r) ::o)=some r3:=by
  show ∃r3,(bif Cs op op2&&SI.beq a x&&SI.beq b y then some r else dP.ask op2 x y o)=some r3;cases Cs op op2&&SI.beq a x&&SI.beq b y with
  |true=>exact⟨r,rfl⟩
  |false=>exact⟨r2,e⟩
 obtain⟨r3,h3⟩:=h2;have:=h' _ _ _ _ h3;rw[h1]at this;rw[h3,←Option.some.inj this]
section
variable{o o':dP}(hx:acR o o')
include hx
theorem yn{op:BinOp}{a b:SI}{r:Bool}(h:zl o op a b=some r):zl o' op a b=some r:=by
 have key:∀z:Option Bool,(bif SI.beq a b then z else o.ask op a b)=some r→(bif SI.beq a b then z else o'.ask op a b)=some r:=by
  intro z;cases SI.beq a b with
  |true=>exact id
  |false=>exact hx _ _ _ _
 unfold zl at h ⊢;split
 ·exact h
 ·rename_i hn;split at h
  ·exact(hn _ _ rfl rfl).elim
  ·exact key _ h
mutual
theorem Nm:∀(p:ql) (a b:AV) (r:Bool),fq o p a b=some r→fq o' p a b=some r
 |.int,a,b,r,h=>by
  cases a<;>cases b<;>simp only[fq]at h ⊢<;>first|(cases h;done)|skip
  rename_i k x k' y;cases hk:beqKind k k' with
  |true=>rw[hk]at h;simp only[cond_true]at h ⊢;exact yn hx h
  |false=>rw[hk]at h;cases h
 |.parts l,a,b,r,h=>by
  cases a<;>cases b<;>simp only[fq]at h ⊢<;>first|(cases h;done)|skip
  exact Dm l _ _ r h
 |.bool,a,b,r,h=>by cases a<;>cases b<;>simp only[fq]at h ⊢<;>exact h
 |.str,a,b,r,h=>by cases a<;>cases b<;>simp only[fq]at h ⊢<;>exact h
 |.ptr,a,b,r,h=>by cases a<;>cases b<;>simp only[fq]at h ⊢<;>exact h
 |.iface,a,b,r,h=>by cases a<;>cases b<;>simp only[fq]at h ⊢<;>exact h
 |.slice,a,b,r,h=>by cases a<;>cases b<;>simp only[fq]at h ⊢<;>exact h
 |.func,a,b,r,h=>by cases a<;>cases b<;>simp only[fq]at h ⊢<;>exact h
 |.map,a,b,r,h=>by cases a<;>cases b<;>simp only[fq]at h ⊢<;>exact h
theorem Dm:∀(l:List (Nat×ql)) (a b:List AV) (r:Bool),bM o l a b=some r→bM o' l a b=some r
 | [],a,b,r,h=>by simp only[bM]at h ⊢;exact h
 |(off,p) ::l,a,b,r,h=>by
  simp only[bM]at h ⊢;cases h1:nth off a with
  |none=>rw[h1]at h;cases h
  |some x=>
   cases h2:nth off b with
   |none=>rw[h1,h2]at h;cases h
   |some y=>
    rw[h1,h2]at h;simp only at h ⊢;cases h3:fq o p x y with
    |none=>rw[h3]at h;cases h
    |some q=>
     rw[h3]at h;rw[Nm p x y q h3];cases q with
     |true=>exact Dm l a b r h
     |false=>exact h
end
theorem HD{sk:Bool}{k:AV}:∀{l:List (AV×AV)} {r:Option AV},findK o sk k l=some r→findK o' sk k l=some r
 | [],r,h=>h
 |(a,v) ::l,r,h=>by
  unfold findK at h ⊢;cases hk:keyEq o sk k a with
  |none=>rw[hk]at h;cases h
  |some q=>
   have:keyEq o' sk k a=some q:=by
    cases k<;>cases a<;>simp only[keyEq]at hk ⊢<;>first|exact hk|skip
    rename_i k1 x k2 y;cases hb:beqKind k1 k2 && !sk with
    |true=>rw[hb]at hk;simp only[cond_true]at hk ⊢;exact yn hx hk
    |false=>rw[hb]at hk;cases hk
   rw[hk]at h;rw[this];cases q with
   |true=>exact h
   |false=>exact HD h
theorem J8{op:Aw}{tm:T AV}{h:T ab}{v:AV}(e:lightOp o op tm h=some v):lightOp o' op tm h=some v:=by
 cases op
 case bin bo x y=>
  simp only[lightOp]at e ⊢;cases Cf:x.at tm with
  |none=>rw[Cf]at e;cases e
  |some a=>
   cases IF:y.at tm with
   |none=>rw[Cf,IF]at e;cases a<;>cases e
   |some b=>
    rw[Cf,IF]at e;cases a<;>cases b<;>simp only at e ⊢<;>first|exact e|skip
    rename_i k a k' b;cases bo<;>simp only at e ⊢<;>first|exact e|skip
    all_goals
     cases hk:beqKind k k' with
     |false=>rw[hk]at e;cases e
     |true=>
      rw[hk]at e;simp only[isCmp,cond_true,cond_false]at e ⊢
      first
      |exact e
      |(split at e
        ·rename_i r hr;rw[yn hx hr];exact e
        ·cases e)
 case eq neg p x y=>
  simp only[lightOp]at e ⊢;cases Cf:x.at tm with
  |none=>rw[Cf]at e;cases e
  |some a=>
   cases IF:y.at tm with
   |none=>rw[Cf,IF]at e;cases e
   |some b=>
    rw[Cf,IF]at e;simp only at e ⊢;split at e
    ·rename_i r hr;rw[Nm hx _ _ _ _ hr];exact e
    ·cases e
 case lookup sk zero ok m k=>
  simp only[lightOp]at e ⊢;cases Cf:m.at tm with
  |none=>rw[Cf]at e;cases e
  |some a=>
   cases IF:k.at tm with
   |none=>rw[Cf,IF]at e;cases a<;>cases e
   |some b=>
    rw[Cf,IF]at e;cases a<;>simp only at e ⊢<;>first|exact e|skip
    split at e
    ·rename_i l hl;cases hf:findK o sk b l with
     |none=>rw[hf]at e;cases e
     |some q=>rw[hf]at e;rw[HD hx hf];exact e
    ·cases e
 case mx isMax a b=>
  simp only[lightOp]at e ⊢;cases Cf:a.at tm with
  |none=>rw[Cf]at e;cases e
  |some u=>
   cases IF:b.at tm with
   |none=>rw[Cf,IF]at e;cases u<;>cases e
   |some w=>
    rw[Cf,IF]at e;cases u<;>cases w<;>simp only at e ⊢<;>first|exact e|skip
    rename_i k x k' y;cases hk:beqKind k k' with
    |false=>rw[hk]at e;cases e
    |true=>
     rw[hk]at e;simp only[cond_true]at e ⊢;split at e
     ·rename_i hr;rw[yn hx hr];exact e
     ·rename_i hr;rw[yn hx hr];exact e
     ·cases e
 all_goals first|exact e
section
variable{P:Program}{ρ:Nat→Int}{μ:Mu}{G:Key→Option ab}{H:T ab}{nx:Key}{nt:Nat}
theorem q9.ext{ops:Array Oper}{pl:List aq}{bf:List Nat}{g:Gh}{ak:List (Nat×Key×ab)}{wP:Nat→Prop}{i:Nat}(h:q9 o ops pl bf H g ak wP i):q9 o' ops pl bf H g ak wP i:=by
 cases h with
 |skip po jb h1 h2 h3 h4 h5=>exact .skip po jb h1 h2 h3 h4 h5
 |light po jb v h1 h2 h3 hk h4 h5 h6=>exact .light po jb v h1 h2 h3 hk (fun hu=>by obtain⟨V,e,hv⟩:=h4 hu;exact⟨V,J8 hx e,hv⟩) h5 h6
 |alloc po jb f B k h1 h2 h3 hk h4 h5 h6=>exact .alloc po jb f B k h1 h2 h3 hk h4 h5 h6
theorem dS.ext{ops:Array Oper}{pl:List aq}{bf:List Nat}{g:Gh}{wP:Nat→Prop}{ak:List (Nat×Key×ab)}{tm:T AV}{tmps:Array Value}{rest:List Nat}(h:dS P ρ o nt ops pl bf μ G H nx g wP ak tm tmps rest):dS P ρ o' nt ops pl bf μ G H nx g wP ak tm tmps rest:=
 ⟨h.EA,h.ord,h.cl,h.sub,h.AT,h.QY,h.a1,h.a2,h.sz,h.c1,h.c2,fun i a b=>(h.pd i a b).ext hx,h.pe,h.nk,h.ni⟩
theorem By.ext{k:List cv}{tm:T AV}{K:List Item}{tmps:Array Value}(h:By P ρ o μ G H nx nt k tm K tmps):By P ρ o' μ G H nx nt k tm K tmps:=by
 cases h with
 |ops o l ops i rest k K tm tmps hp h ht=>exact .ops o l ops i rest k K tm tmps hp h ht
 |staged ops pl bf g i po ad os pA items fD ak k K tm tmps rest nH hf hc hL Hg hd h LH Az S=>exact .staged ops pl bf g i po ad os pA items fD ak k K tm tmps rest nH hf hc hL Hg hd h LH Az (S.ext hx)
 |rf key l k K tm tmps hk h ht=>exact .rf key l k K tm tmps hk h ht
theorem LI.ahv{af:jL}{fr:Frame}(h:LI P ρ o μ G H nx af fr)(hm:af.mode≠.run):LI P ρ o' μ G H nx af fr:=by
 cases h with
 |run nt hb h1=>exact absurd h1 hm
 |ret nt hb h1 h2 h3 h=>exact .ret nt hb h1 h2 h3 h
 |pan nt hb v u r h1 h2 hv h3 h=>exact .pan nt hb v u r h1 h2 hv h3 h
theorem Pv.ext{af:jL}{fr:Frame}(h:Pv P ρ o μ G H nx af fr):Pv P ρ o' μ G H nx af fr:=by
 cases h with
 |wait nt hb h1 h2 h=>exact .wait nt hb h1 h2 (h.ext hx)
 |unw h hm=>exact .unw (h.ahv hx hm) hm
theorem bW.ext:∀{l:List jL} {fs:List Frame},bW P ρ o μ G H nx l fs→bW P ρ o' μ G H nx l fs
 | [],[],_=>trivial
 |_ ::_,_ ::_,h=>⟨h.1.ext hx,bW.ext h.2⟩
 | [],_ ::_,h=>h.elim
 |_ ::_,[],h=>h.elim
def Mk:List cv→Bool
 |.staged _ _ _ ::_=>false
 |_=>true
theorem LI.ext{af:jL}{fr:Frame}(h:LI P ρ o μ G H nx af fr)(hp:Mk af.todo=true):LI P ρ o' μ G H nx af fr:=by
 cases h with
 |run nt hb h1 h2 h=>
  refine .run nt hb h1 h2 ?_;generalize hA:af.todo=A at h hp;generalize hK:fr.todo=K at h;generalize hT:fr.tmps=TT at h;generalize hM:af.tm=TM at h;cases h with
  |plain _ _ _ _ h ht=>exact .plain _ _ _ _ h ht
  |ready=>cases hp
  |back=>cases hp
 |ret nt hb h1 h2 h3 h=>exact .ret nt hb h1 h2 h3 h
 |pan nt hb v u r h1 h2 hv h3 h=>exact .pan nt hb v u r h1 h2 hv h3 h
end
theorem xk.ext{P:Program}{ρ:Nat→Int}{w0:W0}{μ0:Mu}{am:AM}{fr:Frame}{cs:List Frame}{w:World}(h:xk P ρ o w0 μ0 am fr cs w)(hp:Mk am.fr.todo=true):xk P ρ o' w0 μ0 am fr cs w:=by obtain⟨μ,G,h1,h2,h3,h4,h5,h6⟩:=h.ex;exact⟨μ,G,h1,h2,h3,h4.ext hx hp,h5.ext hx,h6⟩
end
structure M3 where
 l:Bool
 e:Bool
 g:Bool
def KU:BinOp→M3
 |.eql=>⟨false,true,false⟩|.neq=>⟨true,false,true⟩|.lss=>⟨true,false,false⟩|.leq=>⟨true,true,false⟩|.gtr=>⟨false,false,true⟩|.geq=>⟨false,true,true⟩|_=>⟨true,true,true⟩
def M3.flip(m:M3):M3:=⟨m.g,m.e,m.l⟩
def M3.and(m n:M3):M3:=⟨m.l&&n.l,m.e&&n.e,m.g&&n.g⟩
def M3.not(m:M3):M3:=⟨!m.l,!m.e,!m.g⟩
def M3.no(m:M3):Bool:=!m.l && !m.e && !m.g
def M3.all:M3:=⟨true,true,true⟩
structure yE(m:M3)(a b:Int):Prop where
 lt:a<b→m.l=true
 eq:a=b→m.e=true
 gt:b<a→m.g=true
theorem yE.My(a b:Int):yE M3.all a b:=⟨fun _=>rfl,fun _=>rfl,fun _=>rfl⟩
theorem yE.IZ{m n:M3}{a b:Int}(h:yE m a b)(k:yE n a b):yE (m.and n) a b:=
 ⟨fun e=>by simp[M3.and,h.lt e,k.lt e],fun e=>by simp[M3.and,h.eq e,k.eq e],fun e=>by simp[M3.and,h.gt e,k.gt e]⟩
theorem yE.Va{m:M3}{a b:Int}(h:yE m a b):yE m.flip b a:=⟨h.gt,fun e=>h.eq e.symm,h.lt⟩
theorem M3.Xs{m:M3}{a b:Int}(h:yE m a b)(hn:m.no=true):False:=by
 unfold M3.no at hn;simp only[fa,Bool.not_eq_true']at hn;rcases Int.lt_trichotomy a b with e|e|e
 ·rw[h.lt e]at hn;cases hn.1.1
 ·rw[h.eq e]at hn;cases hn.1.2
 ·rw[h.gt e]at hn;cases hn.2
theorem aah{op:BinOp}{a b:Int}{r:Bool}(h:kH op a b=some r):yE (bif r then KU op else(KU op).not) a b:=by
 cases op<;>simp only[kH,bB]at h<;>first|(cases h;done)|skip
 all_goals subst h
 all_goals
  refine⟨fun h=>?_,fun h=>?_,fun h=>?_⟩
  all_goals simp[KU,M3.not,bne,cond]
  all_goals split<;>simp_all<;>omega
def aai(c' c:Int)(m:M3):M3:=bif XZ c' c then m else bif TY c' c then⟨true,m.g,m.g⟩else⟨m.l,m.l,true⟩
theorem Vb{a c' c:Int}{m:M3}(h:yE m a c'):yE (aai c' c m) a c:=by
 unfold aai;rw[eqI_eq,CT];by_cases e:c'=c
 ·subst e;simpa using h
 ·by_cases l:c'<c
  ·simp only[beq_eq_false_iff_ne.2 e,decide_eq_true l,cond_true,cond_false];exact⟨fun _=>rfl,fun q=>h.gt (by omega),fun q=>h.gt (by omega)⟩
  ·simp only[beq_eq_false_iff_ne.2 e,decide_eq_false l,cond_false];exact⟨fun q=>h.lt (by omega),fun q=>h.lt (by omega),fun _=>rfl⟩
def Vc(x y:SI)(m:M3)(a b:SI):M3:=bif SI.beq x a then(bif SI.beq y b then m else match y,b with
 |.lit c',.lit c=>aai c' c m
 |_,_=>.all)else .all
abbrev FH:=List (SI×SI×M3)
def Dv:FH→SI→SI→M3
 | [],_,_=>.all
 |(x,y,m) ::r,a,b=>(Vc x y m a b).and ((Vc y x m.flip a b).and (Dv r a b))
def I0(ρ:Nat→Int):FH→Prop
 | []=>True
 |(x,y,m) ::r=>yE m (x.den ρ) (y.den ρ)∧I0 ρ r
theorem NQ{ρ:Nat→Int}{x y:SI}{m:M3}(h:yE m (x.den ρ) (y.den ρ))(a b:SI):yE (Vc x y m a b) (a.den ρ) (b.den ρ):=by
 unfold Vc;cases h1:SI.beq x a with
 |false=>exact .My _ _
 |true=>
  have h1:=SI.eq_of_beq h1;subst h1;simp only[cond_true];cases h2:SI.beq y b with
  |true=>have h2:=SI.eq_of_beq h2;subst h2;exact h
  |false=>
   simp only[cond_false];split
   ·exact Vb h
   ·exact .My _ _
theorem FI{ρ:Nat→Int}:∀{F:FH},I0 ρ F→∀a b:SI,yE (Dv F a b) (a.den ρ) (b.den ρ)
 | [],_,_,_=>.My _ _
 |(x,y,m) ::r,h,a,b=>(NQ h.1 a b).IZ ((NQ h.1.Va a b).IZ (FI h.2 a b))
def Sc(u:AV):DT→FH→Bool
 |.leaf v,_=>AV.beq u v
 |.ask op a b t e,F=>isCmp op&&((((Dv F a b).and (KU op)).no||Sc u t ((a,b,KU op) ::F))&&(((Dv F a b).and (KU op).not).no||Sc u e ((a,b,(KU op).not) ::F)))
def DT.same:DT→DT→FH→Bool
 |.leaf u,d,F=>Sc u d F
 |.ask op a b t e,d,F=>isCmp op&&((((Dv F a b).and (KU op)).no||DT.same t d ((a,b,KU op) ::F))&&(((Dv F a b).and (KU op).not).no||DT.same e d ((a,b,(KU op).not) ::F)))
theorem Sd{op:BinOp}(h:isCmp op=true)(a b:Int):∃r,kH op a b=some r:=by cases op<;>first|exact⟨_,rfl⟩|cases h
inductive I1 where
 |leaf (n:Nat) (v:AV)
 |ask (n:Nat) (op:BinOp) (a b:SI) (t e:I1)
def I1.dt:I1→DT
 |.leaf _ v=>.leaf v
 |.ask _ op a b t e=>.ask op a b t.dt e.dt
noncomputable def I1.chk(C:dP→cX)(f:Nat):I1→AM→FH→dP→Bool
 |.leaf n v,m,_,o=>(match ou (C o) n m with
  |.done g u _ _=>Nat.beq g f&&AV.beq u v&&u.kf
  |_=>false)
 |.ask n op a b t e,m,F,o=>(match ou (C o) n m with
  |.next m'=>Mk m'.fr.todo&&isCmp op&&((((Dv F a b).and (KU op)).no||I1.chk C f t m' ((a,b,KU op) ::F) ((op,a,b,true) ::o))&&(((Dv F a b).and (KU op).not).no||I1.chk C f e m' ((a,b,(KU op).not) ::F) ((op,a,b,false) ::o)))
  |_=>false)
section
variable{P:Program}{ρ ρ':Nat→Int}{aI:T ab}{w0:W0}{μ0:Mu}{rest:List Frame}
theorem I1.sound{C:dP→cX}(hC:∀o,(C o).orc=o)(hX:∀o,cD ρ o→Ctx P ρ w0 (C o)){f:Nat}:∀(d:I1) (m:AM) (F:FH) (o:dP),I0 ρ F→cD ρ o→I1.chk C f d m F o=true→
  ∀{fr:Frame} {cs:List Frame} {w:World},xk P ρ o w0 μ0 m fr cs w→
  ∃v dG w' μ G u H nx,v.kf=true∧d.dt.val ρ=v.sub ρ∧Steps P (lone fr (cs++rest) w) (lone dG rest w')∧dG.fn=f∧dG.leaving P w' (.returned u)∧aA ρ μ v u∧μ0.le μ∧aL P ρ w0 μ G (Key.toNat nx) w'∧HSub H G
 |.leaf n v,m,F,o,_,ho,hc,fr,cs,w,hm=>by
  unfold I1.chk at hc;have hm:xk P ρ (C o).orc w0 μ0 m fr cs w:=by rw[hC];exact hm
  have hg:=q8 (rest:=rest) (hX o ho) n hm;split at hc
  ·rename_i g u H' nx' hr;simp only[fa]at hc;have h1:=mo hc.1.1;have h2:=AV.eq_of_beq _ _ hc.1.2;subst h1 h2;rw[hr]at hg;obtain⟨dG,w',μ,G,uu,s⟩:=hg;exact⟨_,dG,w',μ,G,uu,_,_,hc.2,rfl,s⟩
  ·cases hc
 |.ask n op a b t e,m,F,o,hF,ho,hc,fr,cs,w,hm=>by
  unfold I1.chk at hc;have hm:xk P ρ (C o).orc w0 μ0 m fr cs w:=by rw[hC];exact hm
  have hg:=q8 (rest:=rest) (hX o ho) n hm;split at hc
  ·rename_i m' hr;rw[hr]at hg;obtain⟨fr1,cs1,w1,s1,Wr⟩:=hg;rw[hC]at Wr;simp only[fa,Bool.or_eq_true]at hc;obtain⟨⟨hp,h0⟩,h1,h2⟩:=hc;obtain⟨r,JW⟩:=Sd h0 (a.den ρ) (b.den ρ);have Gi:=aah JW;have hh:holds ρ op a b=r:=by unfold holds;rw[JW]
   have hv:(I1.ask n op a b t e).dt.val ρ=bif r then t.dt.val ρ else e.dt.val ρ:=by
    conv=>lhs;unfold I1.dt DT.val
    rw[hh];cases r<;>rfl
   have JF:=ho.cons JW;have Dl:=Wr.ext (ho.ext JF) hp;have fin:∀d2:I1,(I1.ask n op a b t e).dt.val ρ=d2.dt.val ρ→(∃v dG w' μ G u H nx,v.kf=true∧d2.dt.val ρ=v.sub ρ∧Steps P (lone fr1 (cs1++rest) w1) (lone dG rest w')∧dG.fn=f∧dG.leaving P w' (.returned u)∧aA ρ μ v u∧μ0.le μ∧aL P ρ w0 μ G (Key.toNat nx) w'∧HSub H G)→
     ∃v dG w' μ G u H nx,v.kf=true∧(I1.ask n op a b t e).dt.val ρ=v.sub ρ∧Steps P (lone fr (cs++rest) w) (lone dG rest w')∧dG.fn=f∧dG.leaving P w' (.returned u)∧aA ρ μ v u∧μ0.le μ∧aL P ρ w0 μ G (Key.toNat nx) w'∧HSub H G:=by
    rintro d2 e2 ⟨v,dG,w',μ,G,u,H,nx,q1,q2,q3,q4⟩;exact⟨v,dG,w',μ,G,u,H,nx,q1,e2.trans q2,s1.trans q3,q4⟩
   cases r with
   |true=>
    rcases h1 with h1|h1
    ·exact(M3.Xs ((FI hF a b).IZ Gi) h1).elim
    ·exact fin t hv (I1.sound hC hX t m' ((a,b,KU op) ::F) _ ⟨Gi,hF⟩ JF h1 Dl)
   |false=>
    rcases h2 with h2|h2
    ·exact(M3.Xs ((FI hF a b).IZ Gi) h2).elim
    ·exact fin e hv (I1.sound hC hX e m' ((a,b,(KU op).not) ::F) _ ⟨Gi,hF⟩ JF h2 Dl)
  ·cases hc
end
structure Tz where
 f:Nat
 Q:Type
 args:Q→List AV
 res:Q→AV
 inj:∀q q',args q=args q'→res q=res q'
section
variable{P:Program}{aI:T ab}
structure NR(P:Program)(aI:T ab)(F:Tz):Prop where
 has:∃p,Ay P F.f=some p
 ent:∀q,Pt P aI F.f (F.args q) (F.res q)
open Classical in
noncomputable def wq:List Tz→Nat→List AV→T ab→Key→Option (AV×T ab×Key)
 | [],_,_,_,_=>none
 |F ::r,f,l,h,nx=>if H:F.f=f∧∃q,F.args q=l then some (F.res H.2.choose,h,nx)else wq r f l h nx
theorem CU:∀{Fs:List Tz},(∀F∈Fs,NR P aI F)→∀{f:Nat} {l:List AV} {h:T ab} {nx:Key} {r:AV×T ab×Key},wq Fs f l h nx=some r→(∃p,Ay P f=some p)∧∃v,Pt P aI f l v∧r=(v,h,nx)
 | [],_,_,_,_,_,_,e=>by cases e
 |F ::Fs,ho,f,l,h,nx,r,e=>by
  unfold wq at e;by_cases H:F.f=f∧∃q,F.args q=l
  ·rw[dif_pos H]at e;obtain⟨rfl,hq⟩:=H;refine⟨(ho F (by simp)).has,_,?_,(Option.some.inj e).symm⟩;have:=(ho F (by simp)).ent hq.choose;rw[hq.choose_spec]at this;exact this
  ·rw[dif_neg H]at e;exact CU (fun G hG=>ho G (by simp[hG])) e
theorem Dw:∀{Fs:List Tz} {f:Nat} (_:∀F∈Fs,F.f≠f) (l:List AV) (h:T ab) (nx:Key),wq Fs f l h nx=none
 | [],_,_,_,_,_=>rfl
 |F ::Fs,f,hf,l,h,nx=>by unfold wq;rw[dif_neg (fun H=>hf F (by simp) H.1)];exact Dw (fun G hG=>hf G (by simp[hG])) l h nx
theorem FJ:∀{Fs:List Tz} {F:Tz} (_:F∈Fs) (_:Fs.Pairwise fun a b=>a.f≠b.f) (q:F.Q) (h:T ab) (nx:Key),wq Fs F.f (F.args q) h nx=some (F.res q,h,nx)
 |G ::Fs,F,hm,hp,q,h,nx=>by
  rw[List.pairwise_cons]at hp;rcases zk.1 hm with rfl|hm
  ·unfold wq;have H:F.f=F.f∧∃q',F.args q'=F.args q:=⟨rfl,q,rfl⟩;rw[dif_pos H,F.inj _ _ H.2.choose_spec]
  ·unfold wq;rw[dif_neg (fun H=>hp.1 F hm H.1)];exact FJ hm hp.2 q h nx
noncomputable def Se(fns:T dB)(raw lL:Nat→Bool)(Fs:List Tz):cX:=⟨[],fns,wq Fs,raw,lL⟩
theorem aaj{ρ:Nat→Int}{fns:T dB}{Kp:List (Nat×dB)}(hb:fns=yz Kp)(ha:BX P Kp)(ZR:P.follows .mixedOrders=true){Fs:List Tz}(ht:∀F∈Fs,NR P aI F)(raw lL:Nat→Bool)(w0:W0)(hL:nO P aI w0):Ctx P ρ w0 (Se fns raw lL Fs):=by
 refine⟨?_,?_,cD.nil ρ,fun f p h=>Kq hb ha (tab:=[]) h,ZR⟩
 ·intro f l H nx a H' nx' hs;obtain⟨_,v,h1,h2⟩:=CU ht hs;cases h2;exact h1 ρ w0 hL H nx
 ·intro f l H nx r hs;obtain⟨⟨p,hp⟩,_⟩:=CU ht hs;obtain⟨fn,c,f1,f2,f3,_⟩:=ua hp;exact⟨fn,f1,by rw[f2];rfl,f3⟩
end
end Go.Sx
namespace Ln
open Go.Sx Go
structure Lp(C:cX)(f:Nat)(p:dB):Prop where
 get:zT C f=some p
 off:∀l h nx,C.sum f l h nx=none
 lL:C.lL f=true
theorem ax.known{C:cX}{f:Nat}{l:List AV}{h:T ab}{nx:Key}{v:AV}{R:Out→T ab→Key→Prop}(hs:C.sum f l h nx=some (v,h,nx))(hR:R (.ret v) h nx):ax C f l h nx R:=.inl ⟨v,h,nx,hs,hR⟩
def JX(res:List RV)(R:Out→T ab→Key→Prop):cu:=fun e tm h nx=>match e with
 |.norm|.ret=>∃l,resultsA h tm res=some l∧R (.ret (lN l)) h nx
 |.pan a=>R (.pan a) h nx
 |.exit _=>False
@[simp] theorem aaR(res:List RV)(R:Out→T ab→Key→Prop)(tm:T AV)(h:T ab)(nx:Key):JX res R .ret tm h nx=∃l,resultsA h tm res=some l∧R (.ret (lN l)) h nx:=Cu Iff.rfl
@[simp] theorem Yd(res:List RV)(R:Out→T ab→Key→Prop)(tm:T AV)(h:T ab)(nx:Key):JX res R .norm tm h nx=∃l,resultsA h tm res=some l∧R (.ret (lN l)) h nx:=Cu Iff.rfl
theorem Lp.call{C:cX}{f:Nat}{p:dB}(S:Lp C f p){l:List AV}{h:T ab}{nx:Key}{R:Out→T ab→Key→Prop}(hw:il C p.body (JX p.res R) (eH l (K 0) .nil) h nx):ax C f l h nx R:=by
 refine ax.of_wp (S.off _ _ _) S.get ?_;have e:uL C f p.res R=JX p.res R:=by funext e tm h nx;cases e<;>simp only[uL,JX,S.lL]<;>rfl
 rw[e];exact hw
@[simp] theorem aeN(n c m d:Nat):X0 .eql n c m d=some (.bool (decide (n=m∧c=d))):=by simp only[X0];by_cases h1:n=m<;>by_cases h2:c=d<;>simp[h1,h2]
@[simp] theorem aeO(n c m d:Nat):X0 .neq n c m d=some (.bool (decide (¬(n=m∧c=d)))):=by simp only[X0];by_cases h1:n=m<;>by_cases h2:c=d<;>simp[h1,h2]
theorem bq{a b:Int}(h:a≠b):(a==b)=false:=by simpa using h
def eI(n:Int):List AV:=[I n]
theorem Qt:Flat 1 eI where
 len _:=rfl
 sg x y hy:=by simp[eI]at hy;subst hy;exact qp _ _
 cell x y hy:=by simp[eI]at hy;subst hy;rfl
 lits x:=by simp[eI,AV.ey,AV.lits,I]
theorem BL(l:List Int):(an eI l).length=l.length:=by rw[Qt.rows];omega
theorem Hx{l:List Int}{i:Nat}(hi:i<l.length):List.take 1 (List.drop i (an eI l))=[I l[i]]:=by have:=Qt.at hi;rw[Nat.mul_one]at this;exact this
theorem _root_.Go.Sx.py.rd{α:Type}{z:Nat}{enc:α→List AV}{c:AV}{l:List α}(g:py z enc c l)(h:T ab)(nx:Key):Rd z c (an enc l) l.length h nx:=by
 rcases g with⟨e,rfl⟩|e
 ·exact .inl ⟨e,rfl,rfl⟩
 ·exact .inr (.inl ⟨_,e⟩)
def eB(n:Int):Prop:=-9223372036854775808≤n∧n<9223372036854775808
def Lx(n:Int)(m:Nat):Nat:=(if n<0 then -(n+1)else n).toNat%m
theorem L8{m:Nat}(h:0<m)(n:Int):Lx n m<m:=Nat.mod_lt _ h
def FP(f:Nat):Bool:=Nat.beq f 40||Nat.beq f 38||Nat.beq f 42||Nat.beq f 28||Nat.beq f 37
structure tq(C:cX):Prop where
 orc:C.orc=[]
 raw:∀f,C.raw f=FP f
 pL:Fn C jD sK
 B0:Fn C lW AU
 w6:Fn C gy tD
 Ah:Fn C jS yq
 yl:Fn C cQ we
 BQ:Fn C lU AS
 zR:Fn C jP yg
 wY:Fn C bx tE
 ym:Fn C aY wg
 w5:Fn C dD tF
 wZ:Fn C dE tG
 ye:Fn C iv v5
 BF:Fn C lK AI
 mg:Fn C b5 kh
 yL:Lp C fT yU
 me:Fn C bZ kg
 fZ:Fn C bt iW
 sO:Fn C aM kc
 eh:Fn C aN da
 ry:Fn C ef m7
 rv:Fn C dc iY
 sG:Fn C dM y8
 sL:Fn C cN o8
 hP:Fn C aR kl
 eQ:Fn C bY ke
 gi:Lp C aZ fJ
 iH:Fn C bl eg
 cY:Fn C aS de
 bN:Fn C az cB
 ri:Fn C df m8
 rO:Fn C cn jd
 wG:Fn C gv tw
 wF:Fn C gm tv
 l8:Fn C aW iF
 yM:Fn C dU wi
 sV:Fn C dx o9
 yN:Fn C iG wj
 sW:Fn C bK pg
 w7:Fn C eF tH
 Ai:Fn C jT yr
 vz:Fn C fK rb
 w8:Fn C gz tI
 nL:Fn C aH kq
 nZ:Fn C dp kE
 mz:Fn C b6 jE
 nY:Fn C cA kF
 pT:Fn C bw lX
 pU:Fn C bX lY
 Du:Lp C cT ze
 sF:Lp C fS yT
 lP:Lp C di mK
 yD:Fn C dZ lV
 zN:Fn C jN xV
 yo:Fn C cO wh
 zO:Fn C jO x8
 wA:Fn C cS tu
 xU:Fn C du vZ
 B4:Fn C eP Bd
 BE:Fn C eM AH
 pn:Fn C eC nC
 No:∀h nx,C.sum nB [] h nx=some (.bool true,h,nx)
theorem tq.rw{C:cX}(S:tq C){f:Nat}(h:FP f=true):C.raw f=true:=by rw[S.raw,h]
theorem tq.nr{C:cX}(S:tq C){f:Nat}(h:FP f=false):C.raw f=false:=by rw[S.raw,h]
end Ln
