/- A part of the proof. No condition. -/
import Derived.Test.YtecbfpngkfdkoaaGreatP15
import Derived.Test.YtecbfpngkfdkoaaGreatP9
set_option linter.unusedSimpArgs false
set_option linter.unusedVariables false
set_option linter.unusedSectionVars false
namespace Ln
open Go.Sx Go
theorem aKO(u:U)(H:T ai):aY (aO 9998) (eU u) H=(eU u,H):=bw (og.zD u)
theorem aKP(s:St):∀y∈eS s,FJ y:=by
 intro y hy;simp[eS]at hy;rcases hy with rfl|rfl|rfl|rfl
 ·exact cX _ _
 ·exact cX _ _
 ·exact gF _ _
 ·exact dY _
theorem C4(s:St)(H:T ai):aY (aO 9998) (eS s) H=(eS s,H):=bw (aKP s)
theorem Gj(s:St):(eS s).all AV.aQ=true:=by simp[eS,(cG s.kids).1]
theorem lenS(s:St):(eS s).length=4:=rfl
theorem BV(s:St):List.take 4 (eS s)=eS s:=rfl
theorem ang(s:St):List.drop 4 (eS s)=[]:=rfl
def axS(X:Kn)(c:aX)(o:Op)(s:St)(out:Out):Prop:=∃u:St,out=.ret (.tuple [.agg (eS u),.bool (X.take c o s).isSome])∧∀t,X.take c o s=some t→u=t
structure anw(mi:Nat)(os:List Op)(x:Nat)(o:Op)(c:aX):Prop where
 get:os[x]?=some o
 name:o.name=c.name
 ar:o.args.length=c.ar
 fZ:c.fZ=mi
variable{C:bH}{X:Kn}(S:Std C X)
include S
theorem anx{mi:Nat}{os:List Op}{cO:AV}(hc:qf 10 eO cO os){x:Nat}{o:Op}{c:aX}(hx:anw mi os x o c){s s0:St}(hs:kx mi s){e:Nat}{h:T ai}{nx bj:Key}(hb:ag bj h=Qz (jB X mi cO s0 e))(tM:bj.toNat<nx.toNat) :
  aB C fL [.ptr bj 0,I x,.agg (eS s)] h nx (fun out h' nx'=>axS X c o s out∧Ext h nx h' nx'):=by
 obtain⟨hxo,hn,har,rfl⟩:=hx;obtain⟨hxl,hox⟩:=List.getElem?_eq_some_iff.1 hxo;have s1:=kTSu nx;have s2:=kTSu nx.succ;have s3:=kTSu nx.succ.succ;have rC:=S.r GR;have rH:=S.r Bp;have rN:=S.r Dl;have anz:cO=.sl (ak eO os) os.length 10 .any:=by
  rcases hc with⟨_,rfl⟩|e
  ·simp at hxl
  ·exact e
 subst anz;have ec:=kZ.at hxl;have hr:=kZ.rows os;have tx:10≤os.length*10-x*10:=by omega
 have hac:(eO os[x]).all AV.aQ=true:=xM.2 (kZ.cell _);rw[hox]at ec hac;have scC:=S.s_CanP c s o.args hs har;have scH:=S.s_HoldsP c s o.args o.res hs har;have scN:=S.s_NextP c s o.args o.res hs har;have OQ:X.take c o s=if X.Rn c s o.args≠0∨X.Rm c s o.args=false then none
  else if 0≤o.e∧(X.wo c s o.args o.res≠0∨X.wk c s o.args o.res=false)then none
  else if X.BN c s o.args o.res≠0 then none else some (X.Ae c s o.args o.res):=rfl
 refine S.sR.call ?_;simp[pj];simp[rY,Gj,lenS];have e2:=(E0 h nx (.cells (eS s) .fix)).trans (E0 _ nx.succ (.cells [I 0,I 0,.str 0 0,.nils] .fix));have bs2:ag nx (au nx.succ (Qz [I 0,I 0,.str 0 0,.nils]) (au nx (Qz (eS s)) h))=Qz (eS s):=by rw[aw (by omega)];simp
 have b62:ag nx.succ (au nx.succ (Qz [I 0,I 0,.str 0 0,.nils]) (au nx (Qz (eS s)) h))=Qz [I 0,I 0,.str 0 0,.nils]:=by simp
 have bj2:ag bj (au nx.succ (Qz [I 0,I 0,.str 0 0,.nils]) (au nx (Qz (eS s)) h))=Qz (jB X c.fZ (.sl (ak eO os) os.length 10 .any) s0 e):=by rw[e2.g bj tM];exact hb
 generalize au nx.succ (Qz [I 0,I 0,.str 0 0,.nils]) (au nx (Qz (eS s)) h)=h2 at *;simp[rZ,bj2,jB,hxl,hr,tx,ec,aaY,ajs,hac];have e3:=E0 h2 nx.succ.succ (.cells (eO o) .fix);have bo3:ag nx.succ.succ (au nx.succ.succ (Qz (eO o)) h2)=Qz (eO o):=by simp
 have bs3:ag nx (au nx.succ.succ (Qz (eO o)) h2)=Qz (eS s):=by rw[e3.g nx (by omega)];exact bs2
 have b63:ag nx.succ (au nx.succ.succ (Qz (eO o)) h2)=Qz [I 0,I 0,.str 0 0,.nils]:=by rw[e3.g nx.succ (by omega)];exact b62
 have bj3:ag bj (au nx.succ.succ (Qz (eO o)) h2)=Qz (jB X c.fZ (.sl (ak eO os) os.length 10 .any) s0 e):=by rw[e3.g bj (by omega)];exact bj2
 have e23:=e2.trans e3;generalize au nx.succ.succ (Qz (eO o)) h2=h3 at *;have af:∀n H,aO n (aC o.args) H=(aC o.args,H):=dY _;have done:∀(c6:List AV),Ext h nx (au nx.succ (Qz c6) h3) nx.succ.succ.succ:=fun c6=>e23.put (by omega);simp[r7,bj3,jB,bo3,bs3,eO,hn,rC,BV,lenS,C4,af];refine aB.known (scC _ _) ?_;simp;have QW:X.take c o s=none→axS X c o s (.ret (.tuple [.agg [I 0,I 0,.str 0 0,.nils],.bool false])):=fun e=>⟨⟨0,0,[]⟩,by rw[e];rfl,by rw[e];simp⟩;by_cases h1:X.Rn c s o.args=0
 ·cases h2:X.Rm c s o.args with
  |false=>
   have ht:X.take c o s=none:=by rw[OQ,if_pos (.inr h2)]
   simp[gI,h1];simp[kH,b63];exact⟨QW ht,done _⟩
  |true=>
   have GU:X.take c o s=if 0≤o.e∧(X.wo c s o.args o.res≠0∨X.wk c s o.args o.res=false)then none else if X.BN c s o.args o.res≠0 then none else some (X.Ae c s o.args o.res):=by rw[OQ,if_neg];rw[h1,h2];simp
   have s4:=kTSu nx.succ.succ.succ;simp[gI,h1];have last:∀cE:T AV,ag (K 0) cE=some (.ptr bj 0)→ag (K 5) cE=some (.ptr nx 0)→ag (K 6) cE=some (.ptr nx.succ 0)→ag (K 8) cE=some (.ptr nx.succ.succ 0)→(X.take c o s=if X.BN c s o.args o.res≠0 then none else some (X.Ae c s o.args o.res))→
     mE C (.seq (.staged kK ⟨[K 83,K 84,K 85,K 86,K 87,K 88,K 89,K 90,K 91,K 92,K 93,K 94,K 95,K 96,K 97,K 98,K 99,K 100,K 101,K 102,K 82,K 103,K 104,K 13,K 10],[]⟩) (.seq (.ops jY) .ret)) (gC [.cell (K 6) true 4,.tmp (K 7)] fun out h' nx'=>axS X c o s out∧Ext h nx h' nx') cE h3 nx.succ.succ.succ:=by
    intro cE q0 q5 q6 q8 ht;simp;simp[kK,q0,q5,q8,bj3,jB,bo3,bs3,eO,hn,rN,BV,lenS,C4,af];refine aB.known (scN _ _) ?_;simp[Gj,lenS,ang];have b64:ag nx.succ (au nx.succ.succ.succ (Qz (eS (X.Ae c s o.args o.res))) h3)=Qz [I 0,I 0,.str 0 0,.nils]:=by rw[aw (by omega)];exact b63
    simp[jY,q6,b64,Gj,lenS,BV,C4];refine⟨⟨X.Ae c s o.args o.res,?_,?_⟩,?_⟩
    ·rw[ht];by_cases he:X.BN c s o.args o.res=0
     ·rw[if_neg (by simpa using he),bt he];rfl
     ·rw[if_pos he,bq he];rfl
    ·intro t hts;rw[ht]at hts;split at hts
     ·cases hts
     ·exact Option.some.inj hts
    ·exact⟨by have:=e23.n;omega,fun b hb=>by rw[aw (by omega),aw (by omega)];exact e23.g b hb⟩
   simp only[ji,tP]at last;by_cases he:o.e<0
   ·rw[if_neg (by omega)]at GU;simp[kM,bo3,eO,he];refine last _ ?_ ?_ ?_ ?_ GU<;>simp
   ·simp[kM,bo3,eO,he];simp[r8,bj3,jB,bo3,bs3,eO,hn,rH,BV,lenS,C4,af];refine aB.known (scH _ _) ?_;simp;by_cases Py:X.wo c s o.args o.res=0
    ·cases h4:X.wk c s o.args o.res with
     |false=>rw[if_pos ⟨by omega,.inr h4⟩]at GU;simp[gJ,Py];simp[kO,b63];exact⟨QW GU,done _⟩
     |true=>rw[if_neg (by rw[Py,h4];simp)]at GU;simp[gJ,Py];refine last _ ?_ ?_ ?_ ?_ GU<;>simp
    ·rw[if_pos ⟨by omega,.inl Py⟩]at GU;simp[gJ,bq Py];simp[kO,b63];exact⟨QW GU,done _⟩
 ·have ht:X.take c o s=none:=by rw[OQ,if_pos (.inl h1)]
  simp[gI,bq h1];simp[kH,b63];exact⟨QW ht,done _⟩
end Ln
namespace Ln
open Go.Sx Go
variable{C:bH}{X:Kn}(S:Std C X)
include S
end Ln
namespace Ln
open Go.Sx Go
def cm(i:Nat)(o:Op):aX:=(w8 i o.name).getD default
def Kn.run(X:Kn)(i:Nat)(os:List Op):List Int→St→Bool
 | [],_=>true
 |x ::l,s=>match X.take (cm i (at_ os x)) (at_ os x) s with
  |none=>false
  |some t=>X.run i os l t
theorem aaV{i:Nat}{l:List Ev}(h:w9 i l=0):dI [] l=0∧yv i (dm 0 l)=0:=by
 unfold w9 at h;by_cases hv:dI [] l=0
 ·rw[if_pos hv]at h;exact⟨hv,h⟩
 ·rw[if_neg hv]at h;exfalso;unfold DE at h;split at h
  ·exact hv ‹_›
  ·exact absurd h (by decide)
  ·exact absurd h (by decide)
  ·exact absurd h (by decide)
theorem ahf{i:Nat}(hi:i<3){os:List Op}(hb:yv i os=0){x:Nat}{o:Op}(h:os[x]?=some o):anw i os x o (cm i o):=by
 obtain⟨c,h1,h2⟩:=aiD hb o (List.mem_of_getElem? h);have e:cm i o=c:=by unfold cm;rw[h1];rfl
 rw[e];exact⟨h,(Tr h1).1.symm,h2,ajD hi h1⟩
theorem aiB{i:Nat}(hi:i<3):kx i (aJ i):=by unfold kx aJ Aj;split<;>simp
variable{C:bH}{X:Kn}(S:Std C X)
include S
end Ln
namespace Ln
open Go.Sx Go
variable{C:bH}{X:Kn}(S:Std C X)
include S
end Ln
namespace Ln
open Go.Sx Go
variable{C:bH}{X:Kn}(S:Std C X)
include S
end Ln
namespace Ln
section
variable{σ:Type}
abbrev Cf(σ:Type):=Nat×σ
structure Sys(σ:Type) where
 n:Nat
 FP:Nat→Nat→Bool
 take:Nat→σ→Option σ
 acc:Nat→Bool
def Sys.step(S:Sys σ)(c:Cf σ)(i:Nat):Option (Nat×Cf σ):=if S.FP i c.1=true then(S.take i c.2).map fun s=>(i,(c.1+2^i,s))else none
def Sys.steps(S:Sys σ)(c:Cf σ):List (Nat×Cf σ):=(List.range S.n).filterMap (S.step c)
def Sys.Ok(S:Sys σ):Prop:=∀i d,S.FP i d=true→d.testBit i=false
inductive Good(S:Sys σ):Cf σ→Prop
 |now {c:Cf σ} (h:S.acc c.1=true):Good S c
 |step {c c':Cf σ} {i:Nat} (h:(i,c')∈S.steps c) (g:Good S c'):Good S c
inductive Path(S:Sys σ):Cf σ→List Nat→Prop
 |now {c:Cf σ} (h:S.acc c.1=true):Path S c []
 |step {c c':Cf σ} {i:Nat} {p:List Nat} {a b:List (Nat×Cf σ)} (h:S.acc c.1=false) (e:S.steps c=a++(i,c') ::b) (no:∀x∈a,¬Good S x.2) (g:Path S c' p):Path S c (i ::p)
theorem Path.Rr{S:Sys σ}{c:Cf σ}{p:List Nat}(h:Path S c p):Good S c:=by
 induction h with
 |now h=>exact .now h
 | @step c c' i p a b h e no g ih=>exact .step (i:=i) (by rw[e];simp) ih
theorem Path.uniq{S:Sys σ}{c:Cf σ}{p:List Nat}(h:Path S c p):∀{q:List Nat},Path S c q→p=q:=by
 induction h with
 |now h=>
  intro q hq;cases hq with
  |now _=>rfl
  |step h'=>rw[h]at h';cases h'
 | @step c c' i p a b h e no g ih=>
  intro q hq;cases hq with
  |now h'=>rw[h]at h';cases h'
  | @step _ c2 i2 p2 a2 b2 h' e' no' g'=>
   have key:∀(a a2:List (Nat×Cf σ)),a++(i,c') ::b=a2++(i2,c2) ::b2→(∀x∈a,¬Good S x.2)→(∀x∈a2,¬Good S x.2)→(i,c')=(i2,c2):=by
    intro a
    induction a with
    |nil=>
     intro a2 e3 n1 n2;cases a2 with
     |nil=>simp only[List.nil_append,List.cons.injEq]at e3;exact e3.1
     |cons y t=>simp only[List.nil_append,List.cons_append,List.cons.injEq]at e3;exact absurd g.Rr (by have:=n2 y (by simp);rw[←e3.1]at this;exact this)
    |cons x t iht=>
     intro a2 e3 n1 n2;cases a2 with
     |nil=>simp only[List.nil_append,List.cons_append,List.cons.injEq]at e3;exact absurd g'.Rr (by have:=n1 x (by simp);rw[e3.1]at this;exact this)
     |cons y s=>simp only[List.cons_append,List.cons.injEq]at e3;exact iht s e3.2 (fun x hx=>n1 x (by simp[hx])) (fun x hx=>n2 x (by simp[hx]))
   have:=key a a2 (e.symm.trans e') no no';cases this;rw[ih g']
theorem Nd{S:Sys σ}{c c':Cf σ}{i:Nat}(h:(i,c')∈S.steps c):i<S.n∧S.FP i c.1=true∧c'.1=c.1+2^i∧S.take i c.2=some c'.2:=by
 unfold Sys.steps at h;rw[List.mem_filterMap]at h;obtain⟨j,hj,e⟩:=h;unfold Sys.step at e;split at e
 ·rename_i ho;cases ht:S.take j c.2 with
  |none=>rw[ht]at e;cases e
  |some s=>rw[ht]at e;simp only[Option.map_some,Option.some.injEq,Prod.mk.injEq]at e;obtain⟨rfl,rfl⟩:=e;exact⟨List.mem_range.1 hj,ho,rfl,ht⟩
 ·cases e
theorem adZ:∀(i d:Nat),d.testBit i=false→d ||| 2^i=d+2^i
 |0,d,h=>by
  have h1:(d ||| 2^0) / 2=d / 2:=by rw[Nat.or_div_two];simp
  have h2:(d ||| 2^0)%2=1:=by
   have:(d ||| 2^0)%2^1=d%2^1 ||| 2^0%2^1:=Nat.or_mod_two_pow;have hd:d%2=0:=by rw[Nat.testBit_zero]at h;simp at h;omega
   rw[show(2:Nat)^1=2 from rfl,hd]at this;exact this
  have hd:d%2=0:=by rw[Nat.testBit_zero]at h;simp at h;omega
  generalize d ||| 2^0=x at h1 h2 ⊢;rw[Nat.pow_zero];omega
 |i+1,d,h=>by
  have h1:(d ||| 2^(i+1)) / 2=d / 2 ||| 2^i:=by rw[Nat.or_div_two,Nat.pow_succ,Nat.mul_div_cancel _ (by omega)]
  have h2:(d ||| 2^(i+1))%2=d%2:=by
   have:(d ||| 2^(i+1))%2^1=d%2^1 ||| 2^(i+1)%2^1:=Nat.or_mod_two_pow;have e:2^(i+1)%2=0:=by rw[Nat.pow_succ];omega
   simpa[e]using this
  have:=adZ i (d / 2) (by rw[←Nat.testBit_succ];exact h);rw[this]at h1;generalize d ||| 2^(i+1)=x at h1 h2 ⊢;rw[Nat.pow_succ];omega
theorem alL{d n i:Nat}(hd:d<2^n)(hi:i<n)(hb:d.testBit i=false):d+2^i<2^n∧d ||| 2^i=d+2^i:=by have e:=adZ i d hb;refine⟨?_,e⟩;rw[←e];exact Nat.or_lt_two_pow hd (Nat.pow_lt_pow_right (by omega) hi)
theorem alM{S:Sys σ}(hS:S.Ok){c c':Cf σ}{i:Nat}(h:(i,c')∈S.steps c)(hc:c.1<2^S.n):c'.1<2^S.n∧2^S.n-c'.1<2^S.n-c.1∧c.1<c'.1:=by obtain⟨h1,h2,h3,h4⟩:=Nd h;have:=alL hc h1 (hS _ _ h2);have:0<2^i:=Nat.two_pow_pos i;omega
variable[DecidableEq σ]
def fH(l:List (Cf σ))(c:Cf σ):List (Cf σ):=if c∈l then l else l ++ [c]
def gG:List (Cf σ)→List (Cf σ)→Option (List (Cf σ))
 |l,[]=>some l
 |l,c ::r=>if (fH l c).length>1024 then none else gG (fH l c) r
def WL(S:Sys σ):Nat→Nat→List (Cf σ)→Option (List (Cf σ))
 |0,_,l=>some l
 |f+1,i,l=>match l[i]? with
  |none=>some l
  |some c=>match gG l ((S.steps c).map (·.2))with
   |none=>none
   |some l'=>WL S f (i+1) l'
theorem alN(l:List (Cf σ))(c:Cf σ):∃r,fH l c=l++r:=by
 unfold fH;split
 ·exact⟨[],by simp⟩
 ·exact⟨[c],rfl⟩
theorem alO(l:List (Cf σ))(c:Cf σ):c∈fH l c:=by unfold fH;split<;>simp_all
theorem J6{l:List (Cf σ)}(h:l.Nodup)(c:Cf σ):(fH l c).Nodup:=by
 unfold fH;split
 ·exact h
 ·rename_i hc;rw[List.nodup_append];refine⟨h,by simp,?_⟩;intro a ha b hb;simp at hb;rintro rfl;subst hb;exact hc ha
theorem aap{p:Cf σ→Prop}{l:List (Cf σ)}{c:Cf σ}(h:∀x∈l,p x)(hc:p c):∀x∈fH l c,p x:=by
 unfold fH;split
 ·exact h
 ·intro x hx;rcases List.mem_append.1 hx with hx|hx
  ·exact h x hx
  ·simp at hx;rw[hx];exact hc
theorem qC:∀{r l l':List (Cf σ)},gG l r=some l'→(∃t,l'=l++t)∧(∀c∈r,c∈l')∧(l.Nodup→l'.Nodup)∧(l.length≤1024→l'.length≤1024)∧(∀x∈l',x∈l∨x∈r)
 | [],l,l',h=>by unfold gG at h;cases h;exact⟨⟨[],by simp⟩,by simp,id,id,fun x hx=>.inl hx⟩
 |c ::r,l,l',h=>by
  unfold gG at h;split at h
  ·cases h
  ·rename_i hl;obtain⟨⟨t,e⟩,h2,h3,h4,h5⟩:=qC h;obtain⟨u,e2⟩:=alN l c;refine⟨⟨u++t,by rw[e,e2];simp⟩,?_,fun hn=>h3 (J6 hn c),fun _=>h4 (by omega),?_⟩
   ·intro x hx;rcases List.mem_cons.1 hx with rfl|hx
    ·rw[e];exact List.mem_append_left _ (alO _ _)
    ·exact h2 x hx
   ·intro x hx;rcases h5 x hx with hx|hx
    ·unfold fH at hx;split at hx
     ·exact .inl hx
     ·rcases List.mem_append.1 hx with hx|hx
      ·exact .inl hx
      ·simp at hx;subst hx;exact .inr (by simp)
    ·exact .inr (by simp[hx])
def pop:Nat→Nat→Nat
 |0,_=>0
 |n+1,d=>pop n d+(if d.testBit n then 1 else 0)
theorem alP(d i:Nat)(hb:d.testBit i=false):∀n:Nat,pop n (d ||| 2^i)=pop n d+(if i<n then 1 else 0)
 |0=>by simp[pop]
 |n+1=>by
  unfold pop;rw[alP d i hb n,Nat.testBit_or,Nat.testBit_two_pow];by_cases h:i=n
  ·subst h;rw[hb];simp
  ·by_cases h2:i<n
   ·simp[h,h2,show i<n+1 by omega];omega
   ·simp[h,h2,show ¬i<n+1 by omega]
structure Kept(S:Sys σ)(i:Nat)(l:List (Cf σ)):Prop where
 nodup:l.Nodup
 len:l.length≤1024
 lt:∀c∈l,c.1<2^S.n
 mono:l.Pairwise fun a b=>pop S.n a.1≤pop S.n b.1
 aGN:∀c,l[i]?=some c→∀x∈l,pop S.n x.1≤pop S.n c.1+1
 done:∀(j:Nat) (c:Cf σ),j<i→l[j]?=some c→∀x∈S.steps c,x.2∈l
theorem aaq{S:Sys σ}(hS:S.Ok){c c':Cf σ}{i:Nat}(h:(i,c')∈S.steps c)(hc:c.1<2^S.n):pop S.n c'.1=pop S.n c.1+1:=by obtain⟨h1,h2,h3,h4⟩:=Nd h;have hb:=hS _ _ h2;rw[h3,←(alL hc h1 hb).2,alP _ _ hb,if_pos h1]
theorem ai1{S:Sys σ}{l:List (Cf σ)}{c:Cf σ}{k:Nat}(hk:pop S.n c.1=k+1)(hle:∀x∈l,pop S.n x.1≤k+1)(hm:l.Pairwise fun a b=>pop S.n a.1≤pop S.n b.1) :
  (fH l c).Pairwise (fun a b=>pop S.n a.1≤pop S.n b.1)∧∀x∈fH l c,pop S.n x.1≤k+1:=by
 refine⟨?_,aap hle (by omega)⟩;unfold fH;split
 ·exact hm
 ·rw[List.pairwise_append];refine⟨hm,by simp,?_⟩;intro a ha b hb;simp at hb;subst hb;have:=hle a ha;omega
theorem Oq{S:Sys σ}{k:Nat}:∀{r l l':List (Cf σ)},gG l r=some l'→(∀c∈r,pop S.n c.1=k+1)→(∀x∈l,pop S.n x.1≤k+1)→(l.Pairwise fun a b=>pop S.n a.1≤pop S.n b.1)→
  (l'.Pairwise fun a b=>pop S.n a.1≤pop S.n b.1)∧∀x∈l',pop S.n x.1≤k+1
 | [],l,l',h,_,h2,h3=>by unfold gG at h;cases h;exact⟨h3,h2⟩
 |c ::r,l,l',h,h1,h2,h3=>by
  unfold gG at h;split at h
  ·cases h
  ·obtain⟨a,b⟩:=ai1 (S:=S) (h1 c (by simp)) h2 h3;exact Oq h (fun c hc=>h1 c (by simp[hc])) b a
theorem Kept.next{S:Sys σ}(hS:S.Ok){i:Nat}{l l':List (Cf σ)}(h:Kept S i l){c:Cf σ}(hc:l[i]?=some c)(ha:gG l ((S.steps c).map (·.2))=some l'):Kept S (i+1) l':=by
 have K8:c∈l:=List.mem_of_getElem? hc;have aBx:=h.lt c K8;obtain⟨⟨t,e⟩,h2,h3,h4,h5⟩:=qC ha;obtain⟨m1,m2⟩:=Oq (S:=S) (k:=pop S.n c.1) ha (by intro x hx;rw[List.mem_map]at hx;obtain⟨⟨j,y⟩,hy,rfl⟩:=hx;exact aaq hS hy aBx) (h.aGN c hc) h.mono
 refine⟨h3 h.nodup,h4 h.len,?_,m1,?_,?_⟩
 ·intro x hx;rcases h5 x hx with hx|hx
  ·exact h.lt x hx
  ·rw[List.mem_map]at hx;obtain⟨⟨j,y⟩,hy,rfl⟩:=hx;exact(alM hS hy aBx).1
 ·intro c2 hc2 x hx;have hle:=m2 x hx;have:pop S.n c.1≤pop S.n c2.1:=by
   have hp:=List.pairwise_iff_getElem.1 m1;obtain⟨q1,q2⟩:=List.getElem?_eq_some_iff.1 hc2;have hi:i<l'.length:=by omega
   have hci:l'[i]=c:=by
    have XT:i<l.length:=(List.getElem?_eq_some_iff.1 hc).1;have:l'[i]?=some c:=by rw[e,List.getElem?_append_left XT];exact hc
    exact(List.getElem?_eq_some_iff.1 this).2
   have:=hp i (i+1) hi q1 (by omega);rw[hci,q2]at this;exact this
  omega
 ·intro j c2 hj hc2 x hx;by_cases PF:j=i
  ·subst PF;have:c2=c:=by have XT:j<l.length:=(List.getElem?_eq_some_iff.1 hc).1;rw[e,List.getElem?_append_left XT,hc]at hc2;exact(Option.some.inj hc2).symm
   subst this;exact h2 _ (List.mem_map.2 ⟨x,hx,rfl⟩)
  ·have fu:j<l.length:=by have:=(List.getElem?_eq_some_iff.1 hc).1;omega
   rw[e,List.getElem?_append_left fu]at hc2;have:=h.done j c2 (by omega) hc2 x hx;rw[e];exact List.mem_append_left _ this
theorem Kept.up{S:Sys σ}(hS:S.Ok){i:Nat}{l:List (Cf σ)}(h:Kept S i l){j k:Nat}{c c':Cf σ}(hc:l[j]?=some c)(hk:l[k]?=some c'){q:Nat}(hs:(q,c')∈S.steps c):j<k:=by
 rcases Nat.lt_or_ge j k with ZT|ZT
 ·exact ZT
 ·exfalso;have hp:=aaq hS hs (h.lt c (List.mem_of_getElem? hc));obtain⟨a1,a2⟩:=List.getElem?_eq_some_iff.1 hc;obtain⟨b1,b2⟩:=List.getElem?_eq_some_iff.1 hk;rcases Nat.lt_or_ge k j with dn|ZQ
  ·have:=List.pairwise_iff_getElem.1 h.mono k j b1 a1 dn;rw[a2,b2]at this;omega
  ·have:j=k:=by omega
   subst this;rw[hc]at hk;cases hk;omega
end
section
variable{σ:Type}[DecidableEq σ]
open Classical in
noncomputable def ry(S:Sys σ)(c:Cf σ):Bool:=decide (Good S c)
theorem Im{S:Sys σ}{c:Cf σ}:ry S c=true↔Good S c:=by unfold ry;exact @decide_eq_true_iff _ (Classical.propDecidable _)
theorem Xb{S:Sys σ}{c:Cf σ}:ry S c=false↔¬Good S c:=by rw[←Im];cases ry S c<;>simp
theorem adf{S:Sys σ}(c:Cf σ):ry S c=(S.acc c.1||(S.steps c).any fun x=>ry S x.2):=by
 rw[Bool.eq_iff_iff,Im,Bool.or_eq_true,List.any_eq_true];constructor
 ·intro h;cases h with
  |now h=>exact .inl h
  | @step c c' i h g=>exact .inr ⟨(i,c'),h,Im.2 g⟩
 ·rintro(h|⟨⟨i,c'⟩,hx,g⟩)
  ·exact .now h
  ·exact .step hx (Im.1 g)
def rowOf(S:Sys σ)(l:List (Cf σ))(c:Cf σ):List (Nat×Nat):=(S.steps c).map fun x=>(x.1,l.idxOf x.2)
theorem ahC{l t:List (Cf σ)}{c:Cf σ}(h:c∈l):(l++t).idxOf c=l.idxOf c:=by rw[List.idxOf_append,if_pos h]
theorem akE{S:Sys σ}{l t:List (Cf σ)}{c:Cf σ}(h:∀x∈S.steps c,x.2∈l):rowOf S (l++t) c=rowOf S l c:=by unfold rowOf;apply List.map_congr_left;intro x hx;rw[ahC (h x hx)]
theorem Il{l:List (Cf σ)}{c:Cf σ}(h:c∈l):l[l.idxOf c]?=some c:=by have:=List.idxOf_lt_length_of_mem h;rw[List.getElem?_eq_getElem this,List.getElem_idxOf]
theorem ay1{l:List (Cf σ)}(hn:l.Nodup){c:Cf σ}{j:Nat}(h:l[j]?=some c):l.idxOf c=j:=by have h1:=Il (List.mem_of_getElem? h);have a1:=(List.getElem?_eq_some_iff.1 h1);have a2:=(List.getElem?_eq_some_iff.1 h);obtain⟨p1,p2⟩:=a1;obtain⟨q1,q2⟩:=a2;exact(List.getElem_inj hn).1 (p2.trans q2.symm)
structure Whole(S:Sys σ)(l:List (Cf σ))(c0:Cf σ):Prop where
 kept:Kept S l.length l
 first:l[0]?=some c0
theorem Whole.closed{S:Sys σ}{l:List (Cf σ)}{c0:Cf σ}(h:Whole S l c0){c:Cf σ}(hc:c∈l):∀x∈S.steps c,x.2∈l:=by obtain⟨j,hj,e⟩:=List.getElem_of_mem hc;exact h.kept.done j c hj (by rw[List.getElem?_eq_getElem hj,e])
theorem Kept.start{S:Sys σ}{s:σ}(SM:1≤1024):Kept S 0 [(0,s)]:=by
 refine⟨by simp,by simp,?_,by simp,?_,?_⟩
 ·intro c hc;simp at hc;subst hc;exact Nat.two_pow_pos _
 ·intro c hc x hx;simp at hc hx;subst hc;subst hx;omega
 ·intro j c hj;omega
theorem apW{S:Sys σ}{f i:Nat}{l:List (Cf σ)}{c:Cf σ}(h:l[i]?=some c):WL S (f+1) i l=match gG l ((S.steps c).map (·.2))with|none=>none|some l'=>WL S f (i+1) l':=by show(match l[i]? with|none=>some l|some c=>_)=_;simp only[h]<;>rfl
theorem atE{S:Sys σ}{f i:Nat}{l:List (Cf σ)}(h:l.length≤i):WL S f i l=some l:=by
 cases f with
 |zero=>rfl
 |succ f=>show(match l[i]? with|none=>some l|some c=>_)=_;rw[List.getElem?_eq_none h]
theorem Path.more{S:Sys σ}{c c':Cf σ}{i:Nat}{p:List Nat}{a b:List (Nat×Cf σ)}(h:S.acc c.1=false)(e:S.steps c=a++(i,c') ::b)(no:∀x∈a,¬Good S x.2)(g:Path S c' p):Path S c (i ::p):=.step h e no g
theorem aav{S:Sys σ}{c:Cf σ}(h:S.acc c.1=false)(no:∀x∈S.steps c,¬Good S x.2):¬Good S c:=by
 intro hg;cases hg with
 |now h2=>rw[h]at h2;cases h2
 |step hs g=>exact no _ hs g
def Sys.kD(S:Sys σ)(c:Cf σ)(k:Nat):List (Nat×Cf σ):=(List.range k).filterMap (S.step c)
theorem kF(S:Sys σ)(c:Cf σ)(k:Nat):S.kD c (k+1)=S.kD c k++(S.step c k).toList:=by unfold Sys.kD;rw[List.range_succ,List.filterMap_append];cases h:S.step c k<;>simp[h]
theorem W6(S:Sys σ)(c:Cf σ):S.kD c S.n=S.steps c:=rfl
theorem Gi(S:Sys σ)(c:Cf σ){k m:Nat}(h:k≤m):∃t,S.kD c m=S.kD c k++t:=by
 induction m with
 |zero=>exact⟨[],by obtain rfl:k=0:=Nat.le_zero.1 h;simp⟩
 |succ m ih=>
  rcases Nat.lt_or_ge k (m+1)with h1|h1
  ·obtain⟨t,e⟩:=ih (by omega);exact⟨t++(S.step c m).toList,by rw[kF,e,List.append_assoc]⟩
  ·have:k=m+1:=by omega
   subst this;exact⟨[],by simp⟩
theorem agB(S:Sys σ)(c:Cf σ){k:Nat}(h:k<S.n){x:Nat×Cf σ}(e:S.step c k=some x):∃b,S.steps c=S.kD c k++x ::b:=by obtain⟨t,e2⟩:=Gi S c (k:=k+1) (m:=S.n) (by omega);refine⟨t,?_⟩;rw[←W6,e2,kF,e];simp
end
end Ln
namespace Ln
open Go.Sx Go
def PG(os:List Op)(k d:Nat):Bool:=!d.testBit k&&(List.range os.length).all fun q=>q==k || !(before (os.getD q default) (os.getD k default)&&decide (0≤(os.getD q default).e) && !d.testBit q) && !(d.testBit q&&before (os.getD k default) (os.getD q default))
def ER(os:List Op)(d:Nat):Bool:=(List.range os.length).all fun q=>!decide (0≤(os.getD q default).e)||d.testBit q
def ba(X:Kn)(i:Nat)(os:List Op):Sys St:=⟨os.length,PG os,fun k s=>X.take (cm i (os.getD k default)) (os.getD k default) s,ER os⟩
theorem QP(X:Kn)(i:Nat)(os:List Op):(ba X i os).Ok:=by intro k d h;have h:PG os k d=true:=h;unfold PG at h;rw[kW]at h;simpa using h.1
theorem FO{os:List Op}{k:Nat}(h:k<os.length):os.getD k default=os[k]:=by rw[List.getD_eq_getElem?_getD,zC h];rfl
variable{C:bH}{X:Kn}(S:Std C X)
include S
end Ln
namespace Ln
open Go.Sx Go
structure Sq where
 c:aX
 a:List U
 r:U
deriving Inhabited
def HR(j:Nat)(q:Sq):Ev:=⟨0,((j%4:Nat):Int),q.c.name,q.a,⟨0,0⟩⟩
def Io(j:Nat)(q:Sq):Ev:=⟨1,((j%4:Nat):Int),(0,0),[],q.r⟩
def dE:Nat→List Sq→List Ev
 |_,[]=>[]
 |j,q ::l=>HR j q ::Io j q ::dE (j+1) l
def opQ(j:Nat)(q:Sq):Op:=⟨((j%4:Nat):Int),2*j,((2*j+1:Nat):Int),-1,q.c.name,q.a,q.r⟩
def ky:Nat→List Sq→List Op
 |_,[]=>[]
 |j,q ::l=>opQ j q ::ky (j+1) l
theorem yi:∀(l:List Sq) (j:Nat),(dE j l).length=2*l.length
 | [],_=>rfl
 |q ::l,j=>by show(dE (j+1) l).length+1+1=_;rw[yi l,HW];omega
theorem Q7:∀(l m:List Sq) (j:Nat),dE j (l++m)=dE j l++dE (j+l.length) m
 | [],m,j=>rfl
 |q ::l,m,j=>by show HR j q ::Io j q ::dE (j+1) (l++m)=HR j q ::Io j q ::(dE (j+1) l++dE (j+(l.length+1)) m);rw[Q7 l m (j+1),show j+1+l.length=j+(l.length+1) by omega]
theorem BO:∀(l:List Sq) (j:Nat),(ky j l).length=l.length
 | [],_=>rfl
 |q ::l,j=>by show(ky (j+1) l).length+1=_;rw[BO l];rfl
theorem Rs:∀(l:List Sq) (j k:Nat),(ky j l)[k]?=(l[k]?).map (opQ (j+k))
 | [],_,_=>by simp[ky]
 |q ::l,j,0=>rfl
 |q ::l,j,k+1=>by show(ky (j+1) l)[k]?=(l[k]?).map _;rw[Rs l,show j+1+k=j+(k+1) by omega]
theorem Nf{l:List Sq}{k:Nat}(h:k<l.length):(ky 0 l).getD k default=opQ k l[k]:=by rw[List.getD_eq_getElem?_getD,Rs,zC h,Nat.zero_add];rfl
theorem aas:∀(l:List Sq) (j:Nat),dm (2*j) (dE j l)=ky j l
 | [],_=>rfl
 |q ::l,j=>by
  have e1:qU (2*j+1) (Io j q) (Bd (2*j) (HR j q))=opQ j q:=by unfold qU;rw[if_pos ⟨by simp[Bd],by simp[Bd]⟩,if_neg (by simp[Io]),if_pos ⟨rfl,rfl⟩];rfl
  have e2:follow (Bd (2*j) (HR j q)) (2*j+1) (Io j q ::dE (j+1) l)=opQ j q:=by show follow (qU (2*j+1) (Io j q) (Bd (2*j) (HR j q))) (2*j+1+1) (dE (j+1) l)=_;rw[e1];exact Ot (by simp[opQ];omega) _ _
  show(if (HR j q).kind=0 then [follow (Bd (2*j) (HR j q)) (2*j+1) (Io j q ::dE (j+1) l)]else [])++((if (Io j q).kind=0 then [follow (Bd (2*j+1) (Io j q)) (2*j+1+1) (dE (j+1) l)]else [])++dm (2*j+1+1) (dE (j+1) l))=_;rw[if_pos (show(HR j q).kind=0 from rfl),if_neg (by simp[Io]),e2,show 2*j+1+1=2*(j+1) by omega,aas l (j+1)];rfl
structure OkQ(q:Sq):Prop where
 len:q.a.length≤16
 args:q.a.all sC=true
 res:sC q.r=true
theorem alQ(c:aX):c.name≠(0,0)∧c.name.1≤16:=by cases c<;>simp[aX.name]
theorem aBy{q:Sq}(h:OkQ q)(j:Nat):Bx (HR j q)=true:=by unfold Bx;rw[decide_eq_true_eq];have:=alQ q.c;refine⟨by simp[HR],by simp[HR],by show(0:Int)≤((j%4:Nat):Int);omega,?_,.inl ⟨rfl,rfl,this.1,this.2,h.len,h.args⟩⟩;show((j%4:Nat):Int)≤3;omega
theorem aBz{q:Sq}(h:OkQ q)(j:Nat):Bx (Io j q)=true:=by unfold Bx;rw[decide_eq_true_eq];refine⟨by simp[Io],by simp[Io],by show(0:Int)≤((j%4:Nat):Int);omega,?_,.inr (.inl ⟨rfl,rfl,rfl,h.res⟩)⟩;show((j%4:Nat):Int)≤3;omega
theorem WM:∀(l:List Sq) (j:Nat) (p:List Ev),(∀c,sO c p=-1)→(∀q∈l,OkQ q)→dI p (dE j l)=0
 | [],_,_,_,_=>rfl
 |q ::l,j,p,hp,h=>by
  have hq:=h q (by simp);have b1:Rt p (HR j q)=0:=by unfold Rt;rw[aBy hq j,hp];simp[HR]
  have ho:∀c,sO c (HR j q ::p)=if c=((j%4:Nat):Int)then(p.length:Int)else -1:=fun c=>by rw[ahg (x:=HR j q) rfl,hp];rfl
  have b2:Rt (HR j q ::p) (Io j q)=0:=by unfold Rt;have:(Io j q).client=((j%4:Nat):Int):=rfl;rw[aBz hq j,this,ho,if_pos rfl];simp[Io]
  have hp':∀c,sO c (Io j q ::HR j q ::p)=-1:=fun c=>by
   have:(Io j q).client=((j%4:Nat):Int):=rfl;rw[ahh (x:=Io j q) rfl,ho,this];by_cases hc:c=((j%4:Nat):Int)
   ·rw[if_pos hc]
   ·rw[if_neg hc,if_neg hc]
  show(match Rt p (HR j q)with|0=>dI (HR j q ::p) (Io j q ::dE (j+1) l)|n=>n)=0;rw[b1];show(match Rt (HR j q ::p) (Io j q)with|0=>dI (Io j q ::HR j q ::p) (dE (j+1) l)|n=>n)=0;rw[b2];exact WM l (j+1) _ hp' fun x hx=>h x (by simp[hx])
theorem Ru{l:List Sq}(h:∀q∈l,OkQ q):dI [] (dE 0 l)=0:=WM l 0 [] (fun _=>rfl) h
theorem Rv(c:aX):w8 c.fZ c.name=some c:=by cases c<;>rfl
theorem aat{i:Nat}:∀(l:List Sq) (j:Nat),(∀q∈l,q.c.fZ=i∧q.a.length=q.c.ar)→yv i (ky j l)=0
 | [],_,_=>rfl
 |q ::l,j,h=>by obtain⟨h1,h2⟩:=h q (by simp);subst h1;show(match w8 q.c.fZ q.c.name with|none=>(6:Int)|some c=>if q.a.length=c.ar then yv q.c.fZ (ky (j+1) l)else 1)=0;rw[Rv];simp only;rw[if_pos h2];exact aat l (j+1) fun x hx=>h x (by simp[hx])
theorem BP(l:List Sq):dm 0 (dE 0 l)=ky 0 l:=aas l 0
theorem WN{i:Nat}{l:List Sq}(h:∀q∈l,OkQ q)(h2:∀q∈l,q.c.fZ=i∧q.a.length=q.c.ar):w9 i (dE 0 l)=0:=by unfold w9;rw[if_pos (Ru h),BP];exact aat l 0 h2
theorem FQ(j k:Nat)(p q:Sq):before (opQ j p) (opQ k q)=decide (j<k):=by unfold before;rw[decide_eq_decide];simp only[opQ];omega
theorem bits(j q:Nat):(2^j-1).testBit q=decide (q<j):=Nat.testBit_two_pow_sub_one ..
theorem at6{l:List Sq}{j k:Nat}(hj:j≤l.length)(hk:k<l.length):PG (ky 0 l) k (2^j-1)=decide (k=j):=by
 unfold PG;rw[bits,BO,Nf hk];rw[Bool.eq_iff_iff,kW,Bool.not_eq_true',decide_eq_false_iff_not,xM,decide_eq_true_eq];constructor
 ·rintro⟨h1,h2⟩;rcases HS j k with ZT|ZT
  ·have fu:j<l.length:=by omega
   have:=h2 j (List.mem_range.2 fu);rw[Nf fu,FQ,FQ,bits]at this;have e:(j==k)=false:=by simp;omega
   rw[e]at this;have h0:(0:Int)≤(opQ j l[j]).e:=by show(0:Int)≤((2*j+1:Nat):Int);omega
   simp[h0,ZT]at this
  ·omega
 ·rintro rfl;refine⟨by omega,fun q hq=>?_⟩;have hq:=List.mem_range.1 hq;rw[Nf hq,FQ,FQ,bits];by_cases h:q=k
  ·subst h;simp
  ·have e:(q==k)=false:=by simpa using h
   rw[e];by_cases h2:q<k
   ·have:¬k<q:=by omega
    simp[h2,this]
   ·simp[h2]
theorem alR{l:List Sq}{j:Nat}:ER (ky 0 l) (2^j-1)=decide (l.length≤j):=by
 unfold ER;rw[BO,Bool.eq_iff_iff,xM,decide_eq_true_eq];constructor
 ·intro h;rcases HS j l.length with hj|hj
  ·have:=h j (List.mem_range.2 hj);rw[Nf hj,bits]at this;have h0:(0:Int)≤(opQ j l[j]).e:=by show(0:Int)≤((2*j+1:Nat):Int);omega
   simp[h0]at this
  ·exact hj
 ·intro h q hq;have hq:=List.mem_range.1 hq;rw[Nf hq,bits];have:q<j:=by omega
  simp[this]
theorem aau{α:Type}(f:Nat→Option α)(j:Nat):∀n,(∀k,k<n→k≠j→f k=none)→(List.range n).filterMap f=if j<n then(f j).toList else []
 |0,_=>by simp
 |n+1,h=>by
  rw[List.range_succ,List.filterMap_append,aau f j n fun k hk=>h k (by omega)];by_cases e:n=j
  ·subst e;rw[if_neg (by omega),if_pos (by omega)];cases hf:f n<;>simp[hf]
  ·have:=h n (by omega) e;simp only[List.filterMap_cons,this,List.filterMap_nil,List.append_nil];by_cases h2:j<n
   ·rw[if_pos h2,if_pos (by omega)]
   ·rw[if_neg h2,if_neg (by omega)]
theorem alS(j:Nat):2^j-1+2^j=2^(j+1)-1:=by have:=Nat.two_pow_pos j;rw[Nat.pow_succ];omega
variable{X:Kn}{i:Nat}
theorem aqY{l:List Sq}{j:Nat}(hj:j≤l.length)(s:St):(ba X i (ky 0 l)).steps (2^j-1,s)=if j<l.length then(((ba X i (ky 0 l)).take j s).map fun t=>(j,(2^(j+1)-1,t))).toList else []:=by
 unfold Sys.steps;rw[aau _ j]
 ·show(if j<(ky 0 l).length then _ else _)=_;rw[BO];by_cases h:j<l.length
  ·rw[if_pos h,if_pos h];unfold Sys.step;have:(ba X i (ky 0 l)).FP j (2^j-1)=true:=by show PG (ky 0 l) j (2^j-1)=true;rw[at6 hj h];simp
   rw[if_pos this];simp only[alS]
  ·rw[if_neg h,if_neg h]
 ·intro k hk cp;have hk:k<(ky 0 l).length:=hk;rw[BO]at hk;unfold Sys.step;have:(ba X i (ky 0 l)).FP k (2^j-1)=false:=by show PG (ky 0 l) k (2^j-1)=false;rw[at6 hj hk];simpa using cp
  rw[this];rfl
structure Chn(X:Kn)(i:Nat)(l:List Sq)(st:Nat→St)(m:Nat):Prop where
 le:m≤l.length
 go:∀j,j<m→(ba X i (ky 0 l)).take j (st j)=some (st (j+1))
 ends:m=l.length∨(ba X i (ky 0 l)).take m (st m)=none
theorem Chn.steps{l:List Sq}{st:Nat→St}{m:Nat}(H:Chn X i l st m){j:Nat}(hj:j≤m):(ba X i (ky 0 l)).steps (2^j-1,st j)=if j<m then [(j,(2^(j+1)-1,st (j+1)))]else []:=by
 have:=H.le;rw[aqY (by omega)];by_cases h:j<m
 ·rw[if_pos h,if_pos (by omega),H.go j h];rfl
 ·rw[if_neg h];have:j=m:=by omega
  subst this;rcases H.ends with e|e
  ·rw[if_neg (by omega)]
  ·rw[e];split<;>rfl
def cfS(st:Nat→St)(m:Nat):List (Cf St):=(List.range (m+1)).map fun j=>(2^j-1,st j)
theorem Chn.closed{l:List Sq}{st:Nat→St}{m:Nat}(H:Chn X i l st m):∀c∈cfS st m,∀x∈(ba X i (ky 0 l)).steps c,x.2∈cfS st m:=by
 intro c hc x hx;obtain⟨j,hj,rfl⟩:=M4.1 hc;have hj:=List.mem_range.1 hj;rw[H.steps (by omega)]at hx;split at hx
 ·simp only[List.mem_singleton]at hx;subst hx;exact M4.2 ⟨j+1,List.mem_range.2 (by omega),rfl⟩
 ·simp at hx
section
variable{σ:Type}
theorem ahj[DecidableEq σ]:∀{l m:List σ},l.Nodup→(∀x∈l,x∈m)→l.length≤m.length
 | [],_,_,_=>Nat.zero_le _
 |a ::l,m,hn,h=>by
  rw[List.nodup_cons]at hn;have ha:=h a (by simp);have:=ahj (l:=l) (m:=m.erase a) hn.2 fun x hx=>by
   have:x≠a:=by rintro rfl;exact hn.1 hx
   exact(List.mem_erase_of_ne this).2 (h x (by simp[hx]))
  rw[List.length_erase_of_mem ha]at this;have:=List.length_pos_of_mem ha;rw[HW];omega
variable[DecidableEq σ]
theorem WO{A:List (Cf σ)}(hA:A.length≤1024):∀{r l:List (Cf σ)},l.Nodup→(∀c∈l,c∈A)→(∀c∈r,c∈A)→∃l',gG l r=some l'
 | [],l,_,_,_=>⟨l,rfl⟩
 |c ::r,l,hn,hl,hr=>by have h1:=J6 hn c;have h2:∀x∈fH l c,x∈A:=aap hl (hr c (by simp));have h3:=ahj h1 h2;show ∃l',(if (fH l c).length>1024 then none else gG (fH l c) r)=some l';rw[if_neg (by omega)];exact WO hA h1 h2 (fun x hx=>hr x (by simp[hx]))
theorem alT{S:Sys σ}{A:List (Cf σ)}(hA:A.length≤1024)(hc:∀c∈A,∀x∈S.steps c,x.2∈A):∀(f k:Nat) (l:List (Cf σ)),l.Nodup→(∀c∈l,c∈A)→∃L,WL S f k l=some L∧∃t,L=l++t
 |0,_,l,_,_=>⟨l,rfl,[],by simp⟩
 |f+1,k,l,hn,hl=>by
  unfold WL;cases hk:l[k]? with
  |none=>exact⟨l,rfl,[],by simp⟩
  |some c=>
   have hs:∀y∈(S.steps c).map (·.2),y∈A:=by intro y hy;obtain⟨x,hx,rfl⟩:=M4.1 hy;exact hc c (hl c (List.mem_of_getElem? hk)) x hx
   obtain⟨l',Rx⟩:=WO hA hn hl hs;simp only[Rx];obtain⟨⟨t,e⟩,_,h3,_,h5⟩:=qC Rx;obtain⟨L,h6,u,e2⟩:=alT hA hc f (k+1) l' (h3 hn) fun x hx=>by
    rcases h5 x hx with h|h
    ·exact hl x h
    ·exact hs x h
   exact⟨L,h6,t++u,by rw[e2,e,List.append_assoc]⟩
end
theorem Chn.WL{l:List Sq}{st:Nat→St}{m:Nat}(H:Chn X i l st m)(hl:l.length≤16):∃L,WL (ba X i (ky 0 l)) 1025 0 [(0,st 0)]=some L∧0<L.length:=by
 have:=H.le;obtain⟨L,h,t,e⟩:=alT (A:=cfS st m) (by unfold cfS;rw[List.length_map,List.length_range];omega) H.closed 1025 0 [(0,st 0)] (by simp) (by intro c hc;simp only[List.mem_singleton]at hc;subst hc;exact M4.2 ⟨0,List.mem_range.2 (by omega),rfl⟩)
 exact⟨L,h,by rw[e];simp⟩
theorem Chn.path{l:List Sq}{st:Nat→St}(H:Chn X i l st l.length):∀(d j:Nat),j+d=l.length→Path (ba X i (ky 0 l)) (2^j-1,st j) (List.range' j d)
 |0,j,e=>by refine .now ?_;show ER (ky 0 l) (2^j-1)=true;rw[alR];simp;omega
 |d+1,j,e=>by have h1:=H.steps (j:=j) (by omega);rw[if_pos (by omega)]at h1;refine .step (a:=[]) (b:=[]) ?_ h1 (by simp) (H.path d (j+1) (by omega));show ER (ky 0 l) (2^j-1)=false;rw[alR];simp;omega
theorem Chn.aBB{l:List Sq}{st:Nat→St}(H:Chn X i l st l.length):Path (ba X i (ky 0 l)) (0,st 0) (List.range l.length):=by rw[List.range_eq_range'];exact H.path l.length 0 (by omega)
theorem Chn.aav{l:List Sq}{st:Nat→St}{m:Nat}(H:Chn X i l st m)(hm:m<l.length):¬Good (ba X i (ky 0 l)) (0,st 0):=by
 have key:∀c,Good (ba X i (ky 0 l)) c→c∈cfS st m→False:=by
  intro c g
  induction g with
  | @now c h=>intro hc;obtain⟨j,hj,rfl⟩:=M4.1 hc;have hj:=List.mem_range.1 hj;have h:ER (ky 0 l) (2^j-1)=true:=h;rw[alR]at h;simp at h;omega
  | @step c c' k h g ih=>exact fun hc=>ih (H.closed c hc _ h)
 intro g;exact key _ g (M4.2 ⟨0,List.mem_range.2 (by omega),rfl⟩)
theorem ad1{l:List Sq}{j:Nat}(hj:j<l.length)(hc:l[j].c.fZ=i)(s:St):(ba X i (ky 0 l)).take j s=X.take l[j].c (opQ j l[j]) s:=by
 show X.take (cm i ((ky 0 l).getD j default)) ((ky 0 l).getD j default) s=_;rw[Nf hj];have:cm i (opQ j l[j])=l[j].c:=by unfold cm;show(w8 i l[j].c.name).getD default=_;rw[←hc,Rv];rfl
 rw[this]
theorem alU(X:Kn)(q:Sq)(j:Nat)(s:St):X.take q.c (opQ j q) s=if X.Rn q.c s q.a≠0∨X.Rm q.c s q.a=false then none
 else if X.wo q.c s q.a q.r≠0∨X.wk q.c s q.a q.r=false then none
 else if X.BN q.c s q.a q.r≠0 then none
 else some (X.Ae q.c s q.a q.r):=by
 unfold Kn.take;have:0≤(opQ j q).e:=by show(0:Int)≤((2*j+1:Nat):Int);omega
 simp only[this,true_and];rfl
end Ln
namespace Ln
open Go.Sx Go
abbrev w64(n:Int):Int:=bG .i64 n
theorem ayO(n:Int):w64 (n+1)≠n:=by
 unfold w64 bG;simp only[full,half,KA];show(bif decide ((n+1)%18446744073709551616<9223372036854775808)then(n+1)%18446744073709551616 else(n+1)%18446744073709551616-18446744073709551616)≠n;by_cases h:(n+1)%18446744073709551616<9223372036854775808
 ·rw[decide_eq_true h,cond_true];omega
 ·rw[decide_eq_false h,cond_false];omega
def yu:U:=⟨0,0⟩
def iP:aX→St→Bool
 |.put,s=>decide (s.kids.length<3)
 |.get,s=>decide (0<s.kids.length)
 |.inc,s=>decide (s.n<99)
 |_,_=>true
def fq:aX→St→List U→U
 |.get,s,_=>s.kids.headD yu
 |.inc,s,_=>⟨0,w64 (s.n+1)⟩
 |.readC,s,_=>⟨0,s.n⟩
 |.readR,s,_=>⟨0,s.n⟩
 |.add,s,a=>⟨0,w64 (s.n+(a.headD yu).n)⟩
 |_,_,_=>yu
def fG:aX→St→List U→St
 |.put,s,a=>⟨2,0,s.kids++a⟩
 |.get,s,_=>⟨2,0,s.kids.tail⟩
 |.inc,s,_=>⟨0,w64 (s.n+1),[]⟩
 |.add,s,a=>⟨0,w64 (s.n+(a.headD yu).n),[]⟩
 |.write,_,a=>⟨0,(a.headD yu).n,[]⟩
 |_,s,_=>s
def zG(i:Nat)(s:St):Prop:=if i=0 then s.k=2∧s.n=0∧s.kids.length≤3∧∀u∈s.kids,u.k=0 else s.k=0∧s.kids=[]
def CQ(c:aX)(a:List U):Prop:=a.length=c.ar∧∀u∈a,u.k=0
theorem zG.st{i:Nat}{s:St}(h:zG i s):kx i s:=by
 unfold zG at h;unfold kx Aj;split at h
 ·subst ‹i=0›;exact h.2.2.1
 ·rw[h.2];exact Nat.zero_le _
theorem zG.init(i:Nat):zG i (aJ i):=by
 unfold zG aJ;split
 ·rename_i h;subst h;simp
 ·split
  ·exact absurd rfl ‹_›
  ·simp
theorem CQ.one{c:aX}{a:List U}(h:CQ c a)(hc:c.ar=1):∃n,a=[⟨0,n⟩]:=by
 obtain⟨h1,h2⟩:=h;rw[hc]at h1
 match a,h1,h2 with
 | [⟨k,n⟩],_,h2=>have:=h2 ⟨k,n⟩ (by simp);simp only at this;subst this;exact⟨n,rfl⟩
theorem CQ.none{c:aX}{a:List U}(h:CQ c a)(hc:c.ar=0):a=[]:=zqr (h.1.trans hc)
theorem zG.next{c:aX}{s:St}{a:List U}(hs:zG c.fZ s)(ha:CQ c a)(hc:iP c s=true):zG c.fZ (fG c s a):=by
 obtain⟨k,n,l⟩:=s;cases c<;>simp only[zG,aX.fZ,iP,fG]at *<;>simp at *
 ·obtain⟨m,rfl⟩:=ha.one rfl;obtain⟨_,_,h3,h4⟩:=hs;refine⟨by simp;omega,fun u hu=>?_⟩;rcases hu with hu|hu
  ·exact h4 u hu
  ·simp at hu;rw[hu]
 ·obtain⟨_,_,h3,h4⟩:=hs;exact⟨by omega,fun u hu=>h4 u (List.mem_of_mem_tail hu)⟩
 ·exact hs
 ·exact hs
theorem aeM{c:aX}{s:St}{a:List U}(hs:zG c.fZ s):(fq c s a).k=0:=by
 obtain⟨k,n,l⟩:=s;cases c<;>simp only[fq,yu];cases l with
 |nil=>rfl
 |cons u l=>simp only[zG,aX.fZ]at hs;simp at hs;exact hs.2.2.2.1
structure XF(X:Kn):Prop where
 can:∀c s a,zG c.fZ s→CQ c a→X.Rn c s a=0∧X.Rm c s a=iP c s
 hold:∀c s a r,zG c.fZ s→CQ c a→iP c s=true→r.k=0→X.wo c s a r=0∧X.wk c s a r=decide (r=fq c s a)
 next:∀c s a r,zG c.fZ s→CQ c a→iP c s=true→r.k=0→X.BN c s a r=0∧X.Ae c s a r=fG c s a
def kU:List (aX×List U)→St→List Sq
 | [],_=>[]
 |x ::l,s=>if iP x.1 s=true then⟨x.1,x.2,fq x.1 s x.2⟩ ::kU l (fG x.1 s x.2)else kU l s
def Kq:List (aX×List U)→St→St
 | [],s=>s
 |x ::l,s=>if iP x.1 s=true then Kq l (fG x.1 s x.2)else Kq l s
def mR(q:Sq):aX×List U:=(q.c,q.a)
theorem Tx:∀(l m:List (aX×List U)) (s:St),kU (l++m) s=kU l s++kU m (Kq l s)
 | [],_,_=>rfl
 |x ::l,m,s=>by
  simp only[List.cons_append,kU,Kq];split
  ·rw[Tx l m,List.cons_append]
  ·exact Tx l m s
theorem Tw:∀(l m:List (aX×List U)) (s:St),Kq (l++m) s=Kq m (Kq l s)
 | [],_,_=>rfl
 |x ::l,m,s=>by
  simp only[List.cons_append,Kq];split
  ·exact Tw l m _
  ·exact Tw l m s
theorem Mi:∀(l:List (aX×List U)) (s:St),(kU l s).length≤l.length
 | [],_=>gi _
 |x ::l,s=>by
  unfold kU;split
  ·have:=Mi l (fG x.1 s x.2);simp only[HW];omega
  ·have:=Mi l s;simp only[HW];omega
inductive Gd:List Sq→St→Prop
 |nil (s:St):Gd [] s
 |cons {q:Sq} {l:List Sq} {s:St} (hc:iP q.c s=true) (hr:q.r=fq q.c s q.a) (g:Gd l (fG q.c s q.a)):Gd (q ::l) s
theorem YY:∀(l:List (aX×List U)) (s:St),Gd (kU l s) s
 | [],s=>.nil s
 |x ::l,s=>by
  unfold kU;split
  ·exact .cons ‹_› rfl (YY l _)
  ·exact YY l s
theorem Gd.run{l:List Sq}{s:St}(h:Gd l s):kU (l.map mR) s=l:=by
 induction h with
 |nil s=>rfl
 | @cons q l s hc hr g ih=>obtain⟨c,a,r⟩:=q;simp only at hr hc;subst hr;simp only[zqx,kU,mR];rw[if_pos hc];have ih:kU (l.map mR) (fG c s a)=l:=ih;rw[ih]
def Q8:List Sq→St→Nat→St
 |_,s,0=>s
 | [],s,_+1=>s
 |q ::l,s,j+1=>Q8 l (fG q.c s q.a) j
structure UH(i:Nat)(l:List Sq)(s:St):Prop where
 g:Gd l s
 s:zG i s
 l:∀q∈l,q.c.fZ=i∧CQ q.c q.a
theorem YZ{i:Nat}:∀{l:List (aX×List U)} {s:St},(∀x∈l,x.1.fZ=i∧CQ x.1 x.2)→∀q∈kU l s,q.c.fZ=i∧CQ q.c q.a
 | [],_,_,q,hq=>by simp[kU]at hq
 |x ::l,s,h,q,hq=>by
  unfold kU at hq;have ht:=fun y hy=>h y (List.mem_cons_of_mem x hy);split at hq
  ·rcases CR.1 hq with rfl|hq
   ·exact h x (by simp)
   ·exact YZ ht q hq
  ·exact YZ ht q hq
theorem aoB{i:Nat}{l:List (aX×List U)}{s:St}(hs:zG i s)(h:∀x∈l,x.1.fZ=i∧CQ x.1 x.2):UH i (kU l s) s:=⟨YY l s,hs,YZ h⟩
theorem UH.at{i:Nat}:∀{l:List Sq} {s:St},UH i l s→∀{j:Nat} (hj:j<l.length),zG i (Q8 l s j)∧iP l[j].c (Q8 l s j)=true∧l[j].r=fq l[j].c (Q8 l s j) l[j].a∧Q8 l s (j+1)=fG l[j].c (Q8 l s j) l[j].a
 | [],_,_,j,hj=>absurd hj (by simp)
 |q ::l,s,⟨g,hs,hl⟩,0,_=>by
  cases g with
  |cons hc hr g=>refine⟨hs,hc,hr,?_⟩;show Q8 l _ 0=_;cases l<;>rfl
 |q ::l,s,⟨g,hs,hl⟩,j+1,hj=>by
  cases g with
  |cons hc hr g=>
   obtain⟨h1,h2⟩:=hl q (by simp);have hs':zG i (fG q.c s q.a):=by subst h1;exact zG.next hs h2 hc
   exact UH.at (l:=l) ⟨g,hs',fun x hx=>hl x (by simp[hx])⟩ (by simpa using hj)
theorem UH.okA{i:Nat}{l:List Sq}{s:St}(h:UH i l s){j:Nat}(hj:j<l.length):l[j].c.fZ=i∧CQ l[j].c l[j].a:=h.l _ (UG hj)
theorem abf(l:List Sq)(s:St):Q8 l s 0=s:=by cases l<;>rfl
theorem aoC{u:U}(h:u.k=0):sC u=true:=by unfold sC;simp[h]
theorem PK(c:aX):c.ar≤1:=by cases c<;>decide
theorem UH.okQ{i:Nat}{l:List Sq}{s:St}(h:UH i l s):∀q∈l,OkQ q:=by intro q hq;obtain⟨j,hj,rfl⟩:=List.getElem_of_mem hq;obtain⟨h1,h2,h3,_⟩:=h.at hj;obtain⟨h4,h5⟩:=h.okA hj;refine⟨by have:=PK l[j].c;have:=h5.1;omega,xM.2 fun u hu=>aoC (h5.2 u hu),aoC ?_⟩;rw[h3];exact aeM (by rw[h4];exact h1)
variable{X:Kn}(F:XF X)
include F
theorem aeN{q:Sq}{s:St}(hs:zG q.c.fZ s)(ha:CQ q.c q.a)(hc:iP q.c s=true)(hr:q.r.k=0)(j:Nat):X.take q.c (opQ j q) s=if q.r=fq q.c s q.a then some (fG q.c s q.a)else none:=by
 rw[alU];obtain⟨h1,h2⟩:=F.can q.c s q.a hs ha;obtain⟨h3,h4⟩:=F.hold q.c s q.a q.r hs ha hc hr;obtain⟨h5,h6⟩:=F.next q.c s q.a q.r hs ha hc hr;rw[h1,h2,h3,h4,h5,h6,hc];by_cases h:q.r=fq q.c s q.a
 ·simp[h]
 ·simp[h]
theorem UH.chn{i:Nat}{l:List Sq}{s:St}(h:UH i l s):Chn X i l (Q8 l s) l.length:=by refine⟨gi _,fun j hj=>?_,.inl rfl⟩;obtain⟨h1,h2,h3,h4⟩:=h.at hj;obtain⟨h5,h6⟩:=h.okA hj;rw[ad1 hj h5,aeN F (by rw[h5];exact h1) h6 h2 (by rw[h3];exact aeM (by rw[h5];exact h1)),if_pos h3,h4]
def LW(q:Sq):Sq:=⟨q.c,q.a,⟨0,w64 (q.r.n+1)⟩⟩
omit F in
theorem QZ:∀(l m:List Sq) (s:St) (j:Nat),j≤l.length→Q8 (l++m) s j=Q8 l s j
 |l,m,s,0,_=>by rw[abf,abf]
 | [],m,s,j+1,h=>absurd h (by simp)
 |q ::l,m,s,j+1,h=>QZ l m (fG q.c s q.a) j (by simpa using h)
theorem UH.asg{i:Nat}{l:List Sq}{q:Sq}{s:St}(h:UH i (l ++ [q]) s):Chn X i (l ++ [LW q]) (Q8 l s) l.length:=by
 have hlen:(l ++ [q]).length=l.length+1:=by simp
 refine⟨by simp,fun j hj=>?_,.inr ?_⟩
 ·have hj':j<(l ++ [q]).length:=by omega
  have hj2:j<(l ++ [LW q]).length:=by simp;omega
  obtain⟨h1,h2,h3,h4⟩:=h.at hj';obtain⟨h5,h6⟩:=h.okA hj';have e1:(l ++ [q])[j]=l[j]:=List.getElem_append_left hj;have e2:(l ++ [LW q])[j]=l[j]:=List.getElem_append_left hj;rw[e1]at h2 h3 h4 h5 h6;rw[QZ _ _ _ _ (by omega)]at h1 h2 h3 h4;rw[QZ _ _ _ _ (by omega)]at h4;rw[ad1 hj2 (by rw[e2];exact h5),e2,aeN F (by rw[h5];exact h1) h6 h2 (by rw[h3];exact aeM (by rw[h5];exact h1)),if_pos h3,h4]
 ·have hj':l.length<(l ++ [q]).length:=by omega
  have hj2:l.length<(l ++ [LW q]).length:=by simp
  obtain⟨h1,h2,h3,h4⟩:=h.at hj';obtain⟨h5,h6⟩:=h.okA hj';have e1:(l ++ [q])[l.length]=q:=by simp
  have e2:(l ++ [LW q])[l.length]=LW q:=by simp
  rw[e1]at h2 h3 h4 h5 h6;rw[QZ _ _ _ _ (gi _)]at h1 h2 h3 h4;rw[ad1 hj2 (by rw[e2];exact h5),e2,aeN F (q:=LW q) (by show zG q.c.fZ _;rw[h5];exact h1) h6 h2 rfl,if_neg];intro e;have e:(⟨0,w64 (q.r.n+1)⟩:U)=fq q.c (Q8 l s l.length) q.a:=e;rw[←h3]at e;exact ayO q.r.n (congrArg U.n e)
omit F in
theorem UH.ayq{i:Nat}{l:List Sq}{q:Sq}{s:St}(h:UH i (l ++ [q]) s):(∀x∈l ++ [LW q],OkQ x)∧∀x∈l ++ [LW q],x.c.fZ=i∧x.a.length=x.c.ar:=by
 have h1:=h.okQ;have h2:=h.l;constructor
 ·intro x hx;rcases List.mem_append.1 hx with hx|hx
  ·exact h1 x (by simp[hx])
  ·simp at hx;subst hx;have:=h1 q (by simp);exact⟨this.len,this.args,aoC rfl⟩
 ·intro x hx;rcases List.mem_append.1 hx with hx|hx
  ·have:=h2 x (by simp[hx]);exact⟨this.1,this.2.1⟩
  ·simp at hx;subst hx;have:=h2 q (by simp);exact⟨this.1,this.2.1⟩
end Ln
namespace Ln
open Go.Sx Go
structure UY(C:bH):Prop where
 pH:Fn C jw kz
 LZ:Fn C rQ Kd
 GD:Fn C jU Dd
 Je:Fn C pK GF
 OT:Fn C vl NF
 Jf:Fn C jA GG
 xh:Fn C dy rW
 xi:Fn C aN rX
 zR:Fn C bV wh
 wX:Fn C aM qY
 Ay:Fn C eQ wD
 Az:FnR C fg wE
 L1:Fn C gE Ke
 yO:Fn C iC tW
 GH:Fn C iA De
 D9:Fn C lj Bj
 B6:Fn C jV yP
end Ln
namespace Go.Sx
open Go
def MP(z:Nat)(c:AV)(l:List AV)(len:Nat)(h:T ai)(nx:Key)(ob:Option Key):Prop:=
 (c=.nils∧l=[]∧len=0∧ob=none)∨∃b:Key,ob=some b∧c=.slice b 0 len z∧ag b h=some (.cells l .part)∧b.toNat<nx.toNat∧l.length=len*z
section
variable{z:Nat}{c:AV}{l new:List AV}{len m:Nat}{h h':T ai}{nx nx':Key}{ob:Option Key}
theorem MP.nil(z:Nat)(h:T ai)(nx:Key):MP z .nils [] 0 h nx none:=.inl ⟨rfl,rfl,rfl,rfl⟩
theorem MP.lt(g:MP z c l len h nx ob):∀b,ob=some b→b.toNat<nx.toNat:=by
 intro b hb;rcases g with⟨_,_,_,e⟩|⟨b',e,_,_,h4,_⟩
 ·rw[hb]at e;cases e
 ·rw[hb]at e;cases e;exact h4
theorem MP.keep(g:MP z c l len h nx ob)(hn:nx.toNat≤nx'.toNat)(hk:∀b,ob=some b→ag b h'=ag b h):MP z c l len h' nx' ob:=by
 rcases g with g|⟨b,e,h1,h2,h3,h4⟩
 ·exact .inl g
 ·exact .inr ⟨b,e,h1,by rw[hk b e];exact h2,by omega,h4⟩
theorem MP.gr(g:MP z c l len h nx ob):Gr z c l len h nx ob:=by
 rcases g with g|⟨b,e,h1,h2,h3,h4⟩
 ·exact .inl g
 ·exact .inr (.inl ⟨b,.part,e,h1,h2,h3,h4,.inl rfl⟩)
theorem MP.cell(g:MP z c l len h nx ob):c.aQ=true∧c.cells=[c]:=by rcases g with⟨rfl,_⟩|⟨b,_,rfl,_⟩<;>exact⟨rfl,rfl⟩
theorem MP.add(g:MP z c l len h nx ob)(hw:FR z=true)(hm:0<m)(hn:new.length=m*z)(hl:len+m≤1048576)(hc:new.all AV.aQ=true) :
  ∃h',appendTo z c new m h nx=.val (.slice nx 0 (len+m) z) h' nx.succ∧MP z (.slice nx 0 (len+m) z) (l++new) (len+m) h' nx.succ (some nx)∧CZ h nx ob h' nx.succ (some nx):=by
 have s1:=kTSu nx;have Nq:m≠0:=by omega
 rcases g with⟨rfl,rfl,rfl,rfl⟩|⟨b,rfl,rfl,h2,h3,h4⟩
 ·have NR:m≤1048576:=by omega
  exact⟨au nx (some (.cells new .part)) h,by simp[Nq,NR],.inr ⟨nx,rfl,by simp,by simp,by omega,by simpa using hn⟩,by omega,fun b hb _=>aw hb,.inr ⟨nx,rfl,gi _⟩⟩
 ·refine⟨au nx (some (.cells (l++new) .part)) (au b none h),?_,.inr ⟨nx,rfl,rfl,by simp,by omega,by rw[xa,h4,hn,Nat.add_mul]⟩,by omega,fun x hx hk=>?_,.inr ⟨nx,rfl,gi _⟩⟩
  ·simp[hl,hc,h2,h4,Nq,hw]
  ·rw[aw hx,aD];rintro rfl;exact hk rfl
theorem MP.put(g:MP z c l len h nx ob){b:Key}(hb:ob=some b){l':List AV}(hl:l'.length=l.length):MP z c l' len (au b (some (.cells l' .part)) h) nx ob:=by
 rcases g with⟨_,_,_,e⟩|⟨b',e,h1,h2,h3,h4⟩
 ·rw[hb]at e;cases e
 ·rw[hb]at e;cases e;exact .inr ⟨b,hb,h1,by simp,h3,by rw[hl];exact h4⟩
end
theorem CZ.C2{h h':T ai}{nx nx' b:Key}(e:CZ h nx (some b) h' nx' (some b))(v:Option ai):CZ h nx (some b) (au b v h') nx' (some b):=⟨e.n,fun x hx hn=>by rw[aD _ _ _ _ (fun q=>hn (by rw[q]))];exact e.g x hx hn,.inl rfl⟩
theorem lat{α:Type}{l:List α}{k:Nat}{x:α}(h:l[k]?=some x):∀hh,l[k]'hh=x:=fun hh=>by have q:=zC hh;rw[h]at q;exact(Option.some.inj q).symm
end Go.Sx
namespace Ln
open Go.Sx Go
def nmC:aX→Nat
 |.add=>121|_=>120
def xR(nm:Nat)(v:List AV):List AV:=.str 1 nm ::v
def PI(c:aX):List U→List AV
 | []=>[]
 |u ::_=>xR (nmC c) (eU u)
def Bg(c:aX)(s:St)(a:List U):List AV:=xR 115 (eS s)++PI c a
def Np(c:aX)(s:St)(a:List U)(r:U):List AV:=Bg c s a++xR 114 (eU r)
def BQ(c:aX)(s:St)(a:List U):List AV:=xR 115 (eS s)++xR 108 (eU yu)++PI c a
def zN:AV:=.agg [I 0,I 0]
def ard:Nat→Nat×Nat
 |0=>(4,1735289202)|1=>(4,1819043171)|_=>(6,133532402673005)
abbrev U2(i:Nat):AV:=.str (ard i).1 (ard i).2
structure zF where
 sys:Nat→List AV
 cmd:aX→List AV
 WH:aX→List AV
 par:aX→List AV
 act:aX→List AV
def Dc(c:aX)(l:List AV)(z:Nat):AV:=if c.ar=0 then .nils else .sl l 1 z .any
def zF.op(Y:zF)(c:aX):List AV:=[.str c.name.1 c.name.2,Dc c (Y.par c) 4,.sl (Y.act c) 1 14 .any]
structure ZS(n:Nat)(l:List AV):Prop where
 len:l.length=n
 zD:∀y∈l,FJ y
 cell:∀y∈l,y.aQ=true
 lits:AV.dA l=true
theorem jb:∀{l:List AV},AV.dA l=true↔∀y∈l,AV.lits y=true
 | []=>by simp[AV.dA]
 |a ::l=>by simp[AV.dA,jb (l:=l)]
theorem ZS.all{n:Nat}{l:List AV}(h:ZS n l):l.all AV.aQ=true:=xM.2 h.cell
theorem ZS.cut{n:Nat}{l:List AV}(h:ZS n l)(o k:Nat)(hk:o+k≤n):ZS k ((l.drop o).take k):=by have hm:∀y∈(l.drop o).take k,y∈l:=fun y hy=>List.mem_of_mem_drop (List.mem_of_mem_take hy);refine⟨?_,fun y hy=>h.zD y (hm y hy),fun y hy=>h.cell y (hm y hy),jb.2 fun y hy=>jb.1 h.lits y (hm y hy)⟩;rw[zqy,List.length_drop,h.len];omega
def zJ(o:Nat)(l:List AV):AV:=.agg ((l.drop o).take 7)
structure Seq(C:bH)(X:Kn)(Y:zF):Prop where
 f:XF X
 adR:AV.beq X.m X.m=true
 dec:∀i,i<3→ZS 45 (X.dec i)
 sys:∀i,i<3→ZS 45 (Y.sys i)
 cmd:∀c,ZS 23 (Y.cmd c)
 amA:∀c,(Y.cmd c)[1]?=some (Dc c (Y.WH c) 11)
 WH:∀c,c.ar=1→ZS 11 (Y.WH c)∧(Y.WH c)[0]?=some (.str 1 (nmC c))
 par:∀c,c.ar=1→ZS 4 (Y.par c)∧(Y.par c)[0]?=some (.str 1 (nmC c))
 act:∀c,ZS 14 (Y.act c)
 amC:∀i,i<3→∀h nx,C.sum jE [X.m,I 5,U2 i] h nx=some (.tuple [.agg (Y.sys i),.bool true],h,nx)
 aht:∀i,i<3→∀h nx,C.sum bK [X.m,.nils,zJ 29 (X.dec i),dp,zN] h nx=some (.tuple [.agg (eS (aJ i)),I 0],h,nx)
 ahu:∀i,i<3→∀h nx,C.sum bK [X.m,.nils,zJ 29 (Y.sys i),dp,zN] h nx=some (.tuple [.agg (eS (aJ i)),I 0],h,nx)
 aum:∀c v,(X.dec c.fZ)[36]?=some v→∀h nx,C.sum lM [v,.str c.name.1 c.name.2,.fn xE [] []] h nx=some (.tuple [.agg (Y.cmd c),.bool true],h,nx)
 aBP:∀c v,(Y.sys c.fZ)[37]?=some v→∀h nx,C.sum um [v,.str c.name.1 c.name.2,.fn HF [] []] h nx=some (.tuple [.agg (Y.op c),.bool true],h,nx)
 aun:∀c s a,zG c.fZ s→CQ c a→∀h nx,C.sum lv [X.m,.sl (Bg c s a) (1+a.length) 5 .any,zJ 2 (Y.cmd c),dp] h nx=some (.tuple [.bool (iP c s),I 0],h,nx)
 alf:∀c s a,zG c.fZ s→CQ c a→iP c s=true→∀h nx,C.sum lv [X.m,.sl (Np c s a (fq c s a)) (1+a.length+1) 5 .any,zJ 16 (Y.cmd c),dp] h nx=some (.tuple [.bool true,I 0],h,nx)
 atT:∀c s a,zG c.fZ s→CQ c a→iP c s=true→∀h nx,C.sum bK [X.m,.sl (Np c s a (fq c s a)) (1+a.length+1) 5 .any,zJ 9 (Y.cmd c),dp,zN] h nx=some (.tuple [.agg (eS (fG c s a)),I 0],h,nx)
 auo:∀c s a,zG c.fZ s→CQ c a→iP c s=true→∀h nx,C.sum bK [X.m,.sl (BQ c s a) (2+a.length) 5 .any,zJ 0 (Y.act c),dp,zN] h nx=some (.tuple [.agg (eS (fG c s a)),I 0],h,nx)
 aup:∀c s a,zG c.fZ s→CQ c a→iP c s=true→∀h nx,C.sum bK [X.m,.sl (BQ c s a) (2+a.length) 5 .any,zJ 7 (Y.act c),dp,zN] h nx=some (.tuple [.agg (eU (fq c s a)),I 0],h,nx)
theorem Seq.anP{C:bH}{X:Kn}{Y:zF}(Q:Seq C X Y)(c:aX):∃v,(X.dec c.fZ)[36]?=some v∧FJ v:=by have h:=Q.dec c.fZ (by cases c<;>decide);have hl:=h.len;exact⟨_,zC (by omega),h.zD _ (UG _)⟩
theorem Seq.aD6{C:bH}{X:Kn}{Y:zF}(Q:Seq C X Y)(c:aX):∃v,(Y.sys c.fZ)[37]?=some v∧FJ v:=by have h:=Q.sys c.fZ (by cases c<;>decide);have hl:=h.len;exact⟨_,zC (by omega),h.zD _ (UG _)⟩
end Ln
