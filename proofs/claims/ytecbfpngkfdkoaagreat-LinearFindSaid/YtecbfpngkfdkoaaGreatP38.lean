/- A part of the proof. No condition. -/
import Derived.Test.YtecbfpngkfdkoaaGreatP33
import Derived.Test.YtecbfpngkfdkoaaGreatP37
namespace Ln
open Go.Sx Go Go.Proofs Go.RowKit Go.Sort
theorem apf:∀{l m:List (Cf St)},ag eC l=ag eC m→l=m
 | [],[],_=>rfl
 | [],v ::m,h=>by simp[dE,eC]at h
 |u ::l,[],h=>by simp[dE,eC]at h
 |u ::l,v ::m,h=>by
  simp[dE,eC]at h;obtain⟨h1,h2,h3,h4,h5⟩:=h;have:=apf h5;have h6:=MY h4;obtain⟨a,s⟩:=u;obtain⟨b,t⟩:=v;obtain⟨k,n,q⟩:=s;obtain⟨k',n',q'⟩:=t;simp at h1 h2 h3 h6;have h1:a=b:=by omega
  subst h1 h2 h3 h6 this;rfl
theorem as0(l:List U):AV.kf (aL l)=true:=by
 have h:∀l:List U,AV.JO (ag eU l)=true:=fun l=>by
  induction l with
  |nil=>rfl
  |cons a l ih=>rw[dE];simp[eU,AV.JO,AV.kf,I,ih]
 cases l with
 |nil=>rfl
 |cons a l=>simp only[aL,AV.kf];exact h _
theorem aJG(c:Cf St):AV.JO (eC c)=true:=by simp[eC,AV.JO,AV.kf,I,as0]
def cfC(a b:Cf St):Int:=ach (ofC a) (ofC b)
theorem Z9(a b:Cf St):ltOf cfC a b=true↔NJ a b:=by unfold ltOf cfC;rw[decide_eq_true_iff,as2];unfold X3 NJ ofC;simp;constructor<;>intro h<;>omega
theorem Oa(a b:Cf St):ltOf cfC a b=false↔¬NJ a b:=by rw[←Z9];simp
theorem ai7(a b:Cf St)(h1:ltOf cfC a b=false)(h2:ltOf cfC b a=false):a=b:=by
 rw[Oa]at h1 h2;unfold NJ at h1 h2;have e:a.1=b.1:=by omega
 have h3:¬jA a.2 b.2<0:=fun h=>h1 (.inr ⟨e,h⟩);have h4:¬jA b.2 a.2<0:=fun h=>h2 (.inr ⟨e.symm,h⟩);have h5:jA a.2 b.2=0:=by have:=ac4 a.2 b.2;have h6:¬0<jA a.2 b.2:=fun h=>h4 ((CP _ _).2 h);omega
 exact Prod.ext e (vE.1 h5)
theorem as3:SWO (ltOf cfC) where
 irrefl x:=(Oa x x).2 (ai8 x)
 trans x y z h1 h2:=(Z9 x z).2 (aaa ((Z9 x y).1 h1) ((Z9 y z).1 h2))
 ntrans x y z h1 h2:=by
  have a1:=h1;rw[Oa]at h1 h2 ⊢;intro h3;by_cases h4:NJ y x
  ·exact h2 (aaa h4 h3)
  ·have e:=ai7 x y a1 ((Oa y x).2 h4);rw[e]at h3;exact h2 h3
theorem axP(x y:Cf St):(!(ltOf cfC) y x)=decide (x.1<y.1∨x.1=y.1∧jA x.2 y.2≤0):=by rw[Bool.eq_iff_iff,Bool.not_eq_true',Oa,decide_eq_true_eq];unfold NJ;have f:jA y.2 x.2<0↔0<jA x.2 y.2:=CP _ _;rw[f];omega
theorem apg(l:List (Cf St)):(l.mergeSort fun x y=>!(ltOf cfC) y x)=mj l:=by unfold mj;congr 1;funext x y;exact axP x y
theorem aE6:∀w,(isAgg (Tryz.laysS_ren.t 24)).run Tryz.prog w=.ok true w:=fun w=>by kernel_rfl
theorem zE6:∀w,(Go.sizeOf (Tryz.laysS_ren.t 24)).run Tryz.prog w=.ok 5 w:=fun w=>by kernel_rfl
theorem as4{ρ:Nat→Int}{w0:W0}(hL:jQ Tryz.prog .nil w0){us:List (Cf St)}(hu:∀y∈us,y.2.kids.length≤3)(hn:us.Nodup)(hlen:us.length≤1024){b:Key}{H:T ah}{nx:Key}(hb:ae b H=some (.cells (ag eC us) .fix)) :
  MQ Tryz.prog ρ w0 63 [.slice b 0 us.length 5,.fn 64 [] []] H nx (.tuple []) (aw b (some (.cells (ag eC (mj us)) .fix)) H) nx:=by
 obtain⟨fn,c,g1,g2,g3,_⟩:=vX (P:=Tryz.prog) (f:=64) Bp;have key:=akB (P:=Tryz.prog) (ρ:=ρ) (heap0:=.nil) (C:=CL) (fun w0 hL=>aCd w0 hL) Tryz.laysS (k:=5) aE6 zE6 eJ aJG (cf:=cfC) as3 ai7 (g:=64)
  (fun args w=>sE g1 (by rw[g2];rfl) g3 args) (nx0:=bw) few hn (fun x hx y hy=>(UZ DQ (a:=ofC x) (b:=ofC y) (hu x hx) (hu y hy) .nil bw).mono fun o _ _ h=>h.1) (by omega) hL hb (nx:=nx)
 rw[apg]at key;exact key
def YB(f:Nat)(l:List AV)(h:T ah)(r:T ah):Prop:=f=63∧∃(us:List (Cf St)) (b:Key),l=[.slice b 0 us.length 5,.fn 64 [] []]∧ae b h=some (.cells (ag eC us) .fix)∧us.length≤1024∧us.Nodup∧(∀y∈us,y.2.kids.length≤3)∧r=aw b (some (.cells (ag eC (mj us)) .fix)) h
theorem YB.uniq{f:Nat}{l:List AV}{h r r':T ah}(a:YB f l h r)(b:YB f l h r'):r=r':=by obtain⟨_,us,k,e1,e2,_,_,_,rfl⟩:=a;obtain⟨_,vs,k',f1,f2,_,_,_,rfl⟩:=b;rw[e1]at f1;simp only[List.cons.injEq,AV.slice.injEq,and_true,true_and]at f1;obtain⟨rfl,_⟩:=f1;rw[e2]at f2;have:=apf (ah.cells.inj (Option.some.inj f2)).1;subst this;rfl
open Classical in
noncomputable def JY(f:Nat)(l:List AV)(h:T ah)(nx:Key):Option (AV×T ah×Key):=
 if Nat.beq f 63=true then(if H:∃r,YB f l h r then some (.tuple [],H.choose,nx)else none)else CL.sum f l h nx
theorem eF{f:Nat}(hf:Nat.beq f 63=false)(l:List AV)(h:T ah)(nx:Key):JY f l h nx=CL.sum f l h nx:=by unfold JY;rw[hf];simp
noncomputable def CS:bQ:=⟨[],asI,JY,YA,acY⟩
theorem Jc{f:Nat}{p:fe}(h:Fn CL f p)(hf:Nat.beq f 63=false:=by decide):Fn CS f p:=⟨h.get,fun l a b=>(eF hf l a b).trans (h.off l a b),h.mY⟩
theorem aCe{f:Nat}{p:fe}(h:FnR CL f p)(hf:Nat.beq f 63=false:=by decide):FnR CS f p:=⟨h.get,fun l a b=>(eF hf l a b).trans (h.off l a b),h.mY⟩
theorem aJw{ρ:Nat→Int}(w0:W0)(hL:jQ Tryz.prog .nil w0):Ctx Tryz.prog ρ w0 CS:=by
 have X:=aCd (ρ:=ρ) w0 hL;have ne:∀{f:Nat},¬Nat.beq f 63=true→Nat.beq f 63=false:=fun h=>by simpa using h
 refine⟨?_,?_,X.orc,X.fns,X.mix⟩
 ·intro f l H nx a H' nx' hs0;have hs:JY f l H nx=some (a,H',nx'):=hs0;by_cases hf:Nat.beq f 63=true
  ·unfold JY at hs;rw[if_pos hf]at hs;split at hs
   ·rename_i h;cases hs;obtain⟨rfl,us,b,rfl,e2,e3,e4,e5,e6⟩:=h.choose_spec;rw[e6];exact as4 hL e5 e4 e3 e2
   ·cases hs
  ·rw[eF (ne hf)]at hs;exact X.sum f l H nx a H' nx' hs
 ·intro f l H nx r hs0;have hs:JY f l H nx=some r:=hs0;by_cases hf:Nat.beq f 63=true
  ·have:=rZ hf;subst this;obtain⟨fn,c,f1,f2,f3,_⟩:=vX (lv (n:=63) (by decide));exact⟨fn,f1,by rw[f2];rfl,f3⟩
  ·rw[eF (ne hf)]at hs;exact X.has f l H nx r hs
theorem aJx:Std CS K0:=by
 have S:=DQ;cases S;constructor
 case orc=>rfl
 case raw=>exact fun _=>rfl
 case ok=>exact atZ
 case s_InitP=>exact fun i hi h nx=>(eF (by decide) _ h nx).trans (DQ.s_InitP i hi h nx)
 case s_CanP=>exact fun c s l hs ha h nx=>(eF (by decide) _ h nx).trans (DQ.s_CanP c s l hs ha h nx)
 case s_HoldsP=>exact fun c s l r hs ha h nx=>(eF (by decide) _ h nx).trans (DQ.s_HoldsP c s l r hs ha h nx)
 case s_NextP=>exact fun c s l r hs ha h nx=>(eF (by decide) _ h nx).trans (DQ.s_NextP c s l r hs ha h nx)
 case s_InitR=>exact fun i hi h nx=>(eF (by decide) _ h nx).trans (DQ.s_InitR i hi h nx)
 case s_CanR=>exact fun c s l hs ha h nx=>(eF (by decide) _ h nx).trans (DQ.s_CanR c s l hs ha h nx)
 case s_HoldsR=>exact fun c s l r hs ha h nx=>(eF (by decide) _ h nx).trans (DQ.s_HoldsR c s l r hs ha h nx)
 case s_NextR=>exact fun c s l r hs ha h nx=>(eF (by decide) _ h nx).trans (DQ.s_NextR c s l r hs ha h nx)
 case s_parser_Decl=>exact fun i hi h nx=>(eF (by decide) _ h nx).trans (DQ.s_parser_Decl i hi h nx)
 case s_ref09_Decl=>exact fun i hi h nx=>(eF (by decide) _ h nx).trans (DQ.s_ref09_Decl i hi h nx)
 case s_values_Valid=>exact fun u h nx=>(eF (by decide) _ h nx).trans (DQ.s_values_Valid u h nx)
 case s_values_Compare=>exact fun s t hs ht h nx=>(eF (by decide) _ h nx).trans (DQ.s_values_Compare s t hs ht h nx)
 case s_ref10_Valid=>exact fun u h nx=>(eF (by decide) _ h nx).trans (DQ.s_ref10_Valid u h nx)
 case s_ref10_Compare=>exact fun s t hs ht h nx=>(eF (by decide) _ h nx).trans (DQ.s_ref10_Compare s t hs ht h nx)
 case s_Equal=>exact fun s t hs ht h nx=>(eF (by decide) _ h nx).trans (DQ.s_Equal s t hs ht h nx)
 case s_Clone=>exact fun s hs h nx=>(eF (by decide) _ h nx).trans (DQ.s_Clone s hs h nx)
 case s_Module=>exact fun h nx=>(eF (by decide) _ h nx).trans (DQ.s_Module h nx)
 case s_lives=>exact fun h nx=>(eF (by decide) _ h nx).trans (DQ.s_lives h nx)
 all_goals first|exact Jc (by assumption)|exact aCe (by assumption)
theorem aB6:OU CS where
 NO:=Jc (mO Xn)
 UR:=Jc (mO acB)
 KH:=Jc (mO Vb)
 nZ:=Jc (mO N2)
 UT:=Jc (mO acC)
 FL:=Jc (mO PN)
 KA:=Jc (mO Vc)
 wk:=Jc (mO HL)
 xT:=Jc (mO I2)
 tN:=Jc (mO Fz)
 wo:=Jc (mO HM)
 wj:=Jc (mO HN)
 y0:=Jc (mO J4)
 zl:=Jc (mO J5)
 AB:=Jc (mO Ml)
 yZ:=Jc (mO J6)
 abD s hs h nx:=by show JY dX [.agg (eS s)] h nx=_;rw[eF (f:=dX) (by decide)];exact bK Q7 ez (⟨s,hs⟩:QK) h nx
 anc us b h nx hu hn hl hb:=by have H:∃r,YB 63 [.slice b 0 us.length 5,.fn 64 [] []] h r:=⟨_,rfl,us,b,rfl,hb,hl,hn,hu,rfl⟩;show JY 63 [.slice b 0 us.length 5,.fn 64 [] []] h nx=_;unfold JY;rw[if_pos (show Nat.beq 63 63=true from rfl),dif_pos H];rw[YB.uniq H.choose_spec ⟨rfl,us,b,rfl,hb,hl,hn,hu,rfl⟩]
theorem zzS:Zz CS K0 ajF where
 p h nx:=by show JY jI [K0.m,I 4,QW] h nx=_;rw[eF (f:=jI) (by decide)];exact bK vS ez (⟨3,by decide⟩:QJ) h nx
 r h nx:=by show JY gU [K0.m,I 4,QW] h nx=_;rw[eF (f:=gU) (by decide)];exact bK yC ez (⟨3,by decide⟩:QJ) h nx
 len:=by kernel_rfl
 cell y hy:=(Jz (ac5 y hy)).2
 r7 y hy:=(Jz (ac5 y hy)).1
end Ln
