/- A part of the proof. No condition. -/
import Derived.Test.YtecbfpngkfdkoaaGreatP33
import Derived.Test.YtecbfpngkfdkoaaGreatP36
namespace Ln
open Go.Sx Go Go.Proofs Go.RowKit Go.Sort
theorem ajo:∀{l m:List (Cf St)},ag eC l=ag eC m→l=m
 | [],[],_=>rfl
 | [],v ::m,h=>by simp[dd,eC]at h
 |u ::l,[],h=>by simp[dd,eC]at h
 |u ::l,v ::m,h=>by
  simp[dd,eC]at h;obtain⟨h1,h2,h3,h4,h5⟩:=h;have:=ajo h5;have h6:=JG h4;obtain⟨a,s⟩:=u;obtain⟨b,t⟩:=v;obtain⟨k,n,q⟩:=s;obtain⟨k',n',q'⟩:=t;simp at h1 h2 h3 h6;have h1:a=b:=by omega
  subst h1 h2 h3 h6 this;rfl
theorem amZ(l:List U):AV.kf (aK l)=true:=by
 have h:∀l:List U,AV.Ec (ag eU l)=true:=fun l=>by
  induction l with
  |nil=>rfl
  |cons a l ih=>rw[dd];simp[eU,AV.Ec,AV.kf,I,ih]
 cases l with
 |nil=>rfl
 |cons a l=>simp only[aK,AV.kf];exact h _
theorem aDK(c:Cf St):AV.Ec (eC c)=true:=by simp[eC,AV.Ec,AV.kf,I,amZ]
def cfC(a b:Cf St):Int:=W8 (ofC a) (ofC b)
theorem U7(a b:Cf St):ltOf cfC a b=true↔J8 a b:=by unfold ltOf cfC;rw[decide_eq_true_iff,am1];unfold SP J8 ofC;simp;constructor<;>intro h<;>omega
theorem KA(a b:Cf St):ltOf cfC a b=false↔¬J8 a b:=by rw[←U7];simp
theorem adN(a b:Cf St)(h1:ltOf cfC a b=false)(h2:ltOf cfC b a=false):a=b:=by
 rw[KA]at h1 h2;unfold J8 at h1 h2;have e:a.1=b.1:=by omega
 have h3:¬ig a.2 b.2<0:=fun h=>h1 (.inr ⟨e,h⟩);have h4:¬ig b.2 a.2<0:=fun h=>h2 (.inr ⟨e.symm,h⟩);have h5:ig a.2 b.2=0:=by have:=XO a.2 b.2;have h6:¬0<ig a.2 b.2:=fun h=>h4 ((zT _ _).2 h);omega
 exact Prod.ext e (sM.1 h5)
theorem am2:SWO (ltOf cfC) where
 irrefl x:=(KA x x).2 (adO x)
 trans x y z h1 h2:=(U7 x z).2 (U8 ((U7 x y).1 h1) ((U7 y z).1 h2))
 ntrans x y z h1 h2:=by
  have a1:=h1;rw[KA]at h1 h2 ⊢;intro h3;by_cases h4:J8 y x
  ·exact h2 (U8 h4 h3)
  ·have e:=adN x y a1 ((KA y x).2 h4);rw[e]at h3;exact h2 h3
theorem asz(x y:Cf St):(!(ltOf cfC) y x)=decide (x.1<y.1∨x.1=y.1∧ig x.2 y.2≤0):=by rw[Bool.eq_iff_iff,Bool.not_eq_true',KA,decide_eq_true_eq];unfold J8;have f:ig y.2 x.2<0↔0<ig x.2 y.2:=zT _ _;rw[f];omega
theorem ajp(l:List (Cf St)):(l.mergeSort fun x y=>!(ltOf cfC) y x)=kl l:=by unfold kl;congr 1;funext x y;exact asz x y
theorem aE6:∀w,(isAgg (Tryz.laysS_ren.t 24)).run Tryz.prog w=.ok true w:=fun w=>by kernel_rfl
theorem zE6:∀w,(Go.sizeOf (Tryz.laysS_ren.t 24)).run Tryz.prog w=.ok 5 w:=fun w=>by kernel_rfl
theorem am3{ρ:Nat→Int}{w0:W0}(hL:iE Tryz.prog .nil w0){us:List (Cf St)}(hu:∀y∈us,y.2.kids.length≤3)(hn:us.Nodup)(hlen:us.length≤1024){b:Key}{H:T ah}{nx:Key}(hb:ae b H=Vv (ag eC us)) :
  JA Tryz.prog ρ w0 63 [.slice b 0 us.length 5,.fn 64 [] []] H nx (.tuple []) (av b (Vv (ag eC (kl us))) H) nx:=by
 obtain⟨fn,c,g1,g2,g3,_⟩:=sW (P:=Tryz.prog) (f:=64) yH;have key:=ae8 (P:=Tryz.prog) (ρ:=ρ) (heap0:=.nil) (C:=CL) (fun w0 hL=>awW w0 hL) Tryz.laysS (k:=5) aE6 zE6 dE aDK (cf:=cfC) am2 adN (g:=64)
  (fun args w=>pK g1 (by rw[g2];rfl) g3 args) (nx0:=bD) few hn (fun x hx y hy=>(P0 (Ea 1) (a:=ofC x) (b:=ofC y) (hu x hx) (hu y hy) .nil bD).mono fun o _ _ h=>h.1) (by omega) hL hb (nx:=nx)
 rw[ajp]at key;exact key
def Tx(f:Nat)(l:List AV)(h:T ah)(r:T ah):Prop:=f=63∧∃(us:List (Cf St)) (b:Key),l=[.slice b 0 us.length 5,.fn 64 [] []]∧ae b h=Vv (ag eC us)∧us.length≤1024∧us.Nodup∧(∀y∈us,y.2.kids.length≤3)∧r=av b (Vv (ag eC (kl us))) h
theorem Tx.uniq{f:Nat}{l:List AV}{h r r':T ah}(a:Tx f l h r)(b:Tx f l h r'):r=r':=by obtain⟨_,us,k,e1,e2,_,_,_,rfl⟩:=a;obtain⟨_,vs,k',f1,f2,_,_,_,rfl⟩:=b;rw[e1]at f1;simp only[List.cons.injEq,AV.slice.injEq,and_true,true_and]at f1;obtain⟨rfl,_⟩:=f1;rw[e2]at f2;have:=ajo (ah.cells.inj (Option.some.inj f2)).1;subst this;rfl
open Classical in
noncomputable def Ki(f:Nat)(l:List AV)(h:T ah)(nx:Key):Option (AV×T ah×Key):=
 if Nat.beq f 63=true then(if H:∃r,Tx f l h r then some (.tuple [],H.choose,nx)else none)else CL.sum f l h nx
theorem eZ{f:Nat}(hf:Nat.beq f 63=false)(l:List AV)(h:T ah)(nx:Key):Ki f l h nx=CL.sum f l h nx:=by unfold Ki;rw[hf];simp
noncomputable def CS:bK:=⟨[],amK,Ki,Tw,XI⟩
theorem FM{f:Nat}{p:ej}(h:Fn CL f p)(hf:Nat.beq f 63=false:=by decide):Fn CS f p:=⟨h.get,fun l a b=>(eZ hf l a b).trans (h.off l a b),h.kY⟩
theorem awX{f:Nat}{p:ej}(h:FnR CL f p)(hf:Nat.beq f 63=false:=by decide):FnR CS f p:=⟨h.get,fun l a b=>(eZ hf l a b).trans (h.off l a b),h.kY⟩
theorem aDL{ρ:Nat→Int}(w0:W0)(hL:iE Tryz.prog .nil w0):Ctx Tryz.prog ρ w0 CS:=by
 have X:=awW (ρ:=ρ) w0 hL;have ne:∀{f:Nat},¬Nat.beq f 63=true→Nat.beq f 63=false:=fun h=>by simpa using h
 refine⟨?_,?_,X.orc,X.fns,X.mix⟩
 ·intro f l H nx a H' nx' hs0;have hs:Ki f l H nx=some (a,H',nx'):=hs0;by_cases hf:Nat.beq f 63=true
  ·unfold Ki at hs;rw[if_pos hf]at hs;split at hs
   ·rename_i h;cases hs;obtain⟨rfl,us,b,rfl,e2,e3,e4,e5,e6⟩:=h.choose_spec;rw[e6];exact am3 hL e5 e4 e3 e2
   ·cases hs
  ·rw[eZ (ne hf)]at hs;exact X.sum f l H nx a H' nx' hs
 ·intro f l H nx r hs0;have hs:Ki f l H nx=some r:=hs0;by_cases hf:Nat.beq f 63=true
  ·have:=o9 hf;subst this;obtain⟨fn,c,f1,f2,f3,_⟩:=sW (iL (n:=63) (by decide));exact⟨fn,f1,by rw[f2];rfl,f3⟩
  ·rw[eZ (ne hf)]at hs;exact X.has f l H nx r hs
theorem aDM(w:Int):Std CS (K1 w):=by
 have S:=Ea w;cases S;constructor
 case orc=>rfl
 case raw=>exact fun _=>rfl
 case ok=>exact an2 w
 case s_InitP=>exact fun i hi h nx=>(eZ (by decide) _ h nx).trans ((Ea w).s_InitP i hi h nx)
 case s_CanP=>exact fun c s o ho hs h nx=>(eZ (by decide) _ h nx).trans ((Ea w).s_CanP c s o ho hs h nx)
 case s_NextP=>exact fun c s o ho hs h nx=>(eZ (by decide) _ h nx).trans ((Ea w).s_NextP c s o ho hs h nx)
 case s_InitR=>exact fun i hi h nx=>(eZ (by decide) _ h nx).trans ((Ea w).s_InitR i hi h nx)
 case s_CanR=>exact fun c s o ho hs h nx=>(eZ (by decide) _ h nx).trans ((Ea w).s_CanR c s o ho hs h nx)
 case s_NextR=>exact fun c s o ho hs h nx=>(eZ (by decide) _ h nx).trans ((Ea w).s_NextR c s o ho hs h nx)
 case s_parser_Decl=>exact fun i hi h nx=>(eZ (by decide) _ h nx).trans ((Ea w).s_parser_Decl i hi h nx)
 case s_ref09_Decl=>exact fun i hi h nx=>(eZ (by decide) _ h nx).trans ((Ea w).s_ref09_Decl i hi h nx)
 case s_values_Valid=>exact fun u h nx=>(eZ (by decide) _ h nx).trans ((Ea w).s_values_Valid u h nx)
 case s_values_Compare=>exact fun s t hs ht h nx=>(eZ (by decide) _ h nx).trans ((Ea w).s_values_Compare s t hs ht h nx)
 case s_ref10_Valid=>exact fun u h nx=>(eZ (by decide) _ h nx).trans ((Ea w).s_ref10_Valid u h nx)
 case s_ref10_Compare=>exact fun s t hs ht h nx=>(eZ (by decide) _ h nx).trans ((Ea w).s_ref10_Compare s t hs ht h nx)
 case s_Equal=>exact fun s t hs ht h nx=>(eZ (by decide) _ h nx).trans ((Ea w).s_Equal s t hs ht h nx)
 case s_Clone=>exact fun s hs h nx=>(eZ (by decide) _ h nx).trans ((Ea w).s_Clone s hs h nx)
 case s_Module=>exact fun h nx=>(eZ (by decide) _ h nx).trans ((Ea w).s_Module h nx)
 case s_lives=>exact fun h nx=>(eZ (by decide) _ h nx).trans ((Ea w).s_lives h nx)
 all_goals first|exact FM (by assumption)|exact awX (by assumption)
theorem awY:Mk CS where
 Kd:=FM (nj R7)
 PS:=FM (nj Xn)
 HH:=FM (nj Qb)
 lR:=FM (nj Kt)
 PU:=FM (nj Xo)
 Cz:=FM (nj LY)
 Hx:=FM (nj Qc)
 tq:=FM (nj DZ)
 uX:=FM (nj Fz)
 qG:=FM (nj Cm)
 tu:=FM (nj D0)
 tp:=FM (nj D9)
 wq:=FM (nj GW)
 wK:=FM (nj GX)
 xU:=FM (nj I4)
 wo:=FM (nj GY)
 Wt s hs h nx:=by show Ki dq [.agg (eS s)] h nx=_;rw[eZ (f:=dq) (by decide)];exact cx MX ib (⟨s,hs⟩:QK) h nx
 ah2 us b h nx hu hn hl hb:=by have H:∃r,Tx 63 [.slice b 0 us.length 5,.fn 64 [] []] h r:=⟨_,rfl,us,b,rfl,hb,hl,hn,hu,rfl⟩;show Ki 63 [.slice b 0 us.length 5,.fn 64 [] []] h nx=_;unfold Ki;rw[if_pos (show Nat.beq 63 63=true from rfl),dif_pos H];rw[Tx.uniq H.choose_spec ⟨rfl,us,b,rfl,hb,hl,hn,hu,rfl⟩]
end Ln
