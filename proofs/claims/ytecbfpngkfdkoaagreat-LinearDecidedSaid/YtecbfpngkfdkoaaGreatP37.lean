/- A part of the proof. No condition. -/
import Derived.Test.YtecbfpngkfdkoaaGreatP33
import Derived.Test.YtecbfpngkfdkoaaGreatP36
namespace Ln
open Go.Sx Go Go.Proofs Go.RowKit Go.Sort
theorem anK:∀{l m:List (Cf St)},ai eC l=ai eC m→l=m
 | [],[],_=>rfl
 | [],v ::m,h=>by simp[dm,eC]at h
 |u ::l,[],h=>by simp[dm,eC]at h
 |u ::l,v ::m,h=>by
  simp[dm,eC]at h;obtain⟨h1,h2,h3,h4,h5⟩:=h;have:=anK h5;have h6:=Lq h4;obtain⟨a,s⟩:=u;obtain⟨b,t⟩:=v;obtain⟨k,n,q⟩:=s;obtain⟨k',n',q'⟩:=t;simp at h1 h2 h3 h6;have h1:a=b:=by omega
  subst h1 h2 h3 h6 this;rfl
theorem arS(l:List U):AV.kf (bB l)=true:=by
 have h:∀l:List U,AV.IP (ai eU l)=true:=fun l=>by
  induction l with
  |nil=>rfl
  |cons a l ih=>rw[dm];simp[eU,AV.IP,AV.kf,I,ih]
 cases l with
 |nil=>rfl
 |cons a l=>simp only[bB,AV.kf];exact h _
theorem aIw(c:Cf St):AV.IP (eC c)=true:=by simp[eC,AV.IP,AV.kf,I,arS]
def cfC(a b:Cf St):Int:=Tq (Gj a) (Gj b)
theorem YH(a b:Cf St):ltOf cfC a b=true↔ZU a b:=by unfold ltOf cfC;rw[decide_eq_true_iff,IF];unfold Ke ZU Gj;simp;constructor<;>intro h<;>omega
theorem MH(a b:Cf St):ltOf cfC a b=false↔¬ZU a b:=by rw[←YH];simp
theorem ahR(a b:Cf St)(h1:ltOf cfC a b=false)(h2:ltOf cfC b a=false):a=b:=by
 rw[MH]at h1 h2;unfold ZU at h1 h2;have e:a.1=b.1:=by omega
 have h3:¬lL a.2 b.2<0:=fun h=>h1 (.inr ⟨e,h⟩);have h4:¬lL b.2 a.2<0:=fun h=>h2 (.inr ⟨e.symm,h⟩);have h5:lL a.2 b.2=0:=by have:=abC a.2 b.2;have h6:¬0<lL a.2 b.2:=fun h=>h4 ((Ir _ _).2 h);omega
 exact Prod.ext e (yY.1 h5)
theorem arU:SWO (ltOf cfC) where
 irrefl x:=(MH x x).2 (ahS x)
 trans x y z h1 h2:=(YH x z).2 (aey ((YH x y).1 h1) ((YH y z).1 h2))
 ntrans x y z h1 h2:=by
  have a1:=h1;rw[MH]at h1 h2 ⊢;intro h3;by_cases h4:ZU y x
  ·exact h2 (aey h4 h3)
  ·have e:=ahR x y a1 ((MH y x).2 h4);rw[e]at h3;exact h2 h3
theorem awR(x y:Cf St):(!(ltOf cfC) y x)=decide (x.1<y.1∨x.1=y.1∧lL x.2 y.2≤0):=by rw[Bool.eq_iff_iff,Bool.not_eq_true',MH,decide_eq_true_eq];unfold ZU;have f:lL y.2 x.2<0↔0<lL x.2 y.2:=Ir _ _;rw[f];omega
theorem anL(l:List (Cf St)):(l.mergeSort fun x y=>!(ltOf cfC) y x)=jF l:=by unfold jF;congr 1;funext x y;exact awR x y
theorem aE6:∀w,(isAgg (Tryz.laysS_ren.t 24)).run Tryz.prog w=.ok true w:=fun w=>by kernel_rfl
theorem zE6:∀w,(Go.sizeOf (Tryz.laysS_ren.t 24)).run Tryz.prog w=.ok 5 w:=fun w=>by kernel_rfl
theorem arV{ρ:Nat→Int}{w0:W0}(hL:kl Tryz.prog .nil w0){us:List (Cf St)}(hu:∀y∈us,y.2.kids.length≤3)(hn:us.Nodup)(hlen:us.length≤1024){b:Key}{H:T ag}{nx:Key}(hb:ae b H=Qw (ai eC us)) :
  Lg Tryz.prog ρ w0 63 [.slice b 0 us.length 5,.fn 64 [] []] H nx (.tuple []) (au b (Qw (ai eC (jF us))) H) nx:=by
 obtain⟨fn,c,g1,g2,g3,_⟩:=wJ (P:=Tryz.prog) (f:=64) BQ;have key:=aje (P:=Tryz.prog) (ρ:=ρ) (heap0:=.nil) (C:=CL) (fun w0 hL=>aBk w0 hL) Tryz.laysS (k:=5) aE6 zE6 wM aIw (cf:=cfC) arU ahR (g:=64)
  (fun args w=>tD g1 (by rw[g2];rfl) g3 args) (nx0:=bG) few hn (fun x hx y hy=>(Al Du (a:=Gj x) (b:=Gj y) (hu x hx) (hu y hy) .nil bG).mono fun o _ _ h=>h.1) (by omega) hL hb (nx:=nx)
 rw[anL]at key;exact key
def WV(f:Nat)(l:List AV)(h:T ag)(r:T ag):Prop:=f=63∧∃(us:List (Cf St)) (b:Key),l=[.slice b 0 us.length 5,.fn 64 [] []]∧ae b h=Qw (ai eC us)∧us.length≤1024∧us.Nodup∧(∀y∈us,y.2.kids.length≤3)∧r=au b (Qw (ai eC (jF us))) h
theorem WV.uniq{f:Nat}{l:List AV}{h r r':T ag}(a:WV f l h r)(b:WV f l h r'):r=r':=by obtain⟨_,us,k,e1,e2,_,_,_,rfl⟩:=a;obtain⟨_,vs,k',f1,f2,_,_,_,rfl⟩:=b;rw[e1]at f1;simp only[List.cons.injEq,AV.slice.injEq,and_true,true_and]at f1;obtain⟨rfl,_⟩:=f1;rw[e2]at f2;have:=anK (ag.cells.inj (Option.some.inj f2)).1;subst this;rfl
open Classical in
noncomputable def Mr(f:Nat)(l:List AV)(h:T ag)(nx:Key):Option (AV×T ag×Key):=
 if Nat.beq f 63=true then(if H:∃r,WV f l h r then some (.tuple [],H.choose,nx)else none)else CL.sum f l h nx
theorem fR{f:Nat}(hf:Nat.beq f 63=false)(l:List AV)(h:T ag)(nx:Key):Mr f l h nx=CL.sum f l h nx:=by unfold Mr;rw[hf];simp
noncomputable def CS:bU:=⟨[],arA,Mr,WU,aby⟩
theorem AZ{f:Nat}{p:gE}(h:Fn CL f p)(hf:Nat.beq f 63=false:=by decide):Fn CS f p:=⟨h.get,fun l a b=>(fR hf l a b).trans (h.off l a b),h.nD⟩
theorem aBl{f:Nat}{p:gE}(h:FnR CL f p)(hf:Nat.beq f 63=false:=by decide):FnR CS f p:=⟨h.get,fun l a b=>(fR hf l a b).trans (h.off l a b),h.nD⟩
theorem aEb{ρ:Nat→Int}(w0:W0)(hL:kl Tryz.prog .nil w0):Ctx Tryz.prog ρ w0 CS:=by
 have X:=aBk (ρ:=ρ) w0 hL;have ne:∀{f:Nat},¬Nat.beq f 63=true→Nat.beq f 63=false:=fun h=>by simpa using h
 refine⟨?_,?_,X.orc,X.fns,X.mix⟩
 ·intro f l H nx a H' nx' hs0;have hs:Mr f l H nx=some (a,H',nx'):=hs0;by_cases hf:Nat.beq f 63=true
  ·unfold Mr at hs;rw[if_pos hf]at hs;split at hs
   ·rename_i h;cases hs;obtain⟨rfl,us,b,rfl,e2,e3,e4,e5,e6⟩:=h.choose_spec;rw[e6];exact arV hL e5 e4 e3 e2
   ·cases hs
  ·rw[fR (ne hf)]at hs;exact X.sum f l H nx a H' nx' hs
 ·intro f l H nx r hs0;have hs:Mr f l H nx=some r:=hs0;by_cases hf:Nat.beq f 63=true
  ·have:=qX hf;subst this;obtain⟨fn,c,f1,f2,f3,_⟩:=wJ (l9 (n:=63) (by decide));exact⟨fn,f1,by rw[f2];rfl,f3⟩
  ·rw[fR (ne hf)]at hs;exact X.has f l H nx r hs
theorem aEd:Std CS K0:=by
 have S:=Du;cases S;constructor
 case orc=>rfl
 case raw=>exact fun _=>rfl
 case ok=>exact as0
 case s_InitP=>exact fun i hi h nx=>(fR (by decide) _ h nx).trans (Du.s_InitP i hi h nx)
 case s_CanP=>exact fun c s l hs ha h nx=>(fR (by decide) _ h nx).trans (Du.s_CanP c s l hs ha h nx)
 case s_HoldsP=>exact fun c s l r hs ha h nx=>(fR (by decide) _ h nx).trans (Du.s_HoldsP c s l r hs ha h nx)
 case s_NextP=>exact fun c s l r hs ha h nx=>(fR (by decide) _ h nx).trans (Du.s_NextP c s l r hs ha h nx)
 case s_InitR=>exact fun i hi h nx=>(fR (by decide) _ h nx).trans (Du.s_InitR i hi h nx)
 case s_CanR=>exact fun c s l hs ha h nx=>(fR (by decide) _ h nx).trans (Du.s_CanR c s l hs ha h nx)
 case s_HoldsR=>exact fun c s l r hs ha h nx=>(fR (by decide) _ h nx).trans (Du.s_HoldsR c s l r hs ha h nx)
 case s_NextR=>exact fun c s l r hs ha h nx=>(fR (by decide) _ h nx).trans (Du.s_NextR c s l r hs ha h nx)
 case s_parser_Decl=>exact fun i hi h nx=>(fR (by decide) _ h nx).trans (Du.s_parser_Decl i hi h nx)
 case s_ref09_Decl=>exact fun i hi h nx=>(fR (by decide) _ h nx).trans (Du.s_ref09_Decl i hi h nx)
 case s_values_Valid=>exact fun u h nx=>(fR (by decide) _ h nx).trans (Du.s_values_Valid u h nx)
 case s_values_Compare=>exact fun s t hs ht h nx=>(fR (by decide) _ h nx).trans (Du.s_values_Compare s t hs ht h nx)
 case s_ref10_Valid=>exact fun u h nx=>(fR (by decide) _ h nx).trans (Du.s_ref10_Valid u h nx)
 case s_ref10_Compare=>exact fun s t hs ht h nx=>(fR (by decide) _ h nx).trans (Du.s_ref10_Compare s t hs ht h nx)
 case s_Equal=>exact fun s t hs ht h nx=>(fR (by decide) _ h nx).trans (Du.s_Equal s t hs ht h nx)
 case s_Clone=>exact fun s hs h nx=>(fR (by decide) _ h nx).trans (Du.s_Clone s hs h nx)
 case s_Module=>exact fun h nx=>(fR (by decide) _ h nx).trans (Du.s_Module h nx)
 case s_lives=>exact fun h nx=>(fR (by decide) _ h nx).trans (Du.s_lives h nx)
 all_goals first|exact AZ (by assumption)|exact aBl (by assumption)
theorem aEe:Dcd CS where
 C0:=AZ (tU MC)
 yj:=AZ (tU HQ)
 yC:=AZ (tU HR)
 Aw:=AZ (tU Jd)
 uE:=AZ (tU EC)
theorem azn:PU CS where
 Mk:=AZ (tU Vx)
 Ti:=AZ (tU abb)
 JF:=AZ (tU TB)
 pj:=AZ (tU MB)
 Tk:=AZ (tU abc)
 ER:=AZ (tU N3)
 JC:=AZ (tU TC)
 wZ:=AZ (tU Gd)
 yn:=AZ (tU HP)
 uI:=AZ (tU EB)
 w6:=AZ (tU Ge)
 wY:=AZ (tU Gf)
 zx:=AZ (tU Ja)
 zS:=AZ (tU Jb)
 A9:=AZ (tU KG)
 zw:=AZ (tU Jc)
 aaj s hs h nx:=by show Mr eH [.agg (eS s)] h nx=_;rw[fR (f:=eH) (by decide)];exact bV Pm fQ (⟨s,hs⟩:QK) h nx
 alN us b h nx hu hn hl hb:=by have H:∃r,WV 63 [.slice b 0 us.length 5,.fn 64 [] []] h r:=⟨_,rfl,us,b,rfl,hb,hl,hn,hu,rfl⟩;show Mr 63 [.slice b 0 us.length 5,.fn 64 [] []] h nx=_;unfold Mr;rw[if_pos (show Nat.beq 63 63=true from rfl),dif_pos H];rw[WV.uniq H.choose_spec ⟨rfl,us,b,rfl,hb,hl,hn,hu,rfl⟩]
end Ln
