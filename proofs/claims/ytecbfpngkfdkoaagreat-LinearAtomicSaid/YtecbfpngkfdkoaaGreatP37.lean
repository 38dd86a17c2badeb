/- A part of the proof. No condition. -/
import Derived.Test.YtecbfpngkfdkoaaGreatP34
import Derived.Test.YtecbfpngkfdkoaaGreatP36
import Derived.Test.YtecbfpngkfdkoaaGreatP20
namespace Ln
open Go.Sx Go Go.Proofs Go.RowKit Go.Sort
theorem aoa:∀{l m:List (Cf St)},aq eC l=aq eC m→l=m
 | [],[],_=>rfl
 | [],v ::m,h=>by simp[dg,eC]at h
 |u ::l,[],h=>by simp[dg,eC]at h
 |u ::l,v ::m,h=>by
  simp[dg,eC]at h;obtain⟨h1,h2,h3,h4,h5⟩:=h;have:=aoa h5;have h6:=L7 h4;obtain⟨a,s⟩:=u;obtain⟨b,t⟩:=v;obtain⟨k,n,q⟩:=s;obtain⟨k',n',q'⟩:=t;simp at h1 h2 h3 h6;have h1:a=b:=by omega
  subst h1 h2 h3 h6 this;rfl
theorem asg(l:List U):AV.kf (aV l)=true:=by
 have h:∀l:List U,AV.Ey (aq eU l)=true:=fun l=>by
  induction l with
  |nil=>rfl
  |cons a l ih=>rw[dg];simp[eU,AV.Ey,AV.kf,I,ih]
 cases l with
 |nil=>rfl
 |cons a l=>simp only[aV,AV.kf];exact h _
theorem aJ5(c:Cf St):AV.Ey (eC c)=true:=by simp[eC,AV.Ey,AV.kf,I,asg]
def cfC(a b:Cf St):Int:=aa8 (ofC a) (ofC b)
theorem YN(a b:Cf St):ltOf cfC a b=true↔ltC a b:=by unfold ltOf cfC;rw[decide_eq_true_iff,asi];unfold Wm ltC ofC;simp;constructor<;>intro h<;>omega
theorem Na(a b:Cf St):ltOf cfC a b=false↔¬ltC a b:=by rw[←YN];simp
theorem aie(a b:Cf St)(h1:ltOf cfC a b=false)(h2:ltOf cfC b a=false):a=b:=by
 rw[Na]at h1 h2;unfold ltC at h1 h2;have e:a.1=b.1:=by omega
 have h3:¬qz a.2 b.2<0:=fun h=>h1 (.inr ⟨e,h⟩);have h4:¬qz b.2 a.2<0:=fun h=>h2 (.inr ⟨e.symm,h⟩);have h5:qz a.2 b.2=0:=by have:=aob a.2 b.2;have h6:¬0<qz a.2 b.2:=fun h=>h4 ((Ij _ _).2 h);omega
 exact Prod.ext e (Ik.1 h5)
theorem asj:SWO (ltOf cfC) where
 irrefl x:=(Na x x).2 (asl x)
 trans x y z h1 h2:=(YN x z).2 (aoc ((YN x y).1 h1) ((YN y z).1 h2))
 ntrans x y z h1 h2:=by
  have a1:=h1;rw[Na]at h1 h2 ⊢;intro h3;by_cases h4:ltC y x
  ·exact h2 (aoc h4 h3)
  ·have e:=aie x y a1 ((Na y x).2 h4);rw[e]at h3;exact h2 h3
theorem axK(x y:Cf St):(!(ltOf cfC) y x)=decide (x.1<y.1∨x.1=y.1∧qz x.2 y.2≤0):=by rw[Bool.eq_iff_iff,Bool.not_eq_true',Na,decide_eq_true_eq];unfold ltC;have f:qz y.2 x.2<0↔0<qz x.2 y.2:=Ij _ _;rw[f];omega
theorem aod(l:List (Cf St)):(l.mergeSort fun x y=>!(ltOf cfC) y x)=x4 l:=by unfold x4;congr 1;funext x y;exact axK x y
theorem aE6:∀w,(isAgg (Tryz.laysS_ren.t 24)).run Tryz.prog w=.ok true w:=fun w=>by kernel_rfl
theorem zE6:∀w,(Go.sizeOf (Tryz.laysS_ren.t 24)).run Tryz.prog w=.ok 5 w:=fun w=>by kernel_rfl
theorem asm{ρ:Nat→Int}{w0:W0}(hL:ji Tryz.prog .nil w0){us:List (Cf St)}(hu:∀y∈us,y.2.kids.length≤3)(hn:us.Nodup)(hlen:us.length≤1024){b:Key}{H:T ah}{nx:Key}(hb:ag b H=QZ (aq eC us)) :
  LV Tryz.prog ρ w0 63 [.slice b 0 us.length 5,.fn 64 [] []] H nx (.tuple []) (aw b (QZ (aq eC (x4 us))) H) nx:=by
 obtain⟨fn,c,g1,g2,g3,_⟩:=vo (P:=Tryz.prog) (f:=64) Bq;have key:=ajI (P:=Tryz.prog) (ρ:=ρ) (heap0:=.nil) (C:=CL) (fun w0 hL=>aCe w0 hL) Tryz.laysS (k:=5) aE6 zE6 xU aJ5 (cf:=cfC) asj aie (g:=64)
  (fun args w=>qW g1 (by rw[g2];rfl) g3 args) (nx0:=bC) few hn (fun x hx y hy=>(Tt C4 (a:=ofC x) (b:=ofC y) (hu x hx) (hu y hy) .nil bC).mono fun o _ _ h=>h.1) (by omega) hL hb (nx:=nx)
 rw[aod]at key;exact key
def WZ(f:Nat)(l:List AV)(h:T ah)(r:T ah):Prop:=f=63∧∃(us:List (Cf St)) (b:Key),l=[.slice b 0 us.length 5,.fn 64 [] []]∧ag b h=QZ (aq eC us)∧us.length≤1024∧us.Nodup∧(∀y∈us,y.2.kids.length≤3)∧r=aw b (QZ (aq eC (x4 us))) h
theorem WZ.uniq{f:Nat}{l:List AV}{h r r':T ah}(a:WZ f l h r)(b:WZ f l h r'):r=r':=by obtain⟨_,us,k,e1,e2,_,_,_,rfl⟩:=a;obtain⟨_,vs,k',f1,f2,_,_,_,rfl⟩:=b;rw[e1]at f1;simp only[List.cons.injEq,AV.slice.injEq,and_true,true_and]at f1;obtain⟨rfl,_⟩:=f1;rw[e2]at f2;have:=aoa (ah.cells.inj (Option.some.inj f2)).1;subst this;rfl
open Classical in
noncomputable def MU(f:Nat)(l:List AV)(h:T ah)(nx:Key):Option (AV×T ah×Key):=
 if Nat.beq f 63=true then(if H:∃r,WZ f l h r then some (.tuple [],H.choose,nx)else none)else CL.sum f l h nx
theorem ef{f:Nat}(hf:Nat.beq f 63=false)(l:List AV)(h:T ah)(nx:Key):MU f l h nx=CL.sum f l h nx:=by unfold MU;rw[hf];simp
noncomputable def CS:bP:=⟨[],arR,MU,WY,abQ⟩
theorem mw{f:Nat}{p:fq}(h:Fn CL f p)(hf:Nat.beq f 63=false:=by decide):Fn CS f p:=⟨h.get,fun l a b=>(ef hf l a b).trans (h.off l a b),h.ma⟩
theorem aCf{f:Nat}{p:fq}(h:FnR CL f p)(hf:Nat.beq f 63=false:=by decide):FnR CS f p:=⟨h.get,fun l a b=>(ef hf l a b).trans (h.off l a b),h.ma⟩
theorem aJN{ρ:Nat→Int}(w0:W0)(hL:ji Tryz.prog .nil w0):Ctx Tryz.prog ρ w0 CS:=by
 have X:=aCe (ρ:=ρ) w0 hL;have ne:∀{f:Nat},¬Nat.beq f 63=true→Nat.beq f 63=false:=fun h=>by simpa using h
 refine⟨?_,?_,X.orc,X.fns,X.mix⟩
 ·intro f l H nx a H' nx' hs0;have hs:MU f l H nx=some (a,H',nx'):=hs0;by_cases hf:Nat.beq f 63=true
  ·unfold MU at hs;rw[if_pos hf]at hs;split at hs
   ·rename_i h;cases hs;obtain⟨rfl,us,b,rfl,e2,e3,e4,e5,e6⟩:=h.choose_spec;rw[e6];exact asm hL e5 e4 e3 e2
   ·cases hs
  ·rw[ef (ne hf)]at hs;exact X.sum f l H nx a H' nx' hs
 ·intro f l H nx r hs0;have hs:MU f l H nx=some r:=hs0;by_cases hf:Nat.beq f 63=true
  ·have:=o5 hf;subst this;obtain⟨fn,c,f1,f2,f3,_⟩:=vo (iJ (n:=63) (by decide));exact⟨fn,f1,by rw[f2];rfl,f3⟩
  ·rw[ef (ne hf)]at hs;exact X.has f l H nx r hs
theorem aJO:Std CS K0:=by
 have S:=C4;cases S;constructor
 case orc=>rfl
 case raw=>exact fun _=>rfl
 case ok=>exact atp
 case s_InitP=>exact fun i hi h nx=>(ef (by decide) _ h nx).trans (C4.s_InitP i hi h nx)
 case s_CanP=>exact fun c s l hs ha h nx=>(ef (by decide) _ h nx).trans (C4.s_CanP c s l hs ha h nx)
 case s_HoldsP=>exact fun c s l r hs ha h nx=>(ef (by decide) _ h nx).trans (C4.s_HoldsP c s l r hs ha h nx)
 case s_NextP=>exact fun c s l r hs ha h nx=>(ef (by decide) _ h nx).trans (C4.s_NextP c s l r hs ha h nx)
 case s_InitR=>exact fun i hi h nx=>(ef (by decide) _ h nx).trans (C4.s_InitR i hi h nx)
 case s_CanR=>exact fun c s l hs ha h nx=>(ef (by decide) _ h nx).trans (C4.s_CanR c s l hs ha h nx)
 case s_HoldsR=>exact fun c s l r hs ha h nx=>(ef (by decide) _ h nx).trans (C4.s_HoldsR c s l r hs ha h nx)
 case s_NextR=>exact fun c s l r hs ha h nx=>(ef (by decide) _ h nx).trans (C4.s_NextR c s l r hs ha h nx)
 case s_parser_Decl=>exact fun i hi h nx=>(ef (by decide) _ h nx).trans (C4.s_parser_Decl i hi h nx)
 case s_ref09_Decl=>exact fun i hi h nx=>(ef (by decide) _ h nx).trans (C4.s_ref09_Decl i hi h nx)
 case s_values_Valid=>exact fun u h nx=>(ef (by decide) _ h nx).trans (C4.s_values_Valid u h nx)
 case s_values_Compare=>exact fun s t hs ht h nx=>(ef (by decide) _ h nx).trans (C4.s_values_Compare s t hs ht h nx)
 case s_ref10_Valid=>exact fun u h nx=>(ef (by decide) _ h nx).trans (C4.s_ref10_Valid u h nx)
 case s_ref10_Compare=>exact fun s t hs ht h nx=>(ef (by decide) _ h nx).trans (C4.s_ref10_Compare s t hs ht h nx)
 case s_Equal=>exact fun s t hs ht h nx=>(ef (by decide) _ h nx).trans (C4.s_Equal s t hs ht h nx)
 case s_Clone=>exact fun s hs h nx=>(ef (by decide) _ h nx).trans (C4.s_Clone s hs h nx)
 case s_Module=>exact fun h nx=>(ef (by decide) _ h nx).trans (C4.s_Module h nx)
 case s_lives=>exact fun h nx=>(ef (by decide) _ h nx).trans (C4.s_lives h nx)
 all_goals first|exact mw (by assumption)|exact aCf (by assumption)
theorem aB3:O0 CS where
 MF:=mw (pM Vu)
 Tl:=mw (pM abu)
 Jp:=mw (pM TD)
 mM:=mw (pM M7)
 Tn:=mw (pM abv)
 EB:=mw (pM Ou)
 Jm:=mw (pM TE)
 wa:=mw (pM FX)
 ya:=mw (pM HI)
 tu:=mw (pM Ei)
 wc:=mw (pM FY)
 v7:=mw (pM FZ)
 ze:=mw (pM IW)
 zw:=mw (pM IX)
 AR:=mw (pM K5)
 zd:=mw (pM IY)
 aaC s hs h nx:=by show MU cP [.agg (eS s)] h nx=_;rw[ef (f:=cP) (by decide)];exact bK PG ed (⟨s,hs⟩:QK) h nx
 amo us b h nx hu hn hl hb:=by have H:∃r,WZ 63 [.slice b 0 us.length 5,.fn 64 [] []] h r:=⟨_,rfl,us,b,rfl,hb,hl,hn,hu,rfl⟩;show MU 63 [.slice b 0 us.length 5,.fn 64 [] []] h nx=_;unfold MU;rw[if_pos (show Nat.beq 63 63=true from rfl),dif_pos H];rw[WZ.uniq H.choose_spec ⟨rfl,us,b,rfl,hb,hl,hn,hu,rfl⟩]
theorem aJQ:Sqf CS where
 mn:=mw (pM yE)
 vT:=mw (pM F0)
 MC:=mw (pM Vv)
 Hs:=mw (pM QE)
 MD:=mw (pM Vw)
 Px:=mw (pM YB)
 xW:=mw (pM HJ)
 vW:=mw (pM F9)
 qh:=mw (pM B6)
 xD:=mw (pM HK)
 zh:=mw (pM IZ)
 AO:=mw (pM K6)
 Bg:=mw (pM K7)
 x9:=mw (pM HL)
 Bh:=mw (pM K8)
 EV:=mw (pM Ov)
 x8:=mw (pM HM)
 vV:=mw (pM Ga)
end Ln
