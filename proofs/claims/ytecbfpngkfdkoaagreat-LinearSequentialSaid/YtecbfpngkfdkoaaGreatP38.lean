/- A part of the proof. No condition. -/
import Derived.Test.YtecbfpngkfdkoaaGreatP35
import Derived.Test.YtecbfpngkfdkoaaGreatP37
import Derived.Test.YtecbfpngkfdkoaaGreatP16
namespace Ln
open Go.Sx Go Go.Proofs Go.RowKit Go.Sort
theorem aoJ:∀{l m:List (Cf St)},ak eC l=ak eC m→l=m
 | [],[],_=>rfl
 | [],v ::m,h=>by simp[dc,eC]at h
 |u ::l,[],h=>by simp[dc,eC]at h
 |u ::l,v ::m,h=>by
  simp[dc,eC]at h;obtain⟨h1,h2,h3,h4,h5⟩:=h;have:=aoJ h5;have h6:=Ll h4;obtain⟨a,s⟩:=u;obtain⟨b,t⟩:=v;obtain⟨k,n,q⟩:=s;obtain⟨k',n',q'⟩:=t;simp at h1 h2 h3 h6;have h1:a=b:=by omega
  subst h1 h2 h3 h6 this;rfl
theorem asU(l:List U):AV.kf (aC l)=true:=by
 have h:∀l:List U,AV.Bb (ak eU l)=true:=fun l=>by
  induction l with
  |nil=>rfl
  |cons a l ih=>rw[dc];simp[eU,AV.Bb,AV.kf,I,ih]
 cases l with
 |nil=>rfl
 |cons a l=>simp only[aC,AV.kf];exact h _
theorem aLV(c:Cf St):AV.Bb (eC c)=true:=by simp[eC,AV.Bb,AV.kf,I,asU]
def cfC(a b:Cf St):Int:=abv (ofC a) (ofC b)
theorem Za(a b:Cf St):ltOf cfC a b=true↔ltC a b:=by unfold ltOf cfC;rw[decide_eq_true_iff,asW];unfold WJ ltC ofC;simp;constructor<;>intro h<;>omega
theorem Mx(a b:Cf St):ltOf cfC a b=false↔¬ltC a b:=by rw[←Za];simp
theorem aio(a b:Cf St)(h1:ltOf cfC a b=false)(h2:ltOf cfC b a=false):a=b:=by
 rw[Mx]at h1 h2;unfold ltC at h1 h2;have e:a.1=b.1:=by omega
 have h3:¬qS a.2 b.2<0:=fun h=>h1 (.inr ⟨e,h⟩);have h4:¬qS b.2 a.2<0:=fun h=>h2 (.inr ⟨e.symm,h⟩);have h5:qS a.2 b.2=0:=by have:=aoK a.2 b.2;have h6:¬0<qS a.2 b.2:=fun h=>h4 ((H0 _ _).2 h);omega
 exact Prod.ext e (H4.1 h5)
theorem asX:SWO (ltOf cfC) where
 irrefl x:=(Mx x x).2 (asY x)
 trans x y z h1 h2:=(Za x z).2 (aoL ((Za x y).1 h1) ((Za y z).1 h2))
 ntrans x y z h1 h2:=by
  have a1:=h1;rw[Mx]at h1 h2 ⊢;intro h3;by_cases h4:ltC y x
  ·exact h2 (aoL h4 h3)
  ·have e:=aio x y a1 ((Mx y x).2 h4);rw[e]at h3;exact h2 h3
theorem ayT(x y:Cf St):(!(ltOf cfC) y x)=decide (x.1<y.1∨x.1=y.1∧qS x.2 y.2≤0):=by rw[Bool.eq_iff_iff,Bool.not_eq_true',Mx,decide_eq_true_eq];unfold ltC;have f:qS y.2 x.2<0↔0<qS x.2 y.2:=H0 _ _;rw[f];omega
theorem aoM(l:List (Cf St)):(l.mergeSort fun x y=>!(ltOf cfC) y x)=sP l:=by unfold sP;congr 1;funext x y;exact ayT x y
theorem aE6:∀w,(isAgg (Tryz.laysS_ren.t 24)).run Tryz.prog w=.ok true w:=fun w=>by kernel_rfl
theorem zE6:∀w,(Go.sizeOf (Tryz.laysS_ren.t 24)).run Tryz.prog w=.ok 5 w:=fun w=>by kernel_rfl
theorem asZ{ρ:Nat→Int}{w0:W0}(hL:jI Tryz.prog .nil w0){us:List (Cf St)}(hu:∀y∈us,y.2.kids.length≤3)(hn:us.Nodup)(hlen:us.length≤1024){b:Key}{H:T ai}{nx:Key}(hb:ag b H=Qz (ak eC us)) :
  Lb Tryz.prog ρ w0 63 [.slice b 0 us.length 5,.fn 64 [] []] H nx (.tuple []) (au b (Qz (ak eC (sP us))) H) nx:=by
 obtain⟨fn,c,g1,g2,g3,_⟩:=uY (P:=Tryz.prog) (f:=64) AH;have key:=ajM (P:=Tryz.prog) (ρ:=ρ) (heap0:=.nil) (C:=CL) (fun w0 hL=>aDz w0 hL) Tryz.laysS (k:=5) aE6 zE6 xc aLV (cf:=cfC) asX aio (g:=64)
  (fun args w=>rL g1 (by rw[g2];rfl) g3 args) (nx0:=bz) few hn (fun x hx y hy=>(Tu Cp (a:=ofC x) (b:=ofC y) (hu x hx) (hu y hy) .nil bz).mono fun o _ _ h=>h.1) (by omega) hL hb (nx:=nx)
 rw[aoM]at key;exact key
def Xr(f:Nat)(l:List AV)(h:T ai)(r:T ai):Prop:=f=63∧∃(us:List (Cf St)) (b:Key),l=[.slice b 0 us.length 5,.fn 64 [] []]∧ag b h=Qz (ak eC us)∧us.length≤1024∧us.Nodup∧(∀y∈us,y.2.kids.length≤3)∧r=au b (Qz (ak eC (sP us))) h
theorem Xr.uniq{f:Nat}{l:List AV}{h r r':T ai}(a:Xr f l h r)(b:Xr f l h r'):r=r':=by obtain⟨_,us,k,e1,e2,_,_,_,rfl⟩:=a;obtain⟨_,vs,k',f1,f2,_,_,_,rfl⟩:=b;rw[e1]at f1;simp only[List.cons.injEq,AV.slice.injEq,and_true,true_and]at f1;obtain⟨rfl,_⟩:=f1;rw[e2]at f2;have:=aoJ (ai.cells.inj (Option.some.inj f2)).1;subst this;rfl
open Classical in
noncomputable def Mk(f:Nat)(l:List AV)(h:T ai)(nx:Key):Option (AV×T ai×Key):=
 if Nat.beq f 63=true then(if H:∃r,Xr f l h r then some (.tuple [],H.choose,nx)else none)else CL.sum f l h nx
theorem ei{f:Nat}(hf:Nat.beq f 63=false)(l:List AV)(h:T ai)(nx:Key):Mk f l h nx=CL.sum f l h nx:=by unfold Mk;rw[hf];simp
noncomputable def CS:bH:=⟨[],asA,Mk,Xq,ab6⟩
theorem pw{f:Nat}{p:fN}(h:Fn CL f p)(hf:Nat.beq f 63=false:=by decide):Fn CS f p:=⟨h.get,fun l a b=>(ei hf l a b).trans (h.off l a b),h.mT⟩
theorem avt{f:Nat}{p:fN}(h:FnR CL f p)(hf:Nat.beq f 63=false:=by decide):FnR CS f p:=⟨h.get,fun l a b=>(ei hf l a b).trans (h.off l a b),h.mT⟩
theorem aLW{ρ:Nat→Int}(w0:W0)(hL:jI Tryz.prog .nil w0):Ctx Tryz.prog ρ w0 CS:=by
 have X:=aDz (ρ:=ρ) w0 hL;have ne:∀{f:Nat},¬Nat.beq f 63=true→Nat.beq f 63=false:=fun h=>by simpa using h
 refine⟨?_,?_,X.orc,X.fns,X.mix⟩
 ·intro f l H nx a H' nx' hs0;have hs:Mk f l H nx=some (a,H',nx'):=hs0;by_cases hf:Nat.beq f 63=true
  ·unfold Mk at hs;rw[if_pos hf]at hs;split at hs
   ·rename_i h;cases hs;obtain⟨rfl,us,b,rfl,e2,e3,e4,e5,e6⟩:=h.choose_spec;rw[e6];exact asZ hL e5 e4 e3 e2
   ·cases hs
  ·rw[ei (ne hf)]at hs;exact X.sum f l H nx a H' nx' hs
 ·intro f l H nx r hs0;have hs:Mk f l H nx=some r:=hs0;by_cases hf:Nat.beq f 63=true
  ·have:=pZ hf;subst this;obtain⟨fn,c,f1,f2,f3,_⟩:=uY (iO (n:=63) (by decide));exact⟨fn,f1,by rw[f2];rfl,f3⟩
  ·rw[ei (ne hf)]at hs;exact X.has f l H nx r hs
theorem aLX:Std CS K0:=by
 have S:=Cp;cases S;constructor
 case orc=>rfl
 case raw=>exact fun _=>rfl
 case ok=>exact at0
 case s_InitP=>exact fun i hi h nx=>(ei (by decide) _ h nx).trans (Cp.s_InitP i hi h nx)
 case s_CanP=>exact fun c s l hs ha h nx=>(ei (by decide) _ h nx).trans (Cp.s_CanP c s l hs ha h nx)
 case s_HoldsP=>exact fun c s l r hs ha h nx=>(ei (by decide) _ h nx).trans (Cp.s_HoldsP c s l r hs ha h nx)
 case s_NextP=>exact fun c s l r hs ha h nx=>(ei (by decide) _ h nx).trans (Cp.s_NextP c s l r hs ha h nx)
 case s_InitR=>exact fun i hi h nx=>(ei (by decide) _ h nx).trans (Cp.s_InitR i hi h nx)
 case s_CanR=>exact fun c s l hs ha h nx=>(ei (by decide) _ h nx).trans (Cp.s_CanR c s l hs ha h nx)
 case s_HoldsR=>exact fun c s l r hs ha h nx=>(ei (by decide) _ h nx).trans (Cp.s_HoldsR c s l r hs ha h nx)
 case s_NextR=>exact fun c s l r hs ha h nx=>(ei (by decide) _ h nx).trans (Cp.s_NextR c s l r hs ha h nx)
 case s_parser_Decl=>exact fun i hi h nx=>(ei (by decide) _ h nx).trans (Cp.s_parser_Decl i hi h nx)
 case s_ref09_Decl=>exact fun i hi h nx=>(ei (by decide) _ h nx).trans (Cp.s_ref09_Decl i hi h nx)
 case s_values_Valid=>exact fun u h nx=>(ei (by decide) _ h nx).trans (Cp.s_values_Valid u h nx)
 case s_values_Compare=>exact fun s t hs ht h nx=>(ei (by decide) _ h nx).trans (Cp.s_values_Compare s t hs ht h nx)
 case s_ref10_Valid=>exact fun u h nx=>(ei (by decide) _ h nx).trans (Cp.s_ref10_Valid u h nx)
 case s_ref10_Compare=>exact fun s t hs ht h nx=>(ei (by decide) _ h nx).trans (Cp.s_ref10_Compare s t hs ht h nx)
 case s_Equal=>exact fun s t hs ht h nx=>(ei (by decide) _ h nx).trans (Cp.s_Equal s t hs ht h nx)
 case s_Clone=>exact fun s hs h nx=>(ei (by decide) _ h nx).trans (Cp.s_Clone s hs h nx)
 case s_Module=>exact fun h nx=>(ei (by decide) _ h nx).trans (Cp.s_Module h nx)
 case s_lives=>exact fun h nx=>(ei (by decide) _ h nx).trans (Cp.s_lives h nx)
 all_goals first|exact pw (by assumption)|exact avt (by assumption)
theorem aDD:Na CS where
 Mb:=pw (qT VE)
 Tm:=pw (qT abJ)
 Jd:=pw (qT TE)
 nP:=pw (qT Mt)
 Tp:=pw (qT abK)
 DK:=pw (qT NW)
 Jb:=pw (qT TF)
 vw:=pw (qT E7)
 xj:=pw (qT Hg)
 sS:=pw (qT Dy)
 vz:=pw (qT Fa)
 vt:=pw (qT Fb)
 yq:=pw (qT II)
 yF:=pw (qT IJ)
 zY:=pw (qT Kv)
 yp:=pw (qT IK)
 aaL s hs h nx:=by show Mk dM [.agg (eS s)] h nx=_;rw[ei (f:=dM) (by decide)];exact bE O6 ej (⟨s,hs⟩:QK) h nx
 am4 us b h nx hu hn hl hb:=by have H:∃r,Xr 63 [.slice b 0 us.length 5,.fn 64 [] []] h r:=⟨_,rfl,us,b,rfl,hb,hl,hn,hu,rfl⟩;show Mk 63 [.slice b 0 us.length 5,.fn 64 [] []] h nx=_;unfold Mk;rw[if_pos (show Nat.beq 63 63=true from rfl),dif_pos H];rw[Xr.uniq H.choose_spec ⟨rfl,us,b,rfl,hb,hl,hn,hu,rfl⟩]
theorem aLY:UY CS where
 B6:=pw (qT Mv)
 pH:=pw (qT zP)
 LZ:=pw (qT VF)
 GD:=pw (qT Qg)
 D9:=pw (qT NX)
 OT:=pw (qT YW)
 Je:=pw (qT TG)
 Jf:=pw (qT TH)
 GH:=pw (qT Qh)
 L1:=pw (qT VG)
 yO:=pw (qT IL)
 wX:=pw (qT Hh)
 Ay:=pw (qT Kw)
 zR:=pw (qT Kx)
 xi:=pw (qT Hi)
 xh:=pw (qT Hj)
 Az:=avt (ayR Ky)
end Ln
