/- A part of the proof. No condition. -/
import Derived.Test.YtecbfpngkfdkoaaGreatP15
import Derived.Test.YtecbfpngkfdkoaaGreatP16
set_option linter.unusedSimpArgs false
set_option linter.unusedVariables false
set_option linter.unusedSectionVars false
namespace Ln
open Go.Sx Go Go.Proofs
section
variable{ρ:Nat→Int}
theorem ah3(i:Nat):(SI.var i).den ρ=ρ i:=rfl
theorem ah4(n:Int):(SI.lit n).den ρ=n:=rfl
end
theorem aD9{s:St}(h:zG 0 s):∃l,s=⟨2,0,l⟩∧l.length≤3∧∀u∈l,u.k=0:=by obtain⟨k,n,l⟩:=s;simp only[zG,if_pos]at h;obtain⟨rfl,rfl,h3,h4⟩:=h;exact⟨l,rfl,h3,h4⟩
theorem apI{i:Nat}{s:St}(h:zG i s)(hi:i≠0):∃n,s=⟨0,n,[]⟩:=by obtain⟨k,n,l⟩:=s;simp only[zG,if_neg hi]at h;obtain⟨rfl,rfl⟩:=h;exact⟨n,rfl⟩
inductive K3:List U→Prop
 |k0:K3 []
 |k1 (a:Int):K3 [⟨0,a⟩]
 |k2 (a b:Int):K3 [⟨0,a⟩,⟨0,b⟩]
 |k3 (a b c:Int):K3 [⟨0,a⟩,⟨0,b⟩,⟨0,c⟩]
theorem K3.of:∀{l:List U},l.length≤3→(∀u∈l,u.k=0)→K3 l
 | [],_,_=>.k0
 | [⟨k,a⟩],_,h=>by have h1:=h ⟨k,a⟩ (by simp);cases h1;exact .k1 a
 | [⟨k,a⟩,⟨l,b⟩],_,h=>by have h1:=h ⟨k,a⟩ (by simp);have h2:=h ⟨l,b⟩ (by simp);cases h1;cases h2;exact .k2 a b
 | [⟨k,a⟩,⟨l,b⟩,⟨m,c⟩],_,h=>by have h1:=h ⟨k,a⟩ (by simp);have h2:=h ⟨l,b⟩ (by simp);have h3:=h ⟨m,c⟩ (by simp);cases h1;cases h2;cases h3;exact .k3 a b c
 |_ ::_ ::_ ::_ ::_,h,_=>absurd h (by simp)
inductive It:aX→St→List U→Prop
 |put (l:List U) (n:Int) (h:K3 l):It .put ⟨2,0,l⟩ [⟨0,n⟩]
 |get (l:List U) (h:K3 l):It .get ⟨2,0,l⟩ []
 |inc (m:Int):It .inc ⟨0,m,[]⟩ []
 |readC (m:Int):It .readC ⟨0,m,[]⟩ []
 |add (m n:Int):It .add ⟨0,m,[]⟩ [⟨0,n⟩]
 |write (m n:Int):It .write ⟨0,m,[]⟩ [⟨0,n⟩]
 |readR (m:Int):It .readR ⟨0,m,[]⟩ []
theorem It.of{c:aX}{s:St}{a:List U}(hs:zG c.fZ s)(ha:CQ c a):It c s a:=by
 cases c
 ·obtain⟨l,rfl,h1,h2⟩:=aD9 hs;obtain⟨n,rfl⟩:=ha.one rfl;exact .put l n (.of h1 h2)
 ·obtain⟨l,rfl,h1,h2⟩:=aD9 hs;cases ha.none rfl;exact .get l (.of h1 h2)
 ·obtain⟨m,rfl⟩:=apI hs (by decide);cases ha.none rfl;exact .inc m
 ·obtain⟨m,rfl⟩:=apI hs (by decide);cases ha.none rfl;exact .readC m
 ·obtain⟨m,rfl⟩:=apI hs (by decide);obtain⟨n,rfl⟩:=ha.one rfl;exact .add m n
 ·obtain⟨m,rfl⟩:=apI hs (by decide);obtain⟨n,rfl⟩:=ha.one rfl;exact .write m n
 ·obtain⟨m,rfl⟩:=apI hs (by decide);cases ha.none rfl;exact .readR m
theorem aEa{c:aX}{s:St}{a:List U}(h:It c s a):aad c s a=.tuple [.bool (iP c s),I 0]:=by
 cases h with
 |put l n h=>cases h<;>rfl
 |get l h=>cases h<;>rfl
 |inc m=>
  by_cases q:m<99
  ·show DT.val _ (aI.dt tS)=_;have e:holds (xO ⟨0,m,[]⟩ [] z0 0) .lss (.var 1) (.lit 99)=true:=by simp[holds,fC,ah3,ah4];exact decide_eq_true q
   simp only[tS,aI.dt,DT.val,e,iP,decide_eq_true q];rfl
  ·show DT.val _ (aI.dt tS)=_;have e:holds (xO ⟨0,m,[]⟩ [] z0 0) .lss (.var 1) (.lit 99)=false:=by simp[holds,fC,ah3,ah4];exact decide_eq_false q
   simp only[tS,aI.dt,DT.val,e,iP,decide_eq_false q];rfl
 |readC m=>rfl
 |add m n=>rfl
 |write m n=>rfl
 |readR m=>rfl
def asB(x e:SI):DT:=.ask .lss x e (.leaf (.tuple [.bool false,I 0])) (.ask .gtr x e (.leaf (.tuple [.bool false,I 0])) (.leaf (.tuple [.bool true,I 0])))
theorem abI{ρ:Nat→Int}(x e:SI):(asB x e).val ρ=.tuple [.bool (decide (x.den ρ=e.den ρ)),I 0]:=by
 simp only[asB,DT.val,holds,fC];by_cases h1:x.den ρ<e.den ρ
 ·have h:¬x.den ρ=e.den ρ:=by omega
  simp only[decide_eq_true h1,decide_eq_false h];rfl
 ·by_cases h2:x.den ρ>e.den ρ
  ·have h:¬x.den ρ=e.den ρ:=by omega
   simp only[decide_eq_false h1,decide_eq_true h2,decide_eq_false h];rfl
  ·have h:x.den ρ=e.den ρ:=by omega
   simp only[decide_eq_false h1,decide_eq_false h2,decide_eq_true h];rfl
theorem aMS(a b:Int):decide ((⟨0,a⟩:U)=⟨0,b⟩)=decide (a=b):=by
 by_cases h:a=b
 ·subst h;simp
 ·simp[h]
theorem wT{ρ:Nat→Int}{d:DT}{x e:SI}{a b:Int}(h:d.val ρ=(asB x e).val ρ)(hx:x.den ρ=a)(he:e.den ρ=b):d.val ρ=.tuple [.bool (decide ((⟨0,a⟩:U)=⟨0,b⟩)),I 0]:=by rw[h,abI,hx,he,aMS]
theorem ats{c:aX}{s:St}{a:List U}{r:U}(h:It c s a)(hc:iP c s=true)(hr:r.k=0):FI c s a r=.tuple [.bool (decide (r=fq c s a)),I 0]:=by
 obtain⟨k,b⟩:=r;cases hr;cases h with
 |put l n h=>
  cases h
  ·exact wT (x:=.var 11) (e:=.lit 0) rfl rfl rfl
  ·exact wT (x:=.var 11) (e:=.lit 0) rfl rfl rfl
  ·exact wT (x:=.var 11) (e:=.lit 0) rfl rfl rfl
  ·exact wT (x:=.var 11) (e:=.lit 0) rfl rfl rfl
 |get l h=>
  cases h
  ·exact absurd hc (by decide)
  ·exact wT (x:=.var 11) (e:=.var 3) rfl rfl rfl
  ·exact wT (x:=.var 11) (e:=.var 3) rfl rfl rfl
  ·exact wT (x:=.var 11) (e:=.var 3) rfl rfl rfl
 |inc m=>exact wT (x:=.var 11) (e:=.bin .add .i64 (.var 1) (.lit 1)) rfl rfl ((dx ..).symm)
 |readC m=>exact wT (x:=.var 11) (e:=.var 1) rfl rfl rfl
 |add m n=>exact wT (x:=.var 11) (e:=.bin .add .i64 (.var 1) (.var 9)) rfl rfl ((dx ..).symm)
 |write m n=>exact wT (x:=.var 11) (e:=.lit 0) rfl rfl rfl
 |readR m=>exact wT (x:=.var 11) (e:=.var 1) rfl rfl rfl
theorem azh{c:aX}{s:St}{a:List U}{r:U}(h:It c s a)(hc:iP c s=true):On c s a r=.tuple [.agg (eS (fG c s a)),I 0]:=by
 cases h with
 |put l n h=>cases h<;>rfl
 |get l h=>cases h<;>first|exact absurd hc (by decide)|rfl
 |inc m=>show AV.tuple [.agg [I 0,I (IntKind.i64.wrap (m+1)),.str 0 0,.nils],I 0]=.tuple [.agg [I 0,I (bG .i64 (m+1)),.str 0 0,.nils],I 0];rw[dx]
 |readC m=>rfl
 |add m n=>show AV.tuple [.agg [I 0,I (IntKind.i64.wrap (m+n)),.str 0 0,.nils],I 0]=.tuple [.agg [I 0,I (bG .i64 (m+n)),.str 0 0,.nils],I 0];rw[dx]
 |write m n=>rfl
 |readR m=>rfl
theorem aBO:XF K0 where
 can c s a hs ha:=by
  have h:=aEa (It.of hs ha);refine⟨?_,?_⟩
  ·show Ro (aad c s a)=0;rw[h];rfl
  ·show adY (aad c s a)=_;rw[h];rfl
 hold c s a r hs ha hc hr:=by
  have h:=ats (r:=r) (It.of hs ha) hc hr;refine⟨?_,?_⟩
  ·show Ro (FI c s a r)=0;rw[h];rfl
  ·show adY (FI c s a r)=_;rw[h];rfl
 next c s a r hs ha hc hr:=by
  have h:=azh (r:=r) (It.of hs ha) hc;refine⟨?_,?_⟩
  ·show Ro (On c s a r)=0;rw[h];rfl
  ·show aiZ (On c s a r)=_;rw[h];clear h;cases It.of hs ha with
   |put l n q=>cases q<;>rfl
   |get l q=>cases q<;>rfl
   |_=>rfl
end Ln
