/- A part of the proof. No condition. -/
import Derived.Test.YtecbfpngkfdkoaaGreatP16
import Derived.Test.YtecbfpngkfdkoaaGreatP15
import Derived.Test.YtecbfpngkfdkoaaGreatP9
import Derived.Test.YtecbfpngkfdkoaaGreatP20
import Derived.Test.YtecbfpngkfdkoaaGreatP21
import Derived.Test.YtecbfpngkfdkoaaGreatP17
import Derived.Test.YtecbfpngkfdkoaaGreatP18
set_option linter.unusedSimpArgs false
set_option linter.unusedVariables false
set_option linter.unusedSectionVars false
namespace Ln
open Go.Sx Go
theorem as7{n:Nat}{p:Nat→Bool}{q:Nat}(hq:q<n)(h:p q=false):(List.range n).all p=false:=by rw[List.all_eq_false];exact⟨q,List.mem_range.2 hq,by simp[h]⟩
theorem aph{n:Nat}{p:Nat→Bool}(h:∀q,q<n→p q=true):(List.range n).all p=true:=xM.2 fun q hq=>h q (List.mem_range.1 hq)
theorem as8{j:Nat}{p:Nat→Prop}(h:∀q,q<j→p q)(hj:p j):∀q,q<j+1→p q:=fun q hq=>by
 by_cases e:q=j
 ·subst e;exact hj
 ·exact h q (by omega)
variable{C:bH}{X:Kn}(S:Std C X)
def ayX(os:List Op)(k d q:Nat):Bool:=q==k || !(before (os.getD q default) (os.getD k default)&&decide (0≤(os.getD q default).e) && !d.testBit q) && !(d.testBit q&&before (os.getD k default) (os.getD q default))
include S
end Ln
namespace Ln
open Go.Sx Go
def eC(c:Cf St):List AV:=[I c.1,I c.2.k,I c.2.n,.str 0 0,aC c.2.kids]
theorem xc:Flat 5 eC where
 len _:=rfl
 zD x y hy:=by
  simp[eC]at hy;rcases hy with rfl|rfl|rfl|rfl|rfl
  ·exact cX _ _
  ·exact cX _ _
  ·exact cX _ _
  ·exact gF _ _
  ·exact dY _
 cell x y hy:=by simp[eC]at hy;rcases hy with rfl|rfl|rfl|rfl|rfl<;>first|rfl|exact(cG _).1
 lits x:=by simp[eC,AV.dA,AV.lits,xY,I]
theorem SQ(z:Cf St)(H:T ai):aY (aO 9998) (eC z) H=(eC z,H):=bw (xc.zD _)
theorem aek(z:Cf St):List.take 5 (eC z)=eC z:=rfl
theorem DL(z:Cf St):(eC z).length=5:=rfl
theorem S0(z:Cf St):(eC z).all AV.aQ=true:=xM.2 (xc.cell z)
variable{C:bH}{X:Kn}(S:Std C X)
include S
end Ln
namespace Ln
open Go.Sx Go
def ZW(s:St):Bool:=decide ((s.k=0∧s.kids=[]∨s.k=1∧(s.n=0∨s.n=1)∧s.kids=[])∨s.k=2∧s.n=0∧s.kids.all sC=true)
noncomputable def sP(l:List (Cf St)):List (Cf St):=l.mergeSort (fun a b=>decide (a.1<b.1∨a.1=b.1∧qS a.2 b.2≤0))
structure Na(C:bH):Prop where
 Jb:Fn C pJ Gk
 DK:Fn C lg Bi
 vt:Fn C bD ql
 vw:Fn C gf qn
 sS:Fn C dG pn
 vz:Fn C ef qo
 xj:Fn C dz r9
 yp:Fn C fO nM
 zY:Fn C cW wj
 yq:Fn C ig tR
 yF:Fn C fP nN
 Mb:Fn C ru Kj
 Tm:Fn C yT Tn
 Jd:Fn C jz Gz
 nP:Fn C dv yM
 Tp:Fn C gB Tq
 aaL:∀s:St,s.kids.length≤3→∀h nx,C.sum dM [.agg (eS s)] h nx=some (I (if ZW s=true then 0 else 1),h,nx)
 am4:∀(l:List (Cf St)) (b:Key) (h:T ai) (nx:Key),(∀y∈l,y.2.kids.length≤3)→l.Nodup→l.length≤1024→ag b h=Qz (ak eC l)→C.sum cd [.slice b 0 l.length 5,.fn fR [] []] h nx=some (.tuple [],au b (Qz (ak eC (sP l))) h,nx)
def zzV:AV:=.str 2 31354
end Ln
namespace Ln
open Go.Sx Go Go.Proofs
def T0(b:Nat)(t:DT):DT:=.ask .eql (.var b) (.lit 0) t (.ask .eql (.var b) (.lit 1) (.ask .eql (.var (b+1)) (.lit 0) t (.ask .eql (.var (b+1)) (.lit 1) t (.leaf (I 1)))) (.ask .eql (.var b) (.lit 2) (.ask .eql (.var (b+1)) (.lit 0) t (.leaf (I 1))) (.leaf (I 1))))
def aDH:Nat→Nat→DT→DT
 |0,_,t=>t
 |n+1,b,t=>T0 b (aDH n (b+2) t)
def aDI:Nat→DT
 |0=>T0 0 (.leaf (I 0))
 |n+1=>.ask .eql (.var 0) (.lit 2) (.ask .eql (.var 1) (.lit 0) (aDH (n+1) 2 (.leaf (I 0))) (.leaf (I 1))) (.leaf (I 1))
theorem DC{ρ:Nat→Int}{b:Nat}{t:DT}{u:U}(h0:ρ b=u.k)(h1:ρ (b+1)=u.n):(T0 b t).val ρ=if sC u=true then t.val ρ else I 1:=by
 obtain⟨k,n⟩:=u;have d0:(SI.var b).den ρ=k:=h0;have d1:(SI.var (b+1)).den ρ=n:=h1;have dl:∀z:Int,(SI.lit z).den ρ=z:=fun _=>rfl;unfold T0;simp only[DT.val,Cq,d0,d1,dl];by_cases h0:k=0
 ·simp[h0,sC]
 ·by_cases h1:k=1
  ·by_cases n0:n=0
   ·simp[h1,n0,sC]
   ·by_cases n1:n=1
    ·simp[h1,n1,sC]
    ·simp[h1,n0,n1,sC];rfl
  ·by_cases h2:k=2
   ·by_cases n0:n=0
    ·simp[h2,n0,sC]
    ·simp[h2,n0,sC];rfl
   ·simp[h0,h1,h2,sC];rfl
theorem as9(ρ:Nat→Int):(DT.leaf (I 0)).val ρ=I 0:=rfl
theorem api{s:St}(hs:s.kids.length≤3):(aDI s.kids.length).val (xQ s s)=I (if ZW s=true then 0 else 1):=by
 obtain⟨k,n,l⟩:=s;have dl:∀(ρ:Nat→Int) (z:Int),(SI.lit z).den ρ=z:=fun _ _=>rfl
 match l,hs with
 | [],_=>
  show(T0 0 (.leaf (I 0))).val _=_;rw[DC (u:=⟨k,n⟩) rfl rfl,as9];by_cases h:sC ⟨k,n⟩=true
  ·have h2:=h;unfold sC at h;rw[decide_eq_true_eq]at h;have:ZW ⟨k,n,[]⟩=true:=by
    unfold ZW;rw[decide_eq_true_eq];rcases h with h|h|h
    ·exact .inl (.inl ⟨h,rfl⟩)
    ·exact .inl (.inr ⟨h.1,h.2,rfl⟩)
    ·exact .inr ⟨h.1,h.2,rfl⟩
   rw[if_pos h2,if_pos this]
  ·have:¬ZW ⟨k,n,[]⟩=true:=by
    intro q;apply h;unfold ZW at q;unfold sC;rw[decide_eq_true_eq]at q ⊢;rcases q with(q|q)|q
    ·exact .inl q.1
    ·exact .inr (.inl ⟨q.1,q.2.1⟩)
    ·exact .inr (.inr ⟨q.1,q.2.1⟩)
   rw[if_neg h,if_neg this]
 | [⟨a,b⟩],_=>
  have d0:(SI.var 0).den (xQ ⟨k,n,[⟨a,b⟩]⟩ ⟨k,n,[⟨a,b⟩]⟩)=k:=rfl;have d1:(SI.var 1).den (xQ ⟨k,n,[⟨a,b⟩]⟩ ⟨k,n,[⟨a,b⟩]⟩)=n:=rfl;show(DT.ask .eql (.var 0) (.lit 2) (.ask .eql (.var 1) (.lit 0) (T0 2 (.leaf (I 0))) (.leaf (I 1))) (.leaf (I 1))).val _=_;simp only[DT.val,Cq,d0,d1,dl];rw[DC (b:=2) (u:=⟨a,b⟩) rfl rfl];unfold ZW;by_cases h2:k=2
  ·by_cases n0:n=0
   ·by_cases q0:sC ⟨a,b⟩=true
    ·simp[h2,n0,q0,DT.val]<;>rfl
    ·simp[h2,n0,q0]<;>rfl
   ·simp[h2,n0]<;>rfl
  ·simp[h2]<;>rfl
 | [⟨a,b⟩,⟨c,d⟩],_=>
  have d0:(SI.var 0).den (xQ ⟨k,n,[⟨a,b⟩,⟨c,d⟩]⟩ ⟨k,n,[⟨a,b⟩,⟨c,d⟩]⟩)=k:=rfl;have d1:(SI.var 1).den (xQ ⟨k,n,[⟨a,b⟩,⟨c,d⟩]⟩ ⟨k,n,[⟨a,b⟩,⟨c,d⟩]⟩)=n:=rfl;show(DT.ask .eql (.var 0) (.lit 2) (.ask .eql (.var 1) (.lit 0) (T0 2 (T0 4 (.leaf (I 0)))) (.leaf (I 1))) (.leaf (I 1))).val _=_;simp only[DT.val,Cq,d0,d1,dl];rw[DC (b:=2) (u:=⟨a,b⟩) rfl rfl,DC (b:=4) (u:=⟨c,d⟩) rfl rfl];unfold ZW;by_cases h2:k=2
  ·by_cases n0:n=0
   ·by_cases q0:sC ⟨a,b⟩=true
    ·by_cases q1:sC ⟨c,d⟩=true
     ·simp[h2,n0,q0,q1,DT.val]<;>rfl
     ·simp[h2,n0,q0,q1]<;>rfl
    ·simp[h2,n0,q0]<;>rfl
   ·simp[h2,n0]<;>rfl
  ·simp[h2]<;>rfl
 | [⟨a,b⟩,⟨c,d⟩,⟨e,f⟩],_=>
  have d0:(SI.var 0).den (xQ ⟨k,n,[⟨a,b⟩,⟨c,d⟩,⟨e,f⟩]⟩ ⟨k,n,[⟨a,b⟩,⟨c,d⟩,⟨e,f⟩]⟩)=k:=rfl;have d1:(SI.var 1).den (xQ ⟨k,n,[⟨a,b⟩,⟨c,d⟩,⟨e,f⟩]⟩ ⟨k,n,[⟨a,b⟩,⟨c,d⟩,⟨e,f⟩]⟩)=n:=rfl;show(DT.ask .eql (.var 0) (.lit 2) (.ask .eql (.var 1) (.lit 0) (T0 2 (T0 4 (T0 6 (.leaf (I 0))))) (.leaf (I 1))) (.leaf (I 1))).val _=_;simp only[DT.val,Cq,d0,d1,dl];rw[DC (b:=2) (u:=⟨a,b⟩) rfl rfl,DC (b:=4) (u:=⟨c,d⟩) rfl rfl,DC (b:=6) (u:=⟨e,f⟩) rfl rfl];unfold ZW;by_cases h2:k=2
  ·by_cases n0:n=0
   ·by_cases q0:sC ⟨a,b⟩=true
    ·by_cases q1:sC ⟨c,d⟩=true
     ·by_cases q2:sC ⟨e,f⟩=true
      ·simp[h2,n0,q0,q1,q2,DT.val]<;>rfl
      ·simp[h2,n0,q0,q1,q2]<;>rfl
     ·simp[h2,n0,q0,q1]<;>rfl
    ·simp[h2,n0,q0]<;>rfl
   ·simp[h2,n0]<;>rfl
  ·simp[h2]<;>rfl
 |_ ::_ ::_ ::_ ::l,h=>exact absurd h (by simp)
def aiu:Nat→aI
 |0=>aiv
 |1=>aiw
 |2=>aix
 |_=>aiy
theorem ata{n:Nat}(h:S4 n):aI.cn (CF aL) 159 (aiu n) ⟨ah 159 (fx 159) [stS 0 n],[],.nil,bz⟩ [] []=true:=by
 cases h
 ·exact akn
 ·exact ako
 ·exact akp
 ·exact akq
theorem atb{n:Nat}(h:S4 n):DT.same (aiu n).dt (aDI n) []=true:=by cases h<;>kernel_rfl
def Ik:FW:=⟨159,QK,fun q=>[.agg (eS q.s)],fun q=>I (if ZW q.s=true then 0 else 1),by intro q p h;simp only[List.cons.injEq,and_true]at h;rw[FV h]⟩
theorem Y8:jJ Tryz.prog .nil Ik:=by
 refine⟨⟨_,iO (n:=159) (by decide)⟩,fun q=>?_⟩;have h1:=Pb q.hs;have h:=cU (f:=159) (by decide) (avx h1) (ata h1) (xQ q.s q.s);rw[DT.uJ (ρ:=xQ q.s q.s) (atb h1) trivial,api q.hs]at h;have e:AV.ep (xQ q.s q.s) [stS 0 q.s.kids.length]=[.agg (eS q.s)]:=by show [_]=_;rw[sub_one q.hs]
 rw[e]at h;exact h
theorem aDy(u:U):ZW ⟨u.k,u.n,[]⟩=sC u:=by
 rw[Bool.eq_iff_iff];unfold ZW sC;rw[decide_eq_true_eq,decide_eq_true_eq];constructor
 ·rintro((q|q)|q)
  ·exact .inl q.1
  ·exact .inr (.inl ⟨q.1,q.2.1⟩)
  ·exact .inr (.inr ⟨q.1,q.2.1⟩)
 ·rintro(h|h|h)
  ·exact .inl (.inl ⟨h,rfl⟩)
  ·exact .inl (.inr ⟨h.1,h.2,rfl⟩)
  ·exact .inr ⟨h.1,h.2,rfl⟩
structure QJ where
 i:Nat
 lt:i<4
def nmZ:Nat→AV
 |3=>zzV
 |i=>fD i
def awG:Nat→AV
 |3=>.tuple [.agg av0,.bool false]
 |i=>.tuple [.agg (xP i),.bool true]
theorem X7:∀{i j:Nat},i<4→j<4→nmZ i=nmZ j→i=j:=by
 intro i j hi hj h;have PJ:i=0∨i=1∨i=2∨i=3:=by omega
 have hj':j=0∨j=1∨j=2∨j=3:=by omega
 rcases PJ with rfl|rfl|rfl|rfl<;>rcases hj' with rfl|rfl|rfl|rfl<;>first|rfl|(exfalso;simp[nmZ,zzV,fD,Nj]at h)
def ac3:FW:=⟨129,QJ,fun q=>[vM,I 4,nmZ q.i],fun q=>awG q.i,by intro q p h;simp only[List.cons.injEq,true_and,and_true]at h;rw[X7 q.lt p.lt h]⟩
theorem RE:jJ Tryz.prog .nil ac3:=by
 refine⟨⟨_,iO (n:=129) (by decide)⟩,fun q=>?_⟩;obtain⟨i,hi⟩:=q;have h:=Re
 match i,hi with
 |0,_=>exact h.1
 |1,_=>exact h.2.1
 |2,_=>exact h.2.2.1
 |3,_=>exact h.2.2.2.1
def KB:FW:=⟨71,QJ,fun q=>[vM,I 4,nmZ q.i],fun q=>awG q.i,by intro q p h;simp only[List.cons.injEq,true_and,and_true]at h;rw[X7 q.lt p.lt h]⟩
theorem VL:jJ Tryz.prog .nil KB:=by
 refine⟨⟨_,iO (n:=71) (by decide)⟩,fun q=>?_⟩;obtain⟨i,hi⟩:=q;have h:=ag3
 match i,hi with
 |0,_=>exact h.1
 |1,_=>exact h.2.1
 |2,_=>exact h.2.2.1
 |3,_=>exact h.2.2.2.1
def ET(s:St)(a:List U)(r:U):Nat→Int:=J3 [match s.kids with | []=>s.n|u ::_=>u.n,(kid s.kids 1).n,(kid s.kids 2).n,0,0,0,0,0,(kid a 0).n,0,r.n]
theorem It.sh{c:aX}{s:St}{a:List U}(h:It c s a):Sh c s.kids.length:=by
 cases h with
 |put l n h=>cases h<;>constructor
 |get l h=>cases h<;>constructor
 |_=>constructor
theorem It.len{c:aX}{s:St}{a:List U}(h:It c s a):a.length=c.ar:=by cases h<;>rfl
theorem aBN{c:aX}{s:St}{a:List U}(r:U)(h:It c s a):AV.ep (ET s a r) (ahd c s.kids.length)=Bg c s a:=by
 cases h with
 |put l n h=>cases h<;>rfl
 |get l h=>cases h<;>rfl
 |_=>rfl
theorem aug{c:aX}{s:St}{a:List U}(r:U)(hr:r.k=0)(h:It c s a):AV.ep (ET s a r) (aam c s.kids.length)=Np c s a r:=by
 obtain⟨k,b⟩:=r;cases hr;cases h with
 |put l n h=>cases h<;>rfl
 |get l h=>cases h<;>rfl
 |_=>rfl
theorem auj{c:aX}{s:St}{a:List U}(r:U)(h:It c s a):AV.ep (ET s a r) (aan c s.kids.length)=BQ c s a:=by
 cases h with
 |put l n h=>cases h<;>rfl
 |get l h=>cases h<;>rfl
 |_=>rfl
theorem amo{c:aX}{s:St}{a:List U}(h:It c s a):(fq c s a).k=0:=by
 cases h with
 |put l n h=>rfl
 |get l h=>cases h<;>rfl
 |_=>rfl
theorem amn(p:Bool)(c:aX):AV.lits (exT p c)=true:=by cases p<;>cases c<;>kernel_rfl
inductive T3 where
 |n|s|l
def exE:T3→aX→AV
 |.n,c=>zJ 9 (Y0.cmd c)
 |.s,c=>zJ 0 (Y0.act c)
 |.l,c=>zJ 7 (Y0.act c)
def kX:T3→aX→Int
 |.n,c=>kV .en c
 |.s,c=>kV .es c
 |.l,c=>kV .el c
theorem aui(t:T3)(c:aX):kE (exE t c)=kX t c:=by cases t<;>cases c<;>kernel_rfl
theorem ad7(t:T3)(c:aX):AV.lits (exE t c)=true:=by cases t<;>cases c<;>kernel_rfl
def exI(b:Bool)(i:Nat):AV:=zJ 29 (bif b then DI i else xP i)
def kJ(b:Bool)(i:Nat):Int:=kI (bif b then .is else .im) i
theorem ams(b:Bool){i:Nat}(h:i<3):kE (exI b i)=kJ b i∧AV.lits (exI b i)=true:=by
 have hi:i=0∨i=1∨i=2:=by omega
 rcases hi with rfl|rfl|rfl<;>cases b<;>exact⟨by kernel_rfl,by kernel_rfl⟩
theorem awC{p p':Bool}{c c':aX}(h:kT p c=kT p' c'):p=p'∧c=c':=by cases p<;>cases p'<;>cases c<;>cases c'<;>first|exact⟨rfl,rfl⟩|exact absurd h (by decide)
theorem awE{t t':T3}{c c':aX}(h:kX t c=kX t' c'):t=t'∧c=c':=by cases t<;>cases t'<;>cases c<;>cases c'<;>first|exact⟨rfl,rfl⟩|exact absurd h (by decide)
theorem awD{b b':Bool}{i i':Nat}(hi:i<3)(PJ:i'<3)(h:kJ b i=kJ b' i'):i=i':=by
 have h1:i=0∨i=1∨i=2:=by omega
 have h2:i'=0∨i'=1∨i'=2:=by omega
 rcases h1 with rfl|rfl|rfl<;>rcases h2 with rfl|rfl|rfl<;>cases b<;>cases b'<;>first|rfl|exact absurd h (by decide)
theorem aG2{c:aX}{s:St}{a:List U}(r:U)(h:It c s a):(qTP c s.kids.length).dt.val (ET s a r)=.tuple [.bool (iP c s),I 0]:=by
 cases h with
 |put l n h=>cases h<;>rfl
 |get l h=>cases h<;>rfl
 |inc m=>
  by_cases q:m<99
  ·have e:holds (ET ⟨0,m,[]⟩ [] r) .lss (.var 0) (.lit 99)=true:=by simp[holds,fC,ah3,ah4];exact decide_eq_true q
   show DT.val _ (DT.ask .lss (.var 0) (.lit 99) (.leaf (.tuple [.bool true,I 0])) (.leaf (.tuple [.bool false,I 0])))=_;simp only[DT.val,e,iP,decide_eq_true q];rfl
  ·have e:holds (ET ⟨0,m,[]⟩ [] r) .lss (.var 0) (.lit 99)=false:=by simp[holds,fC,ah3,ah4];exact decide_eq_false q
   show DT.val _ (DT.ask .lss (.var 0) (.lit 99) (.leaf (.tuple [.bool true,I 0])) (.leaf (.tuple [.bool false,I 0])))=_;simp only[DT.val,e,iP,decide_eq_false q];rfl
 |readC m=>rfl
 |add m n=>rfl
 |write m n=>rfl
 |readR m=>rfl
theorem wK{ρ:Nat→Int}{d:DT}{x e:SI}(h:d.val ρ=(asB x e).val ρ)(hx:x.den ρ=e.den ρ):d.val ρ=.tuple [.bool true,I 0]:=by rw[h,abI,decide_eq_true hx]
theorem aG3{c:aX}{s:St}{a:List U}(h:It c s a)(hc:iP c s=true):(qTQ c s.kids.length).dt.val (ET s a (fq c s a))=.tuple [.bool true,I 0]:=by
 cases h with
 |put l n h=>
  cases h
  ·exact wK (x:=.var 10) (e:=.lit 0) rfl rfl
  ·exact wK (x:=.var 10) (e:=.lit 0) rfl rfl
  ·exact wK (x:=.var 10) (e:=.lit 0) rfl rfl
  ·exact wK (x:=.var 10) (e:=.lit 0) rfl rfl
 |get l h=>
  cases h
  ·exact absurd hc (by decide)
  ·exact wK (x:=.var 10) (e:=.var 0) rfl rfl
  ·exact wK (x:=.var 10) (e:=.var 0) rfl rfl
  ·exact wK (x:=.var 10) (e:=.var 0) rfl rfl
 |inc m=>exact wK (x:=.var 10) (e:=.bin .add .i64 (.var 0) (.lit 1)) rfl (dx .i64 (m+1))
 |readC m=>exact wK (x:=.var 10) (e:=.var 0) rfl rfl
 |add m n=>exact wK (x:=.var 10) (e:=.bin .add .i64 (.var 0) (.var 8)) rfl (dx .i64 (m+n))
 |write m n=>exact wK (x:=.var 10) (e:=.lit 0) rfl rfl
 |readR m=>exact wK (x:=.var 10) (e:=.var 0) rfl rfl
def qE:T3→aX→Nat→aI
 |.n=>qEN
 |.s=>qES
 |.l=>qEL
def rE(t:T3)(c:aX)(s:St)(a:List U):List AV:=match t with
 |.l=>eU (fq c s a)
 |_=>eS (fG c s a)
theorem e_F{t:T3}{c:aX}{s:St}{a:List U}(r:U)(h:It c s a)(hc:iP c s=true):(qE t c s.kids.length).dt.val (ET s a r)=.tuple [.agg (rE t c s a),I 0]:=by
 cases h with
 |put l n h=>cases h<;>first|exact absurd hc (by decide)|(cases t<;>rfl)
 |get l h=>cases h<;>first|exact absurd hc (by decide)|(cases t<;>rfl)
 |inc m=>
  have e:AV.tuple [.agg [I 0,I (IntKind.i64.wrap (m+1)),.str 0 0,.nils],I 0]=.tuple [.agg [I 0,I (bG .i64 (m+1)),.str 0 0,.nils],I 0]:=by rw[dx]
  cases t<;>exact e
 |readC m=>cases t<;>rfl
 |add m n=>
  have e:AV.tuple [.agg [I 0,I (IntKind.i64.wrap (m+n)),.str 0 0,.nils],I 0]=.tuple [.agg [I 0,I (bG .i64 (m+n)),.str 0 0,.nils],I 0]:=by rw[dx]
  cases t<;>exact e
 |write m n=>cases t<;>rfl
 |readR m=>cases t<;>rfl
structure QTr where
 p:Bool
 c:aX
 s:St
 a:List U
 h:It c s a
 hc:p=true→iP c s=true
def arb(p:Bool)(c:aX)(s:St)(a:List U):AV:=match p with
 |true=>.sl (Np c s a (fq c s a)) (1+a.length+1) 5 .any
 |false=>.sl (Bg c s a) (1+a.length) 5 .any
def aG1(p:Bool)(c:aX)(s:St):AV:=match p with
 |true=>.tuple [.bool true,I 0]
 |false=>.tuple [.bool (iP c s),I 0]
theorem aml{c:aX}{s s':St}{a a':List U}{l l':List AV}(h:Bg c s a++l=Bg c s' a'++l'):s=s':=by apply FV;simp only[Bg,xR,eS,List.cons_append,List.cons.injEq,List.nil_append]at h;obtain⟨_,h1,h2,_,h4,_⟩:=h;simp only[eS,h1,h2,h4]
def ahp:FW:=⟨174,QTr,fun q=>[vM,arb q.p q.c q.s q.a,exT q.p q.c,dp],fun q=>aG1 q.p q.c q.s,by
 intro q q' h;obtain⟨p,c,s,a,h1,h2⟩:=q;obtain⟨p',c',s',a',qR,DF⟩:=q';simp only[List.cons.injEq,true_and,and_true]at h;obtain⟨he,hx⟩:=h;have hk:kT p c=kT p' c':=by rw[←at4,←at4,hx]
 obtain⟨rfl,rfl⟩:=awC hk;cases p
 ·simp only[arb,AV.sl.injEq]at he;have:s=s':=aml (l:=[]) (l':=[]) (by rw[List.append_nil,List.append_nil];exact he.1);subst this;rfl
 ·rfl⟩
theorem amm:jJ Tryz.prog .nil ahp:=by
 refine⟨⟨_,iO (n:=174) (by decide)⟩,fun q=>?_⟩;obtain⟨p,c,s,a,h1,h2⟩:=q;have hl:=h1.len;cases p
 ·have h:=cU (f:=174) (by decide) (zTP h1.sh) (kTP h1.sh) (ET s a yu);rw[aG2 yu h1]at h;have e:AV.ep (ET s a yu) (aTP c s.kids.length)=[vM,arb false c s a,exT false c,dp]:=by show [AV.sub _ vM,.sl (AV.ep _ (ahd c s.kids.length)) (1+c.ar) 5 .any,AV.sub _ (exT false c),dp]=_;rw[dJ _ re,dJ _ (amn _ c),aBN yu h1,←hl];rfl
  rw[e]at h;exact h
 ·have h:=cU (f:=174) (by decide) (zTQ h1.sh) (kTQ h1.sh) (ET s a (fq c s a));rw[aG3 h1 (h2 rfl)]at h;have e:AV.ep (ET s a (fq c s a)) (aTQ c s.kids.length)=[vM,arb true c s a,exT true c,dp]:=by show [AV.sub _ vM,.sl (AV.ep _ (aam c s.kids.length)) (1+c.ar+1) 5 .any,AV.sub _ (exT true c),dp]=_;rw[dJ _ re,dJ _ (amn _ c),aug _ (amo h1) h1,←hl];rfl
  rw[e]at h;exact h
structure QIn where
 b:Bool
 i:Nat
 lt:i<3
structure QX where
 t:T3
 c:aX
 s:St
 a:List U
 h:It c s a
 hc:iP c s=true
def RB(t:T3)(c:aX)(s:St)(a:List U):AV:=match t with
 |.n=>.sl (Np c s a (fq c s a)) (1+a.length+1) 5 .any
 |_=>.sl (BQ c s a) (2+a.length) 5 .any
def amp:QIn ⊕ QX→List AV
 |.inl q=>[vM,.nils,exI q.b q.i,dp,zN]
 |.inr q=>[vM,RB q.t q.c q.s q.a,exE q.t q.c,dp,zN]
def aG5:QIn ⊕ QX→AV
 |.inl q=>.tuple [.agg (eS (aJ q.i)),I 0]
 |.inr q=>.tuple [.agg (rE q.t q.c q.s q.a),I 0]
theorem amq{c:aX}{s s':St}{a a':List U}(h:BQ c s a=BQ c s' a'):s=s':=by apply FV;simp only[BQ,xR,eS,List.cons_append,List.cons.injEq,List.nil_append]at h;obtain⟨_,h1,h2,_,h4,_⟩:=h;simp only[eS,h1,h2,h4]
theorem ad6{c:aX}{s:St}{a a':List U}(h1:It c s a)(h2:It c s a'){l l':List AV}(h:PI c a++l=PI c a'++l'):a=a':=by cases h1<;>cases h2<;>first|rfl|(simp only[PI,xR,eU,I,List.cons_append,List.cons.injEq,AV.int.injEq,SI.lit.injEq]at h;obtain⟨_,_,⟨_,h⟩,_⟩:=h;rw[h])
theorem amr{t:T3}{c:aX}{s s':St}{a a':List U}(h1:It c s a)(h2:It c s' a')(h:RB t c s a=RB t c s' a'):s=s'∧a=a':=by
 cases t
 ·simp only[RB,AV.sl.injEq]at h;have e:=h.1;have hs:s=s':=aml e;subst hs;refine⟨rfl,ad6 h1 h2 (l:=xR 114 (eU (fq c s a))) (l':=xR 114 (eU (fq c s a'))) ?_⟩;simp only[Np,Bg,List.append_assoc]at e;exact List.append_cancel_left e
 ·simp only[RB,AV.sl.injEq]at h;have e:=h.1;have hs:s=s':=amq e;subst hs;refine⟨rfl,ad6 h1 h2 (l:=[]) (l':=[]) ?_⟩;simp only[BQ,List.append_assoc]at e;rw[List.append_nil,List.append_nil];exact List.append_cancel_left (List.append_cancel_left e)
 ·simp only[RB,AV.sl.injEq]at h;have e:=h.1;have hs:s=s':=amq e;subst hs;refine⟨rfl,ad6 h1 h2 (l:=[]) (l':=[]) ?_⟩;simp only[BQ,List.append_assoc]at e;rw[List.append_nil,List.append_nil];exact List.append_cancel_left (List.append_cancel_left e)
theorem ahq(t:T3)(c:aX)(s:St)(a:List U):AV.nils≠RB t c s a:=by cases t<;>simp[RB]
def RC:FW:=⟨169,QIn ⊕ QX,amp,aG5,by
 intro q q' h;cases q with
 |inl q=>
  obtain⟨b,i,hi⟩:=q;cases q' with
  |inl q'=>
   obtain⟨b',i',PJ⟩:=q';simp only[amp,List.cons.injEq,true_and,and_true]at h;have hk:kJ b i=kJ b' i':=by rw[←(ams b hi).1,←(ams b' PJ).1,h]
   obtain rfl:=awD hi PJ hk;rfl
  |inr q'=>simp only[amp,List.cons.injEq,true_and]at h;exact(ahq _ _ _ _ h.1).elim
 |inr q=>
  obtain⟨t,c,s,a,h1,h2⟩:=q;cases q' with
  |inl q'=>simp only[amp,List.cons.injEq,true_and]at h;exact(ahq _ _ _ _ h.1.symm).elim
  |inr q'=>
   obtain⟨t',c',s',a',qR,DF⟩:=q';simp only[amp,List.cons.injEq,true_and,and_true]at h;obtain⟨he,hx⟩:=h;have hk:kX t c=kX t' c':=by rw[←aui,←aui,hx]
   obtain⟨rfl,rfl⟩:=awE hk;obtain⟨rfl,rfl⟩:=amr h1 qR he;rfl⟩
theorem awF(b:Bool){i:Nat}(hi:i<3):(bif b then qIS i else qIM i).dt.val (J3 [])=.tuple [.agg (eS (aJ i)),I 0]:=by
 have h1:i=0∨i=1∨i=2:=by omega
 rcases h1 with rfl|rfl|rfl<;>cases b<;>rfl
theorem amt:jJ Tryz.prog .nil RC:=by
 refine⟨⟨_,iO (n:=169) (by decide)⟩,fun q=>?_⟩;cases q with
 |inl q=>
  obtain⟨b,i,hi⟩:=q;have hv:=awF b hi;have hx:AV.sub (J3 []) (exI b i)=exI b i:=dJ _ (ams b hi).2;have e:AV.ep (J3 []) [vM,.nils,exI b i,dp,zN]=[vM,.nils,exI b i,dp,zN]:=by show [AV.sub _ vM,.nils,AV.sub _ (exI b i),dp,zN]=_;rw[dJ _ re,hx]
  cases b
  ·have h:=cU (f:=169) (by decide) (kIM hi).2 (kIM hi).1 (J3 []);rw[show(qIM i).dt.val (J3 [])=_ from hv]at h;rw[show AV.ep (J3 []) (aIM i)=_ from e]at h;exact h
  ·have h:=cU (f:=169) (by decide) (kIS hi).2 (kIS hi).1 (J3 []);rw[show(qIS i).dt.val (J3 [])=_ from hv]at h;rw[show AV.ep (J3 []) (aIS i)=_ from e]at h;exact h
 |inr q=>
  obtain⟨t,c,s,a,h1,h2⟩:=q;have hl:=h1.len;have hv:=e_F (t:=t) (fq c s a) h1 h2;cases t
  ·have h:=cU (f:=169) (by decide) (zEN h1.sh) (kEN h1.sh) (ET s a (fq c s a));rw[show(qEN c s.kids.length).dt.val _=_ from hv]at h;have e:AV.ep (ET s a (fq c s a)) (aEN c s.kids.length)=[vM,RB .n c s a,exE .n c,dp,zN]:=by show [AV.sub _ vM,.sl (AV.ep _ (aam c s.kids.length)) (1+c.ar+1) 5 .any,AV.sub _ (exE .n c),dp,zN]=_;rw[dJ _ re,dJ _ (ad7 _ c),aug _ (amo h1) h1,←hl];rfl
   rw[e]at h;exact h
  ·have h:=cU (f:=169) (by decide) (zES h1.sh) (kES h1.sh) (ET s a (fq c s a));rw[show(qES c s.kids.length).dt.val _=_ from hv]at h;have e:AV.ep (ET s a (fq c s a)) (aES c s.kids.length)=[vM,RB .s c s a,exE .s c,dp,zN]:=by show [AV.sub _ vM,.sl (AV.ep _ (aan c s.kids.length)) (2+c.ar) 5 .any,AV.sub _ (exE .s c),dp,zN]=_;rw[dJ _ re,dJ _ (ad7 _ c),auj _ h1,←hl];rfl
   rw[e]at h;exact h
  ·have h:=cU (f:=169) (by decide) (zEL h1.sh) (kEL h1.sh) (ET s a (fq c s a));rw[show(qEL c s.kids.length).dt.val _=_ from hv]at h;have e:AV.ep (ET s a (fq c s a)) (aEL c s.kids.length)=[vM,RB .l c s a,exE .l c,dp,zN]:=by show [AV.sub _ vM,.sl (AV.ep _ (aan c s.kids.length)) (2+c.ar) 5 .any,AV.sub _ (exE .l c),dp,zN]=_;rw[dJ _ re,dJ _ (ad7 _ c),auj _ h1,←hl];rfl
   rw[e]at h;exact h
def kN:List AV→Nat
 |.sl _ n _ _ ::_=>n
 |_=>0
def nC(c:aX):Nat:=match c.fZ with
 |1=>3
 |_=>2
theorem ahr(c:aX):kN (aNC c)=nC c∧kN (aNO c)=nC c:=by cases c<;>exact⟨by kernel_rfl,by kernel_rfl⟩
theorem amu{c c':aX}(h:nC c=nC c')(hn:c.name=c'.name):c=c':=by cases c<;>cases c'<;>first|rfl|exact absurd h (by decide)|exact absurd hn (by decide)
def amv:FW:=⟨171,aX,aNC,vNC,by intro c c' h;have hk:=congrArg kN h;rw[(ahr c).1,(ahr c').1]at hk;simp only[aNC,List.cons.injEq,AV.str.injEq]at h;rw[amu hk (Prod.ext h.2.1.1 h.2.1.2)]⟩
theorem amw:jJ Tryz.prog .nil amv:=by refine⟨⟨_,iO (n:=171) (by decide)⟩,fun c=>?_⟩;obtain⟨h1,h2,h3,h4⟩:=kNC c;have h:=cU (f:=171) (by decide) h2 h1 (J3 []);rw[fp _ h3]at h;rw[show(qNC c).dt.val (J3 [])=vNC c from dJ _ h4]at h;exact h
def amx:FW:=⟨176,aX,aNO,vNO,by intro c c' h;have hk:=congrArg kN h;rw[(ahr c).2,(ahr c').2]at hk;simp only[aNO,List.cons.injEq,AV.str.injEq]at h;rw[amu hk (Prod.ext h.2.1.1 h.2.1.2)]⟩
theorem amy:jJ Tryz.prog .nil amx:=by refine⟨⟨_,iO (n:=176) (by decide)⟩,fun c=>?_⟩;obtain⟨h1,h2,h3,h4⟩:=kNO c;have h:=cU (f:=176) (by decide) h2 h1 (J3 []);rw[fp _ h3]at h;rw[show(qNO c).dt.val (J3 [])=vNO c from dJ _ h4]at h;exact h
structure QY where
 i:Nat
 lt:i<3
theorem amz{i j:Nat}(hi:i<3)(hj:j<3)(h:U2 i=U2 j):i=j:=by
 have h1:i=0∨i=1∨i=2:=by omega
 have h2:j=0∨j=1∨j=2:=by omega
 rcases h1 with rfl|rfl|rfl<;>rcases h2 with rfl|rfl|rfl<;>first|rfl|(exfalso;simp[U2,ard]at h)
def Ai:FW:=⟨129,QJ ⊕ QY,fun q=>match q with|.inl q=>[vM,I 4,nmZ q.i]|.inr q=>aDY q.i,fun q=>match q with|.inl q=>awG q.i|.inr q=>vDY q.i,by
 intro q p h;cases q<;>cases p
 ·simp only[List.cons.injEq,true_and,and_true]at h;rename_i q p;simp only[X7 q.lt p.lt h]
 ·exfalso;simp[aDY,I]at h
 ·exfalso;simp[aDY,I]at h
 ·rename_i q p;simp only[aDY,List.cons.injEq,true_and,and_true]at h;simp only[amz q.lt p.lt h]⟩
theorem RD:jJ Tryz.prog .nil Ai:=by
 refine⟨⟨_,iO (n:=129) (by decide)⟩,fun q=>?_⟩;cases q with
 |inl q=>exact RE.MQ q
 |inr q=>
  obtain⟨h1,h2,h3⟩:=kDY q.lt;have h:=cU (f:=129) (by decide) h2 h1 (J3 []);have e:AV.ep (J3 []) (aDY q.i)=aDY q.i:=by show [AV.sub _ vM,I 5,U2 q.i]=_;rw[dJ _ re];rfl
  rw[e]at h;rw[show(qDY q.i).dt.val (J3 [])=vDY q.i from dJ _ h3]at h;exact h
end Ln
