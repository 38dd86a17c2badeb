/- A part of the proof. No condition. -/
import Derived.Test.YtecbfpngkfdkoaaGreatP16
import Derived.Test.YtecbfpngkfdkoaaGreatP17
set_option linter.unusedSimpArgs false
set_option linter.unusedVariables false
set_option linter.unusedSectionVars false
namespace Ln
open Go.Sx Go Go.Proofs
theorem Va:∀ {l m:List U},aj eU l=aj eU m→l=m
 | [],[],_=>rfl
 | [],v ::m,h=>by simp[cY,eU] at h
 |u ::l,[],h=>by simp[cY,eU] at h
 |u ::l,v ::m,h=>by
  simp[cY,eU] at h
  obtain⟨h1,h2,h3⟩:=h
  have:=Va h3
  obtain⟨a,b⟩:=u
  obtain⟨c,d⟩:=v
  simp_all
theorem Mw{l m:List U}(h:aC l=aC m):l=m:=by
 cases l with
 |nil=>
  cases m with
  |nil=>rfl
  |cons v m=>cases h
 |cons u l=>
  cases m with
  |nil=>cases h
  |cons v m=>
   simp only[aC,AV.sl.injEq] at h
   exact Va h.1
theorem Mx{s t:St}(h:AV.agg (eS s)=.agg (eS t)):s=t:=by
 obtain⟨a,b,l⟩:=s
 obtain⟨c,d,m⟩:=t
 simp only[eS,AV.agg.injEq,List.cons.injEq,I,AV.int.injEq,SI.lit.injEq,true_and,and_true] at h
 obtain⟨h1,h2,h3⟩:=h
 rw[h1,h2,Mw h3]
theorem akg{u v:U}(h:AV.agg (eU u)=.agg (eU v)):u=v:=by
 obtain⟨a,b⟩:=u
 obtain⟨c,d⟩:=v
 simp only[eU,AV.agg.injEq,List.cons.injEq,I,AV.int.injEq,SI.lit.injEq,true_and,and_true] at h
 rw[h.1,h.2]
theorem anj{c d:gQ}(h1:c.tN=d.tN)(h2:c.name=d.name):c=d:=by
 cases c<;>cases d<;>first|rfl|(exact absurd h1 (by decide))|exact absurd h2 (by decide)
theorem ank{c d:gQ}(h:dO c.tN=dO d.tN):c.tN=d.tN:=by
 cases c<;>cases d<;>first|rfl|(exfalso;simp[dO,jS,gQ.tN] at h)
theorem ayx(c:gQ):c.ar≤1:=by cases c<;>decide
structure QC where
 c:gQ
 s:St
 l:List U
 ok:dR c.tN s
 ar:l.length=c.ar
structure QH where
 q:QC
 r:U
def QC.args(q:QC):List AV:=[vM,dO q.c.tN,.str q.c.name.1 q.c.name.2,.agg (eS q.s),aC q.l,kj]
def QH.args(q:QH):List AV:=[vM,dO q.q.c.tN,.str q.q.c.name.1 q.q.c.name.2,.agg (eS q.q.s),aC q.q.l,.agg (eU q.r),kj]
theorem QC.inj{q p:QC}(h:q.args=p.args):q.c=p.c∧q.s=p.s∧q.l=p.l:=by
 simp only[QC.args,List.cons.injEq,true_and,and_true] at h
 obtain⟨h1,h2,h3,h4⟩:=h
 simp only[AV.str.injEq] at h2
 exact⟨anj (ank h1) (Prod.ext h2.1 h2.2),Mx h3,Mw h4⟩
theorem QH.inj{q p:QH}(h:q.args=p.args):q.q.c=p.q.c∧q.q.s=p.q.s∧q.q.l=p.q.l∧q.r=p.r:=by
 simp only[QH.args,List.cons.injEq,true_and,and_true] at h
 obtain⟨h1,h2,h3,h4,h5⟩:=h
 simp only[AV.str.injEq] at h2
 exact⟨anj (ank h1) (Prod.ext h2.1 h2.2),Mx h3,Mw h4,akg h5⟩
theorem QC.gW(q:QC):AV.gW (vO q.s q.l z0 0) (av9 q.c q.s.kids.length)=q.args:=by
 have h3:q.s.kids.length≤3:=Nat.le_trans q.ok (akb _)
 have h1:q.l.length≤1:=by rw[q.ar];exact ayx _
 have e1:=Cg (ρ:=vO q.s q.l z0 0) vM LQ
 have e2:=asn (aZZ:=q.l) (r:=z0) (w:=0) h3
 have e3:=ana (s:=q.s) (r:=z0) (w:=0) h1
 rw[q.ar] at e3
 show [_,_,_,_,_,_]=_
 rw[e1,e2,e3]
 rfl
theorem QH.gW(q:QH):AV.gW (vO q.q.s q.q.l q.r 0) (IE q.q.c q.q.s.kids.length)=q.args:=by
 have h3:q.q.s.kids.length≤3:=Nat.le_trans q.q.ok (akb _)
 have h1:q.q.l.length≤1:=by rw[q.q.ar];exact ayx _
 have e1:=Cg (ρ:=vO q.q.s q.q.l q.r 0) vM LQ
 have e2:=asn (aZZ:=q.q.l) (r:=q.r) (w:=0) h3
 have e3:=ana (s:=q.q.s) (r:=q.r) (w:=0) h1
 have e4:=avZ (s:=q.q.s) (aZZ:=q.q.l) (r:=q.r) (w:=0)
 rw[q.q.ar] at e3
 show [_,_,_,_,_,_,_]=_
 rw[e1,e2,e3,e4]
 rfl
def Sv:IF:=⟨149,QC,QC.args,fun q=>.tuple [.bool (K0.Mo q.c q.s q.l),I (K0.Mp q.c q.s q.l)],by
 intro q p h
 obtain⟨h1,h2,h3⟩:=QC.inj h
 simp only[h1,h2,h3]⟩
theorem zw:ma Tryz.prog .nil Sv:=by
 refine⟨⟨_,lK (n:=149) (by decide)⟩,fun q=>?_⟩
 have sh:=D6 q.ok
 have h:=fW (f:=149) (by decide) (ayy sh) (aDZ sh) (vO q.s q.l z0 0)
 rw[q.gW] at h
 have hv:=(am7 q.ok q.l)
 unfold asf at hv
 rw[hv] at h
 exact h
def IG:IF:=⟨150,QH,QH.args,fun q=>.tuple [.bool (K0.pE q.q.c q.q.s q.q.l q.r),I (K0.pF q.q.c q.q.s q.q.l q.r)],by
 intro q p h
 obtain⟨h1,h2,h3,h4⟩:=QH.inj h
 simp only[h1,h2,h3,h4]⟩
theorem kR:ma Tryz.prog .nil IG:=by
 refine⟨⟨_,lK (n:=150) (by decide)⟩,fun q=>?_⟩
 have sh:=D6 q.q.ok
 have h:=fW (f:=150) (by decide) (LV sh) (awa sh) (vO q.q.s q.q.l q.r 0)
 rw[q.gW] at h
 have hv:=(QX q.q.ok q.q.l q.r)
 unfold Mm at hv
 rw[hv] at h
 exact h
def My:IF:=⟨151,QH,QH.args,fun q=>.tuple [.agg (eS (K0.rh q.q.c q.q.s q.q.l q.r)),I (K0.uy q.q.c q.q.s q.q.l q.r)],by
 intro q p h
 obtain⟨h1,h2,h3,h4⟩:=QH.inj h
 simp only[h1,h2,h3,h4]⟩
theorem v5:ma Tryz.prog .nil My:=by
 refine⟨⟨_,lK (n:=151) (by decide)⟩,fun q=>?_⟩
 have sh:=D6 q.q.ok
 have h:=fW (f:=151) (by decide) (LV sh) (azP sh) (vO q.q.s q.q.l q.r 0)
 rw[q.gW] at h
 have hv:=(UW q.q.ok q.q.l q.r)
 unfold US at hv
 rw[hv] at h
 exact h
def Sw:IF:=⟨154,QC,QC.args,fun q=>.tuple [.bool (K0.Mo q.c q.s q.l),I (K0.Mp q.c q.s q.l)],by
 intro q p h
 obtain⟨h1,h2,h3⟩:=QC.inj h
 simp only[h1,h2,h3]⟩
theorem akh:ma Tryz.prog .nil Sw:=by
 refine⟨⟨_,lK (n:=154) (by decide)⟩,fun q=>?_⟩
 have sh:=D6 q.ok
 have h:=fW (f:=154) (by decide) (ayy sh) (aD0 sh) (vO q.s q.l z0 0)
 rw[q.gW] at h
 rw[DT.nA (ρ:=vO q.s q.l z0 0) (awb sh) trivial] at h
 have hv:=(am7 q.ok q.l)
 unfold asf at hv
 rw[hv] at h
 exact h
def IH:IF:=⟨155,QH,QH.args,fun q=>.tuple [.bool (K0.pE q.q.c q.q.s q.q.l q.r),I (K0.pF q.q.c q.q.s q.q.l q.r)],by
 intro q p h
 obtain⟨h1,h2,h3,h4⟩:=QH.inj h
 simp only[h1,h2,h3,h4]⟩
theorem Sz:ma Tryz.prog .nil IH:=by
 refine⟨⟨_,lK (n:=155) (by decide)⟩,fun q=>?_⟩
 have sh:=D6 q.q.ok
 have h:=fW (f:=155) (by decide) (LV sh) (awc sh) (vO q.q.s q.q.l q.r 0)
 rw[q.gW] at h
 rw[DT.nA (ρ:=vO q.q.s q.q.l q.r 0) (aqr sh) trivial] at h
 have hv:=(QX q.q.ok q.q.l q.r)
 unfold Mm at hv
 rw[hv] at h
 exact h
def Mz:IF:=⟨156,QH,QH.args,fun q=>.tuple [.agg (eS (K0.rh q.q.c q.q.s q.q.l q.r)),I (K0.uy q.q.c q.q.s q.q.l q.r)],by
 intro q p h
 obtain⟨h1,h2,h3,h4⟩:=QH.inj h
 simp only[h1,h2,h3,h4]⟩
theorem Vb:ma Tryz.prog .nil Mz:=by
 refine⟨⟨_,lK (n:=156) (by decide)⟩,fun q=>?_⟩
 have sh:=D6 q.q.ok
 have h:=fW (f:=156) (by decide) (LV sh) (azQ sh) (vO q.q.s q.q.l q.r 0)
 rw[q.gW] at h
 rw[DT.nA (ρ:=vO q.q.s q.q.l q.r 0) (asH sh) trivial] at h
 have hv:=(UW q.q.ok q.q.l q.r)
 unfold US at hv
 rw[hv] at h
 exact h
end Ln
/-
 LN: families of known calls, the rest. No condition.
-/
namespace Ln
open Go.Sx Go Go.Proofs
structure QI where
 i:Nat
 lt:i<3
theorem Il{i j:Nat}(hi:i<3)(hj:j<3)(h:dO i=dO j):i=j:=by
 have Ts:i=0∨i=1∨i=2:=by omega
 have hj':j=0∨j=1∨j=2:=by omega
 rcases Ts with rfl|rfl|rfl<;>rcases hj' with rfl|rfl|rfl<;>first|rfl|(exfalso;simp[dO,jS] at h)
theorem RT(i:Nat):AV.gf [vM,dO i,kj]=true:=by
 have:=LQ
 simp only[AV.gf,this]
 rfl
def N6:IF:=⟨132,QI,fun q=>[vM,dO q.i,kj],fun q=>.tuple [.agg (eS (cd q.i)),I 0],by
 intro q p h
 simp only[List.cons.injEq,true_and,and_true] at h
 rw[Il q.lt p.lt h]⟩
theorem Cy:ma Tryz.prog .nil N6:=by
 refine⟨⟨_,lK (n:=132) (by decide)⟩,fun q=>?_⟩
 obtain⟨i,hi⟩:=q
 have hv:=ann
 match i,hi with
 |0,_=>
  have h:=fW (f:=132) (l:=[vM,dO 0,kj]) (d:=KF) (by decide) (by simp only[AV.Iy,hv];rfl) Qq (fun _=>0)
  rw[eW _ (RT 0)] at h
  exact h
 |1,_=>
  have h:=fW (f:=132) (l:=[vM,dO 1,kj]) (d:=E3) (by decide) (by simp only[AV.Iy,hv];rfl) LA (fun _=>0)
  rw[eW _ (RT 1)] at h
  exact h
 |2,_=>
  have h:=fW (f:=132) (l:=[vM,dO 2,kj]) (d:=Dk) (by decide) (by simp only[AV.Iy,hv];rfl) Jy (fun _=>0)
  rw[eW _ (RT 2)] at h
  exact h
def N7:IF:=⟨73,QI,fun q=>[vM,dO q.i,kj],fun q=>.tuple [.agg (eS (cd q.i)),I 0],by
 intro q p h
 simp only[List.cons.injEq,true_and,and_true] at h
 rw[Il q.lt p.lt h]⟩
theorem Wx:ma Tryz.prog .nil N7:=by
 refine⟨⟨_,lK (n:=73) (by decide)⟩,fun q=>?_⟩
 obtain⟨i,hi⟩:=q
 have hv:=ann
 match i,hi with
 |0,_=>
  have h:=fW (f:=73) (l:=[vM,dO 0,kj]) (d:=Kq) (by decide) (by simp only[AV.Iy,hv];rfl) Qd (fun _=>0)
  rw[eW _ (RT 0)] at h
  exact h
 |1,_=>
  have h:=fW (f:=73) (l:=[vM,dO 1,kj]) (d:=EJ) (by decide) (by simp only[AV.Iy,hv];rfl) Lo (fun _=>0)
  rw[eW _ (RT 1)] at h
  exact h
 |2,_=>
  have h:=fW (f:=73) (l:=[vM,dO 2,kj]) (d:=C2) (by decide) (by simp only[AV.Iy,hv];rfl) Js (fun _=>0)
  rw[eW _ (RT 2)] at h
  exact h
def FU:IF:=⟨129,QI,fun q=>[vM,I 4,dO q.i],fun q=>.tuple [.agg (Fi q.i),.bool true],by
 intro q p h
 simp only[List.cons.injEq,true_and,and_true] at h
 rw[Il q.lt p.lt h]⟩
theorem xa:ma Tryz.prog .nil FU:=by
 refine⟨⟨_,lK (n:=129) (by decide)⟩,fun q=>?_⟩
 obtain⟨i,hi⟩:=q
 have h:=UO
 match i,hi with
 |0,_=>exact h.1
 |1,_=>exact h.2.1
 |2,_=>exact h.2.2.1
def Jn:IF:=⟨71,QI,fun q=>[vM,I 4,dO q.i],fun q=>.tuple [.agg (Fi q.i),.bool true],by
 intro q p h
 simp only[List.cons.injEq,true_and,and_true] at h
 rw[Il q.lt p.lt h]⟩
theorem TE:ma Tryz.prog .nil Jn:=by
 refine⟨⟨_,lK (n:=71) (by decide)⟩,fun q=>?_⟩
 obtain⟨i,hi⟩:=q
 have h:=am6
 match i,hi with
 |0,_=>exact h.1
 |1,_=>exact h.2.1
 |2,_=>exact h.2.2.1
def okT:DT:=.ask .eql (.var 0) (.lit 0) (.leaf (I 0)) (.ask .eql (.var 0) (.lit 1) (.ask .eql (.var 1) (.lit 0) (.leaf (I 0)) (.ask .eql (.var 1) (.lit 1) (.leaf (I 0)) (.leaf (I 1)))) (.ask .eql (.var 0) (.lit 2) (.ask .eql (.var 1) (.lit 0) (.leaf (I 0)) (.leaf (I 1))) (.leaf (I 1))))
theorem ajA(ρ:Nat→Int)(a b:SI):holds ρ .eql a b=decide (a.den ρ=b.den ρ):=by
 unfold holds
 simp only[fP]
 by_cases h:a.den ρ=b.den ρ<;>simp[h]
theorem ayf(u:U):okT.val (rho [u.k,u.n])=I (if v7 u=true then 0 else 1):=by
 obtain⟨k,n⟩:=u
 have d0:(SI.var 0).den (rho [k,n])=k:=rfl
 have d1:(SI.var 1).den (rho [k,n])=n:=rfl
 have dl:∀ z:Int,(SI.lit z).den (rho [k,n])=z:=fun _=>rfl
 unfold okT
 simp only[DT.val,ajA,d0,d1,dl]
 by_cases h0:k=0
 ·simp[h0,v7];rfl
 ·by_cases h1:k=1
  ·by_cases n0:n=0
   ·simp[h1,n0,v7];rfl
   ·by_cases n1:n=1
    ·simp[h1,n1,v7];rfl
    ·simp[h1,n0,n1,v7];rfl
  ·by_cases h2:k=2
   ·by_cases n0:n=0
    ·simp[h2,n0,v7];rfl
    ·simp[h2,n0,v7];rfl
   ·simp[h0,h1,h2,v7];rfl
def aCv:DT:=.ask .eql (.var 0) (.lit 0) (.leaf (I 0)) (.ask .eql (.var 0) (.lit 1) (.ask .lss (.var 1) (.lit 0) (.leaf (I 1)) (.ask .gtr (.var 1) (.lit 1) (.leaf (I 1)) (.leaf (I 0)))) (.ask .eql (.var 0) (.lit 2) (.ask .neq (.var 1) (.lit 0) (.leaf (I 1)) (.leaf (I 0))) (.ask .eql (.var 0) (.lit 3) (.leaf (I 1)) (.ask .lss (.var 0) (.lit 0) (.leaf (I 1)) (.ask .gtr (.var 0) (.lit 3) (.leaf (I 1)) (.leaf (I 0)))))))
theorem avc(ρ:Nat→Int)(a b:SI):holds ρ .lss a b=decide (a.den ρ<b.den ρ):=by
 unfold holds
 simp only[fP]
theorem avd(ρ:Nat→Int)(a b:SI):holds ρ .gtr a b=decide (b.den ρ<a.den ρ):=by
 unfold holds
 simp only[fP]
theorem ave(ρ:Nat→Int)(a b:SI):holds ρ .neq a b=decide (a.den ρ≠b.den ρ):=by
 unfold holds
 simp only[fP]
 by_cases h:a.den ρ=b.den ρ<;>simp[h]
theorem avf(u:U):aCv.val (rho [u.k,u.n])=I (if v7 u=true then 0 else 1):=by
 obtain⟨k,n⟩:=u
 have d0:(SI.var 0).den (rho [k,n])=k:=rfl
 have d1:(SI.var 1).den (rho [k,n])=n:=rfl
 have dl:∀ z:Int,(SI.lit z).den (rho [k,n])=z:=fun _=>rfl
 unfold aCv
 simp only[DT.val,ajA,avc,avd,ave,d0,d1,dl]
 have z:∀ {b:Bool} {x:Int},(x=if b=true then 0 else 1)→(AV.int .i64 (.lit x):AV)=I (if b=true then 0 else 1):=fun h=>by rw[h]
 by_cases h0:k=0
 ·simp[h0,v7];rfl
 ·by_cases h1:k=1
  ·by_cases n0:n<0
   ·have:n≠0∧n≠1:=by omega
    simp[h1,n0,v7,this.1,this.2];rfl
   ·by_cases n1:1<n
    ·have:n≠0∧n≠1:=by omega
     simp[h1,n0,n1,v7,this.1,this.2];rfl
    ·have:n=0∨n=1:=by omega
     simp[h1,n0,n1,v7,this];rfl
  ·by_cases h2:k=2
   ·by_cases n0:n=0
    ·simp[h2,n0,v7];rfl
    ·simp[h2,n0,v7];rfl
   ·by_cases h3:k=3
    ·simp[h3,v7];rfl
    ·by_cases h4:k<0
     ·simp[h0,h1,h2,h3,h4,v7];rfl
     ·have h5:3<k:=by omega
      simp[h0,h1,h2,h3,h4,h5,v7];rfl
def Jo:IF:=⟨159,U,fun u=>[.agg (eU u)],fun u=>I (if v7 u=true then 0 else 1),by
 intro q p h
 simp only[List.cons.injEq,and_true] at h
 rw[akg h]⟩
theorem tV:ma Tryz.prog .nil Jo:=by
 refine⟨⟨_,lK (n:=159) (by decide)⟩,fun(u:U)=>?_⟩
 have h:=fW (f:=159) (l:=aix) (by decide) rfl aul (rho [u.k,u.n])
 have hs:DT.same auk.dt okT []=true:=by kernel_rfl
 rw[DT.nA (ρ:=rho [u.k,u.n]) (F:=[]) hs trivial,ayf] at h
 exact h
def Jp:IF:=⟨96,U,fun u=>[.agg (eU u)],fun u=>I (if v7 u=true then 0 else 1),by
 intro q p h
 simp only[List.cons.injEq,and_true] at h
 rw[akg h]⟩
theorem TF:ma Tryz.prog .nil Jp:=by
 refine⟨⟨_,lK (n:=96) (by decide)⟩,fun(u:U)=>?_⟩
 have h:=fW (f:=96) (l:=aiy) (by decide) rfl aun (rho [u.k,u.n])
 have hs:DT.same aum.dt aCv []=true:=by kernel_rfl
 rw[DT.nA (ρ:=rho [u.k,u.n]) (F:=[]) hs trivial,avf] at h
 exact h
structure QT where
 s:St
 t:St
 hs:s.kids.length≤3
 ht:t.kids.length≤3
inductive S4:Nat→Prop
 |a:S4 0
 |b:S4 1
 |c:S4 2
 |d:S4 3
theorem Pd:∀ {n:Nat},n≤3→S4 n
 |0,_=>.a
 |1,_=>.b
 |2,_=>.c
 |3,_=>.d
 |n+4,h=>absurd h (by omega)
abbrev avg(n m:Nat):List AV:=[stS 0 n,stS 8 m]
theorem avh{n m:Nat}(h:S4 n)(k:S4 m):AV.Iy (avg n m)=true:=by cases h<;>cases k<;>rfl
theorem QT.gW(q:QT):AV.gW (GA q.s q.t) (avg q.s.kids.length q.t.kids.length)=[.agg (eS q.s),.agg (eS q.t)]:=by
 show [_,_]=_
 rw[sub_one q.hs,av0 q.ht]
theorem QT.inj{q p:QT}(h:([.agg (eS q.s),.agg (eS q.t)]:List AV)=[.agg (eS p.s),.agg (eS p.t)]):q.s=p.s∧q.t=p.t:=by
 simp only[List.cons.injEq,and_true] at h
 exact⟨Mx h.1,Mx h.2⟩
def azv:Nat→Nat→aB
 |0,0=>Oa
 |0,1=>aiz
 |0,2=>aiC
 |0,3=>aiF
 |1,0=>aiI
 |1,1=>aiL
 |1,2=>aiO
 |1,3=>aiR
 |2,0=>aiU
 |2,1=>aiX
 |2,2=>ai0
 |2,3=>ai3
 |3,0=>ai6
 |3,1=>ai9
 |3,2=>ajc
 |3,3=>ajf
 |_,_=>Oa
theorem aGd{n m:Nat}(h:S4 n)(k:S4 m):aB.cz (CF aE) 139 (azv n m) ⟨ae 139 (fx 139) (avg n m),[],.nil,aQ⟩ [] []=true:=by
 cases h<;>cases k
 ·exact ak4
 ·exact ala
 ·exact alg
 ·exact aln
 ·exact alu
 ·exact alA
 ·exact alG
 ·exact alM
 ·exact alS
 ·exact alY
 ·exact al4
 ·exact ama
 ·exact amg
 ·exact amm
 ·exact ams
 ·exact amy
theorem aGe{n m:Nat}(h:S4 n)(k:S4 m):DT.same (azv n m).dt (Mt (fun i=>I i) (vars 0 n) (vars 8 m)) []=true:=by
 cases h<;>cases k<;>kernel_rfl
def TB:IF:=⟨139,QT,fun q=>[.agg (eS q.s),.agg (eS q.t)],fun q=>I (wV q.s q.t),by
 intro q p h
 obtain⟨h1,h2⟩:=QT.inj h
 simp only[h1,h2]⟩
theorem uV:ma Tryz.prog .nil TB:=by
 refine⟨⟨_,lK (n:=139) (by decide)⟩,fun q=>?_⟩
 have h1:=Pd q.hs
 have h2:=Pd q.ht
 have h:=fW (f:=139) (by decide) (avh h1 h2) (aGd h1 h2) (GA q.s q.t)
 rw[q.gW,Sp q.hs q.ht (f:=fun i=>I i) (fun _ _=>rfl) (aGe h1 h2)] at h
 exact h
def azw:Nat→Nat→aB
 |0,0=>Ob
 |0,1=>aiA
 |0,2=>aiD
 |0,3=>aiG
 |1,0=>aiJ
 |1,1=>aiM
 |1,2=>aiP
 |1,3=>aiS
 |2,0=>aiV
 |2,1=>aiY
 |2,2=>ai1
 |2,3=>ai4
 |3,0=>ai7
 |3,1=>aja
 |3,2=>ajd
 |3,3=>ajg
 |_,_=>Ob
theorem aGf{n m:Nat}(h:S4 n)(k:S4 m):aB.cz (CF aE) 145 (azw n m) ⟨ae 145 (fx 145) (avg n m),[],.nil,aQ⟩ [] []=true:=by
 cases h<;>cases k
 ·exact ak6
 ·exact alc
 ·exact ali
 ·exact alp
 ·exact alw
 ·exact alC
 ·exact alI
 ·exact alO
 ·exact alU
 ·exact al0
 ·exact al6
 ·exact amc
 ·exact ami
 ·exact amo
 ·exact amu
 ·exact amA
theorem aGg{n m:Nat}(h:S4 n)(k:S4 m):DT.same (azw n m).dt (Mt (fun i=>I i) (vars 0 n) (vars 8 m)) []=true:=by
 cases h<;>cases k<;>kernel_rfl
def TC:IF:=⟨145,QT,fun q=>[.agg (eS q.s),.agg (eS q.t)],fun q=>I (wV q.s q.t),by
 intro q p h
 obtain⟨h1,h2⟩:=QT.inj h
 simp only[h1,h2]⟩
theorem akW:ma Tryz.prog .nil TC:=by
 refine⟨⟨_,lK (n:=145) (by decide)⟩,fun q=>?_⟩
 have h1:=Pd q.hs
 have h2:=Pd q.ht
 have h:=fW (f:=145) (by decide) (avh h1 h2) (aGf h1 h2) (GA q.s q.t)
 rw[q.gW,Sp q.hs q.ht (f:=fun i=>I i) (fun _ _=>rfl) (aGg h1 h2)] at h
 exact h
def azx:Nat→Nat→aB
 |0,0=>Oc
 |0,1=>aiB
 |0,2=>aiE
 |0,3=>aiH
 |1,0=>aiK
 |1,1=>aiN
 |1,2=>aiQ
 |1,3=>aiT
 |2,0=>aiW
 |2,1=>aiZ
 |2,2=>ai2
 |2,3=>ai5
 |3,0=>ai8
 |3,1=>ajb
 |3,2=>aje
 |3,3=>ajh
 |_,_=>Oc
theorem aGh{n m:Nat}(h:S4 n)(k:S4 m):aB.cz (CF aE) 141 (azx n m) ⟨ae 141 (fx 141) (avg n m),[],.nil,aQ⟩ [] []=true:=by
 cases h<;>cases k
 ·exact ak8
 ·exact ale
 ·exact alk
 ·exact alr
 ·exact aly
 ·exact alE
 ·exact alK
 ·exact alQ
 ·exact alW
 ·exact al2
 ·exact al8
 ·exact ame
 ·exact amk
 ·exact amq
 ·exact amw
 ·exact amC
theorem aGi{n m:Nat}(h:S4 n)(k:S4 m):DT.same (azx n m).dt (Mt (fun i=>.bool (i==0)) (vars 0 n) (vars 8 m)) []=true:=by
 cases h<;>cases k<;>kernel_rfl
def TD:IF:=⟨141,QT,fun q=>[.agg (eS q.s),.agg (eS q.t)],fun q=>.bool (decide (q.s=q.t)),by
 intro q p h
 obtain⟨h1,h2⟩:=QT.inj h
 simp only[h1,h2]⟩
theorem akX:ma Tryz.prog .nil TD:=by
 refine⟨⟨_,lK (n:=141) (by decide)⟩,fun q=>?_⟩
 have h1:=Pd q.hs
 have h2:=Pd q.ht
 have h:=fW (f:=141) (by decide) (avh h1 h2) (aGh h1 h2) (GA q.s q.t)
 rw[q.gW,Sp q.hs q.ht (f:=fun i=>.bool (i==0)) (fun _ _=>rfl) (aGi h1 h2)] at h
 have e:(wV q.s q.t==0)=decide (q.s=q.t):=by
  rw[Bool.eq_iff_iff];simp[Dw]
 simp only[e] at h
 exact h
structure QK where
 s:St
 hs:s.kids.length≤3
def N8:IF:=⟨62,QK,fun q=>[.agg (eS q.s)],fun q=>.agg (eS q.s),by
 intro q p h
 simp only[List.cons.injEq,and_true] at h
 rw[Mx h]⟩
def avi:Nat→aB
 |0=>auo
 |1=>aur
 |2=>auu
 |_=>auy
theorem aCw{n:Nat}(h:S4 n):aB.cz (CF aE) 62 (avi n) ⟨ae 62 (fx 62) [stS 0 n],[],.nil,aQ⟩ [] []=true:=by
 cases h
 ·exact auq
 ·exact aut
 ·exact auw
 ·exact auA
theorem aCx{n:Nat}(h:S4 n):DT.same (avi n).dt (.leaf (stS 0 n)) []=true:=by
 cases h<;>kernel_rfl
theorem aGj{n:Nat}(h:S4 n):AV.Iy [stS 0 n]=true:=by cases h<;>rfl
theorem rJ:ma Tryz.prog .nil N8:=by
 refine⟨⟨_,lK (n:=62) (by decide)⟩,fun q=>?_⟩
 have h1:=Pd q.hs
 have h:=fW (f:=62) (by decide) (aGj h1) (aCw h1) (GA q.s q.s)
 rw[DT.nA (ρ:=GA q.s q.s) (aCx h1) trivial] at h
 have e:AV.gW (GA q.s q.s) [stS 0 q.s.kids.length]=[.agg (eS q.s)]:=by
  show [_]=_
  rw[sub_one q.hs]
 have e2:(DT.leaf (stS 0 q.s.kids.length)).val (GA q.s q.s)=.agg (eS q.s):=sub_one q.hs
 rw[e,e2] at h
 exact h
end Ln
