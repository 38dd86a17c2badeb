/- A part of the proof. No condition. -/
import Derived.Test.YtecbfpngkfdkoaaGreatP16
import Derived.Test.YtecbfpngkfdkoaaGreatP17
set_option linter.unusedSimpArgs false
set_option linter.unusedVariables false
set_option linter.unusedSectionVars false
namespace Ln
open Go.Sx Go Go.Proofs
theorem Ue:∀ {l m:List U},ai eU l=ai eU m→l=m
 | [],[],_=>rfl
 | [],v ::m,h=>by simp[ek,eU] at h
 |u ::l,[],h=>by simp[ek,eU] at h
 |u ::l,v ::m,h=>by
  simp[ek,eU] at h
  obtain⟨h1,h2,h3⟩:=h
  have:=Ue h3
  obtain⟨a,b⟩:=u
  obtain⟨c,d⟩:=v
  simp_all
theorem LP{l m:List U}(h:aB l=aB m):l=m:=by
 cases l with
 |nil=>
  cases m with
  |nil=>rfl
  |cons v m=>cases h
 |cons u l=>
  cases m with
  |nil=>cases h
  |cons v m=>
   simp only[aB,AV.sl.injEq] at h
   exact Ue h.1
theorem LQ{s t:St}(h:AV.agg (eS s)=.agg (eS t)):s=t:=by
 obtain⟨a,b,l⟩:=s
 obtain⟨c,d,m⟩:=t
 simp only[eS,AV.agg.injEq,List.cons.injEq,I,AV.int.injEq,SI.lit.injEq,true_and,and_true] at h
 obtain⟨h1,h2,h3⟩:=h
 rw[h1,h2,LP h3]
theorem ajk{u v:U}(h:AV.agg (eU u)=.agg (eU v)):u=v:=by
 obtain⟨a,b⟩:=u
 obtain⟨c,d⟩:=v
 simp only[eU,AV.agg.injEq,List.cons.injEq,I,AV.int.injEq,SI.lit.injEq,true_and,and_true] at h
 rw[h.1,h.2]
theorem ams{c d:gE}(h1:c.qm=d.qm)(h2:c.name=d.name):c=d:=by
 cases c<;>cases d<;>first|rfl|(exact absurd h1 (by decide))|exact absurd h2 (by decide)
theorem amt{c d:gE}(h:dE c.qm=dE d.qm):c.qm=d.qm:=by
 cases c<;>cases d<;>first|rfl|(exfalso;simp[dE,jg,gE.qm] at h)
theorem axJ(c:gE):c.ar≤1:=by cases c<;>decide
structure QC where
 c:gE
 s:St
 l:List U
 ok:gM c.qm s
 ar:l.length=c.ar
structure QH where
 q:QC
 r:U
def QC.args(q:QC):List AV:=[vM,dE q.c.qm,.str q.c.name.1 q.c.name.2,.agg (eS q.s),aB q.l,jG]
def QH.args(q:QH):List AV:=[vM,dE q.q.c.qm,.str q.q.c.name.1 q.q.c.name.2,.agg (eS q.q.s),aB q.q.l,.agg (eU q.r),jG]
theorem QC.inj{q p:QC}(h:q.args=p.args):q.c=p.c∧q.s=p.s∧q.l=p.l:=by
 simp only[QC.args,List.cons.injEq,true_and,and_true] at h
 obtain⟨h1,h2,h3,h4⟩:=h
 simp only[AV.str.injEq] at h2
 exact⟨ams (amt h1) (Prod.ext h2.1 h2.2),LQ h3,LP h4⟩
theorem QH.inj{q p:QH}(h:q.args=p.args):q.q.c=p.q.c∧q.q.s=p.q.s∧q.q.l=p.q.l∧q.r=p.r:=by
 simp only[QH.args,List.cons.injEq,true_and,and_true] at h
 obtain⟨h1,h2,h3,h4,h5⟩:=h
 simp only[AV.str.injEq] at h2
 exact⟨ams (amt h1) (Prod.ext h2.1 h2.2),LQ h3,LP h4,ajk h5⟩
theorem QC.gw(q:QC):AV.gw (ve q.s q.l z0 0) (avo q.c q.s.kids.length)=q.args:=by
 have h3:q.s.kids.length≤3:=Nat.le_trans q.ok (ajg _)
 have h1:q.l.length≤1:=by rw[q.ar];exact axJ _
 have e1:=BF (ρ:=ve q.s q.l z0 0) vM K8
 have e2:=arC (aZZ:=q.l) (r:=z0) (w:=0) h3
 have e3:=aml (s:=q.s) (r:=z0) (w:=0) h1
 rw[q.ar] at e3
 show [_,_,_,_,_,_]=_
 rw[e1,e2,e3]
 rfl
theorem QH.gw(q:QH):AV.gw (ve q.q.s q.q.l q.r 0) (HN q.q.c q.q.s.kids.length)=q.args:=by
 have h3:q.q.s.kids.length≤3:=Nat.le_trans q.q.ok (ajg _)
 have h1:q.q.l.length≤1:=by rw[q.q.ar];exact axJ _
 have e1:=BF (ρ:=ve q.q.s q.q.l q.r 0) vM K8
 have e2:=arC (aZZ:=q.q.l) (r:=q.r) (w:=0) h3
 have e3:=aml (s:=q.q.s) (r:=q.r) (w:=0) h1
 have e4:=ava (s:=q.q.s) (aZZ:=q.q.l) (r:=q.r) (w:=0)
 rw[q.q.ar] at e3
 show [_,_,_,_,_,_,_]=_
 rw[e1,e2,e3,e4]
 rfl
def Ru:HO:=⟨149,QC,QC.args,fun q=>.tuple [.bool (K0.LH q.c q.s q.l),I (K0.LI q.c q.s q.l)],by
 intro q p h
 obtain⟨h1,h2,h3⟩:=QC.inj h
 simp only[h1,h2,h3]⟩
theorem yF:lj Tryz.prog .nil Ru:=by
 refine⟨⟨_,kH (n:=149) (by decide)⟩,fun q=>?_⟩
 have sh:=Dr q.ok
 have h:=fw (f:=149) (by decide) (axK sh) (aC6 sh) (ve q.s q.l z0 0)
 rw[q.gw] at h
 have hv:=(amj q.ok q.l)
 unfold arw at hv
 rw[hv] at h
 exact h
def HP:HO:=⟨150,QH,QH.args,fun q=>.tuple [.bool (K0.oa q.q.c q.q.s q.q.l q.r),I (K0.od q.q.c q.q.s q.q.l q.r)],by
 intro q p h
 obtain⟨h1,h2,h3,h4⟩:=QH.inj h
 simp only[h1,h2,h3,h4]⟩
theorem j0:lj Tryz.prog .nil HP:=by
 refine⟨⟨_,kH (n:=150) (by decide)⟩,fun q=>?_⟩
 have sh:=Dr q.q.ok
 have h:=fw (f:=150) (by decide) (Lb sh) (avp sh) (ve q.q.s q.q.l q.r 0)
 rw[q.gw] at h
 have hv:=(P3 q.q.ok q.q.l q.r)
 unfold LF at hv
 rw[hv] at h
 exact h
def LR:HO:=⟨151,QH,QH.args,fun q=>.tuple [.agg (eS (K0.ql q.q.c q.q.s q.q.l q.r)),I (K0.tO q.q.c q.q.s q.q.l q.r)],by
 intro q p h
 obtain⟨h1,h2,h3,h4⟩:=QH.inj h
 simp only[h1,h2,h3,h4]⟩
theorem vn:lj Tryz.prog .nil LR:=by
 refine⟨⟨_,kH (n:=151) (by decide)⟩,fun q=>?_⟩
 have sh:=Dr q.q.ok
 have h:=fw (f:=151) (by decide) (Lb sh) (ay7 sh) (ve q.q.s q.q.l q.r 0)
 rw[q.gw] at h
 have hv:=(T1 q.q.ok q.q.l q.r)
 unfold TY at hv
 rw[hv] at h
 exact h
def Rv:HO:=⟨154,QC,QC.args,fun q=>.tuple [.bool (K0.LH q.c q.s q.l),I (K0.LI q.c q.s q.l)],by
 intro q p h
 obtain⟨h1,h2,h3⟩:=QC.inj h
 simp only[h1,h2,h3]⟩
theorem ajl:lj Tryz.prog .nil Rv:=by
 refine⟨⟨_,kH (n:=154) (by decide)⟩,fun q=>?_⟩
 have sh:=Dr q.ok
 have h:=fw (f:=154) (by decide) (axK sh) (aC7 sh) (ve q.s q.l z0 0)
 rw[q.gw] at h
 rw[DT.mK (ρ:=ve q.s q.l z0 0) (avq sh) trivial] at h
 have hv:=(amj q.ok q.l)
 unfold arw at hv
 rw[hv] at h
 exact h
def HQ:HO:=⟨155,QH,QH.args,fun q=>.tuple [.bool (K0.oa q.q.c q.q.s q.q.l q.r),I (K0.od q.q.c q.q.s q.q.l q.r)],by
 intro q p h
 obtain⟨h1,h2,h3,h4⟩:=QH.inj h
 simp only[h1,h2,h3,h4]⟩
theorem Rw:lj Tryz.prog .nil HQ:=by
 refine⟨⟨_,kH (n:=155) (by decide)⟩,fun q=>?_⟩
 have sh:=Dr q.q.ok
 have h:=fw (f:=155) (by decide) (Lb sh) (avr sh) (ve q.q.s q.q.l q.r 0)
 rw[q.gw] at h
 rw[DT.mK (ρ:=ve q.q.s q.q.l q.r 0) (apx sh) trivial] at h
 have hv:=(P3 q.q.ok q.q.l q.r)
 unfold LF at hv
 rw[hv] at h
 exact h
def LU:HO:=⟨156,QH,QH.args,fun q=>.tuple [.agg (eS (K0.ql q.q.c q.q.s q.q.l q.r)),I (K0.tO q.q.c q.q.s q.q.l q.r)],by
 intro q p h
 obtain⟨h1,h2,h3,h4⟩:=QH.inj h
 simp only[h1,h2,h3,h4]⟩
theorem Uf:lj Tryz.prog .nil LU:=by
 refine⟨⟨_,kH (n:=156) (by decide)⟩,fun q=>?_⟩
 have sh:=Dr q.q.ok
 have h:=fw (f:=156) (by decide) (Lb sh) (ay8 sh) (ve q.q.s q.q.l q.r 0)
 rw[q.gw] at h
 rw[DT.mK (ρ:=ve q.q.s q.q.l q.r 0) (arW sh) trivial] at h
 have hv:=(T1 q.q.ok q.q.l q.r)
 unfold TY at hv
 rw[hv] at h
 exact h
end Ln
/-
 LN: families of known calls, the rest. No condition.
-/
namespace Ln
open Go.Sx Go Go.Proofs
structure QI where
 i:Nat
 lt:i<3
theorem Hw{i j:Nat}(hi:i<3)(hj:j<3)(h:dE i=dE j):i=j:=by
 have Sm:i=0∨i=1∨i=2:=by omega
 have hj':j=0∨j=1∨j=2:=by omega
 rcases Sm with rfl|rfl|rfl<;>rcases hj' with rfl|rfl|rfl<;>first|rfl|(exfalso;simp[dE,jg] at h)
theorem Q8(i:Nat):AV.fQ [vM,dE i,jG]=true:=by
 have:=K8
 simp only[AV.fQ,this]
 rfl
def No:HO:=⟨132,QI,fun q=>[vM,dE q.i,jG],fun q=>.tuple [.agg (eS (bL q.i)),I 0],by
 intro q p h
 simp only[List.cons.injEq,true_and,and_true] at h
 rw[Hw q.lt p.lt h]⟩
theorem B4:lj Tryz.prog .nil No:=by
 refine⟨⟨_,kH (n:=132) (by decide)⟩,fun q=>?_⟩
 obtain⟨i,hi⟩:=q
 have hv:=amw
 match i,hi with
 |0,_=>
  have h:=fw (f:=132) (l:=[vM,dE 0,jG]) (d:=JV) (by decide) (by simp only[AV.HI,hv];rfl) PD (fun _=>0)
  rw[eg _ (Q8 0)] at h
  exact h
 |1,_=>
  have h:=fw (f:=132) (l:=[vM,dE 1,jG]) (d:=En) (by decide) (by simp only[AV.HI,hv];rfl) KR (fun _=>0)
  rw[eg _ (Q8 1)] at h
  exact h
 |2,_=>
  have h:=fw (f:=132) (l:=[vM,dE 2,jG]) (d:=CJ) (by decide) (by simp only[AV.HI,hv];rfl) IM (fun _=>0)
  rw[eg _ (Q8 2)] at h
  exact h
def Np:HO:=⟨73,QI,fun q=>[vM,dE q.i,jG],fun q=>.tuple [.agg (eS (bL q.i)),I 0],by
 intro q p h
 simp only[List.cons.injEq,true_and,and_true] at h
 rw[Hw q.lt p.lt h]⟩
theorem VF:lj Tryz.prog .nil Np:=by
 refine⟨⟨_,kH (n:=73) (by decide)⟩,fun q=>?_⟩
 obtain⟨i,hi⟩:=q
 have hv:=amw
 match i,hi with
 |0,_=>
  have h:=fw (f:=73) (l:=[vM,dE 0,jG]) (d:=JH) (by decide) (by simp only[AV.HI,hv];rfl) Pq (fun _=>0)
  rw[eg _ (Q8 0)] at h
  exact h
 |1,_=>
  have h:=fw (f:=73) (l:=[vM,dE 1,jG]) (d:=Ee) (by decide) (by simp only[AV.HI,hv];rfl) KD (fun _=>0)
  rw[eg _ (Q8 1)] at h
  exact h
 |2,_=>
  have h:=fw (f:=73) (l:=[vM,dE 2,jG]) (d:=Cv) (by decide) (by simp only[AV.HI,hv];rfl) IF (fun _=>0)
  rw[eg _ (Q8 2)] at h
  exact h
def E6:HO:=⟨129,QI,fun q=>[vM,I 4,dE q.i],fun q=>.tuple [.agg (ED q.i),.bool true],by
 intro q p h
 simp only[List.cons.injEq,true_and,and_true] at h
 rw[Hw q.lt p.lt h]⟩
theorem wC:lj Tryz.prog .nil E6:=by
 refine⟨⟨_,kH (n:=129) (by decide)⟩,fun q=>?_⟩
 obtain⟨i,hi⟩:=q
 have h:=TS
 match i,hi with
 |0,_=>exact h.1
 |1,_=>exact h.2.1
 |2,_=>exact h.2.2.1
def IA:HO:=⟨71,QI,fun q=>[vM,I 4,dE q.i],fun q=>.tuple [.agg (ED q.i),.bool true],by
 intro q p h
 simp only[List.cons.injEq,true_and,and_true] at h
 rw[Hw q.lt p.lt h]⟩
theorem SA:lj Tryz.prog .nil IA:=by
 refine⟨⟨_,kH (n:=71) (by decide)⟩,fun q=>?_⟩
 obtain⟨i,hi⟩:=q
 have h:=ami
 match i,hi with
 |0,_=>exact h.1
 |1,_=>exact h.2.1
 |2,_=>exact h.2.2.1
def okT:DT:=.ask .eql (.var 0) (.lit 0) (.leaf (I 0)) (.ask .eql (.var 0) (.lit 1) (.ask .eql (.var 1) (.lit 0) (.leaf (I 0)) (.ask .eql (.var 1) (.lit 1) (.leaf (I 0)) (.leaf (I 1)))) (.ask .eql (.var 0) (.lit 2) (.ask .eql (.var 1) (.lit 0) (.leaf (I 0)) (.leaf (I 1))) (.leaf (I 1))))
theorem aiM(ρ:Nat→Int)(a b:SI):holds ρ .eql a b=decide (a.den ρ=b.den ρ):=by
 unfold holds
 simp only[fg]
 by_cases h:a.den ρ=b.den ρ<;>simp[h]
theorem axq(u:U):okT.val (rho [u.k,u.n])=I (if xa u=true then 0 else 1):=by
 obtain⟨k,n⟩:=u
 have d0:(SI.var 0).den (rho [k,n])=k:=rfl
 have d1:(SI.var 1).den (rho [k,n])=n:=rfl
 have dl:∀ z:Int,(SI.lit z).den (rho [k,n])=z:=fun _=>rfl
 unfold okT
 simp only[DT.val,aiM,d0,d1,dl]
 by_cases h0:k=0
 ·simp[h0,xa];rfl
 ·by_cases h1:k=1
  ·by_cases n0:n=0
   ·simp[h1,n0,xa];rfl
   ·by_cases n1:n=1
    ·simp[h1,n1,xa];rfl
    ·simp[h1,n0,n1,xa];rfl
  ·by_cases h2:k=2
   ·by_cases n0:n=0
    ·simp[h2,n0,xa];rfl
    ·simp[h2,n0,xa];rfl
   ·simp[h0,h1,h2,xa];rfl
def aBA:DT:=.ask .eql (.var 0) (.lit 0) (.leaf (I 0)) (.ask .eql (.var 0) (.lit 1) (.ask .lss (.var 1) (.lit 0) (.leaf (I 1)) (.ask .gtr (.var 1) (.lit 1) (.leaf (I 1)) (.leaf (I 0)))) (.ask .eql (.var 0) (.lit 2) (.ask .neq (.var 1) (.lit 0) (.leaf (I 1)) (.leaf (I 0))) (.ask .eql (.var 0) (.lit 3) (.leaf (I 1)) (.ask .lss (.var 0) (.lit 0) (.leaf (I 1)) (.ask .gtr (.var 0) (.lit 3) (.leaf (I 1)) (.leaf (I 0)))))))
theorem aur(ρ:Nat→Int)(a b:SI):holds ρ .lss a b=decide (a.den ρ<b.den ρ):=by
 unfold holds
 simp only[fg]
theorem aus(ρ:Nat→Int)(a b:SI):holds ρ .gtr a b=decide (b.den ρ<a.den ρ):=by
 unfold holds
 simp only[fg]
theorem aut(ρ:Nat→Int)(a b:SI):holds ρ .neq a b=decide (a.den ρ≠b.den ρ):=by
 unfold holds
 simp only[fg]
 by_cases h:a.den ρ=b.den ρ<;>simp[h]
theorem auu(u:U):aBA.val (rho [u.k,u.n])=I (if xa u=true then 0 else 1):=by
 obtain⟨k,n⟩:=u
 have d0:(SI.var 0).den (rho [k,n])=k:=rfl
 have d1:(SI.var 1).den (rho [k,n])=n:=rfl
 have dl:∀ z:Int,(SI.lit z).den (rho [k,n])=z:=fun _=>rfl
 unfold aBA
 simp only[DT.val,aiM,aur,aus,aut,d0,d1,dl]
 have z:∀ {b:Bool} {x:Int},(x=if b=true then 0 else 1)→(AV.int .i64 (.lit x):AV)=I (if b=true then 0 else 1):=fun h=>by rw[h]
 by_cases h0:k=0
 ·simp[h0,xa];rfl
 ·by_cases h1:k=1
  ·by_cases n0:n<0
   ·have:n≠0∧n≠1:=by omega
    simp[h1,n0,xa,this.1,this.2];rfl
   ·by_cases n1:1<n
    ·have:n≠0∧n≠1:=by omega
     simp[h1,n0,n1,xa,this.1,this.2];rfl
    ·have:n=0∨n=1:=by omega
     simp[h1,n0,n1,xa,this];rfl
  ·by_cases h2:k=2
   ·by_cases n0:n=0
    ·simp[h2,n0,xa];rfl
    ·simp[h2,n0,xa];rfl
   ·by_cases h3:k=3
    ·simp[h3,xa];rfl
    ·by_cases h4:k<0
     ·simp[h0,h1,h2,h3,h4,xa];rfl
     ·have h5:3<k:=by omega
      simp[h0,h1,h2,h3,h4,h5,xa];rfl
def IB:HO:=⟨159,U,fun u=>[.agg (eU u)],fun u=>I (if xa u=true then 0 else 1),by
 intro q p h
 simp only[List.cons.injEq,and_true] at h
 rw[ajk h]⟩
theorem tu:lj Tryz.prog .nil IB:=by
 refine⟨⟨_,kH (n:=159) (by decide)⟩,fun(u:U)=>?_⟩
 have h:=fw (f:=159) (l:=ahE) (by decide) rfl atA (rho [u.k,u.n])
 have hs:DT.same atz.dt okT []=true:=by kernel_rfl
 rw[DT.mK (ρ:=rho [u.k,u.n]) (F:=[]) hs trivial,axq] at h
 exact h
def IC:HO:=⟨96,U,fun u=>[.agg (eU u)],fun u=>I (if xa u=true then 0 else 1),by
 intro q p h
 simp only[List.cons.injEq,and_true] at h
 rw[ajk h]⟩
theorem SB:lj Tryz.prog .nil IC:=by
 refine⟨⟨_,kH (n:=96) (by decide)⟩,fun(u:U)=>?_⟩
 have h:=fw (f:=96) (l:=ahF) (by decide) rfl atC (rho [u.k,u.n])
 have hs:DT.same atB.dt aBA []=true:=by kernel_rfl
 rw[DT.mK (ρ:=rho [u.k,u.n]) (F:=[]) hs trivial,auu] at h
 exact h
structure QT where
 s:St
 t:St
 hs:s.kids.length≤3
 ht:t.kids.length≤3
inductive S4:Nat→Prop
 |a:S4 0
 |b:S4 1
 |c:S4 2
 |d:S4 3
theorem Of:∀ {n:Nat},n≤3→S4 n
 |0,_=>.a
 |1,_=>.b
 |2,_=>.c
 |3,_=>.d
 |n+4,h=>absurd h (by omega)
abbrev auv(n m:Nat):List AV:=[stS 0 n,stS 8 m]
theorem auw{n m:Nat}(h:S4 n)(k:S4 m):AV.HI (auv n m)=true:=by cases h<;>cases k<;>rfl
theorem QT.gw(q:QT):AV.gw (FB q.s q.t) (auv q.s.kids.length q.t.kids.length)=[.agg (eS q.s),.agg (eS q.t)]:=by
 show [_,_]=_
 rw[sub_one q.hs,avb q.ht]
theorem QT.inj{q p:QT}(h:([.agg (eS q.s),.agg (eS q.t)]:List AV)=[.agg (eS p.s),.agg (eS p.t)]):q.s=p.s∧q.t=p.t:=by
 simp only[List.cons.injEq,and_true] at h
 exact⟨LQ h.1,LQ h.2⟩
def ayK:Nat→Nat→aA
 |0,0=>Nt
 |0,1=>ahG
 |0,2=>ahJ
 |0,3=>ahM
 |1,0=>ahP
 |1,1=>ahS
 |1,2=>ahV
 |1,3=>ahY
 |2,0=>ah1
 |2,1=>ah4
 |2,2=>ah7
 |2,3=>aia
 |3,0=>aid
 |3,1=>aih
 |3,2=>aik
 |3,3=>ain
 |_,_=>Nt
theorem aFs{n m:Nat}(h:S4 n)(k:S4 m):aA.cp (CF aD) 139 (ayK n m) ⟨ae 139 (fx 139) (auv n m),[],.nil,aS⟩ [] []=true:=by
 cases h<;>cases k
 ·exact akh
 ·exact akn
 ·exact akt
 ·exact akz
 ·exact akF
 ·exact akL
 ·exact akR
 ·exact akX
 ·exact ak3
 ·exact ak9
 ·exact alf
 ·exact alm
 ·exact als
 ·exact alz
 ·exact alF
 ·exact alL
theorem aFt{n m:Nat}(h:S4 n)(k:S4 m):DT.same (ayK n m).dt (LK (fun i=>I i) (vars 0 n) (vars 8 m)) []=true:=by
 cases h<;>cases k<;>kernel_rfl
def Sw:HO:=⟨139,QT,fun q=>[.agg (eS q.s),.agg (eS q.t)],fun q=>I (FE q.s q.t),by
 intro q p h
 obtain⟨h1,h2⟩:=QT.inj h
 simp only[h1,h2]⟩
theorem uv:lj Tryz.prog .nil Sw:=by
 refine⟨⟨_,kH (n:=139) (by decide)⟩,fun q=>?_⟩
 have h1:=Of q.hs
 have h2:=Of q.ht
 have h:=fw (f:=139) (by decide) (auw h1 h2) (aFs h1 h2) (FB q.s q.t)
 rw[q.gw,Rq q.hs q.ht (f:=fun i=>I i) (fun _ _=>rfl) (aFt h1 h2)] at h
 exact h
def ayL:Nat→Nat→aA
 |0,0=>Nu
 |0,1=>ahH
 |0,2=>ahK
 |0,3=>ahN
 |1,0=>ahQ
 |1,1=>ahT
 |1,2=>ahW
 |1,3=>ahZ
 |2,0=>ah2
 |2,1=>ah5
 |2,2=>ah8
 |2,3=>aib
 |3,0=>aie
 |3,1=>aii
 |3,2=>ail
 |3,3=>aio
 |_,_=>Nu
theorem aFu{n m:Nat}(h:S4 n)(k:S4 m):aA.cp (CF aD) 145 (ayL n m) ⟨ae 145 (fx 145) (auv n m),[],.nil,aS⟩ [] []=true:=by
 cases h<;>cases k
 ·exact akj
 ·exact akp
 ·exact akv
 ·exact akB
 ·exact akH
 ·exact akN
 ·exact akT
 ·exact akZ
 ·exact ak5
 ·exact alb
 ·exact alh
 ·exact alo
 ·exact alv
 ·exact alB
 ·exact alH
 ·exact alN
theorem aFv{n m:Nat}(h:S4 n)(k:S4 m):DT.same (ayL n m).dt (LK (fun i=>I i) (vars 0 n) (vars 8 m)) []=true:=by
 cases h<;>cases k<;>kernel_rfl
def Sy:HO:=⟨145,QT,fun q=>[.agg (eS q.s),.agg (eS q.t)],fun q=>I (FE q.s q.t),by
 intro q p h
 obtain⟨h1,h2⟩:=QT.inj h
 simp only[h1,h2]⟩
theorem aj9:lj Tryz.prog .nil Sy:=by
 refine⟨⟨_,kH (n:=145) (by decide)⟩,fun q=>?_⟩
 have h1:=Of q.hs
 have h2:=Of q.ht
 have h:=fw (f:=145) (by decide) (auw h1 h2) (aFu h1 h2) (FB q.s q.t)
 rw[q.gw,Rq q.hs q.ht (f:=fun i=>I i) (fun _ _=>rfl) (aFv h1 h2)] at h
 exact h
def ayM:Nat→Nat→aA
 |0,0=>Nv
 |0,1=>ahI
 |0,2=>ahL
 |0,3=>ahO
 |1,0=>ahR
 |1,1=>ahU
 |1,2=>ahX
 |1,3=>ah0
 |2,0=>ah3
 |2,1=>ah6
 |2,2=>ah9
 |2,3=>aic
 |3,0=>aif
 |3,1=>aij
 |3,2=>aim
 |3,3=>aip
 |_,_=>Nv
theorem aFw{n m:Nat}(h:S4 n)(k:S4 m):aA.cp (CF aD) 141 (ayM n m) ⟨ae 141 (fx 141) (auv n m),[],.nil,aS⟩ [] []=true:=by
 cases h<;>cases k
 ·exact akl
 ·exact akr
 ·exact akx
 ·exact akD
 ·exact akJ
 ·exact akP
 ·exact akV
 ·exact ak1
 ·exact ak7
 ·exact ald
 ·exact alj
 ·exact alq
 ·exact alx
 ·exact alD
 ·exact alJ
 ·exact alP
theorem aFx{n m:Nat}(h:S4 n)(k:S4 m):DT.same (ayM n m).dt (LK (fun i=>.bool (i==0)) (vars 0 n) (vars 8 m)) []=true:=by
 cases h<;>cases k<;>kernel_rfl
def Sz:HO:=⟨141,QT,fun q=>[.agg (eS q.s),.agg (eS q.t)],fun q=>.bool (decide (q.s=q.t)),by
 intro q p h
 obtain⟨h1,h2⟩:=QT.inj h
 simp only[h1,h2]⟩
theorem aka:lj Tryz.prog .nil Sz:=by
 refine⟨⟨_,kH (n:=141) (by decide)⟩,fun q=>?_⟩
 have h1:=Of q.hs
 have h2:=Of q.ht
 have h:=fw (f:=141) (by decide) (auw h1 h2) (aFw h1 h2) (FB q.s q.t)
 rw[q.gw,Rq q.hs q.ht (f:=fun i=>.bool (i==0)) (fun _ _=>rfl) (aFx h1 h2)] at h
 have e:(FE q.s q.t==0)=decide (q.s=q.t):=by
  rw[Bool.eq_iff_iff];simp[Rr]
 simp only[e] at h
 exact h
structure QK where
 s:St
 hs:s.kids.length≤3
def Nq:HO:=⟨62,QK,fun q=>[.agg (eS q.s)],fun q=>.agg (eS q.s),by
 intro q p h
 simp only[List.cons.injEq,and_true] at h
 rw[LQ h]⟩
def auy:Nat→aA
 |0=>atD
 |1=>atG
 |2=>atJ
 |_=>atM
theorem aBB{n:Nat}(h:S4 n):aA.cp (CF aD) 62 (auy n) ⟨ae 62 (fx 62) [stS 0 n],[],.nil,aS⟩ [] []=true:=by
 cases h
 ·exact atF
 ·exact atI
 ·exact atL
 ·exact atO
theorem aBC{n:Nat}(h:S4 n):DT.same (auy n).dt (.leaf (stS 0 n)) []=true:=by
 cases h<;>kernel_rfl
theorem aFy{n:Nat}(h:S4 n):AV.HI [stS 0 n]=true:=by cases h<;>rfl
theorem qu:lj Tryz.prog .nil Nq:=by
 refine⟨⟨_,kH (n:=62) (by decide)⟩,fun q=>?_⟩
 have h1:=Of q.hs
 have h:=fw (f:=62) (by decide) (aFy h1) (aBB h1) (FB q.s q.s)
 rw[DT.mK (ρ:=FB q.s q.s) (aBC h1) trivial] at h
 have e:AV.gw (FB q.s q.s) [stS 0 q.s.kids.length]=[.agg (eS q.s)]:=by
  show [_]=_
  rw[sub_one q.hs]
 have e2:(DT.leaf (stS 0 q.s.kids.length)).val (FB q.s q.s)=.agg (eS q.s):=sub_one q.hs
 rw[e,e2] at h
 exact h
end Ln
