/- A part of the proof. No condition. -/
import Derived.Test.YtecbfpngkfdkoaaGreatP15
import Derived.Test.YtecbfpngkfdkoaaGreatP16
namespace Ln
open Go.Sx Go Go.Proofs
theorem ZY:∀{l m:List U},ai eU l=ai eU m→l=m
 | [],[],_=>rfl
 | [],v ::m,h=>by simp[dm,eU]at h
 |u ::l,[],h=>by simp[dm,eU]at h
 |u ::l,v ::m,h=>by
  simp[dm,eU]at h;obtain⟨h1,h2,h3⟩:=h;have:=ZY h3;obtain⟨a,b⟩:=u;obtain⟨c,d⟩:=v
  simp_all
theorem Lq{l m:List U}(h:bB l=bB m):l=m:=by
 cases l with
 |nil=>
  cases m with
  |nil=>rfl
  |cons v m=>cases h
 |cons u l=>
  cases m with
  |nil=>cases h
  |cons v m=>simp only[bB,AV.sl.injEq]at h;exact ZY h.1
theorem Nn{s t:St}(h:AV.agg (eS s)=.agg (eS t)):s=t:=by obtain⟨a,b,l⟩:=s;obtain⟨c,d,m⟩:=t;simp only[eS,AV.agg.injEq,List.cons.injEq,I,AV.int.injEq,SI.lit.injEq,true_and,and_true]at h;obtain⟨h1,h2,h3⟩:=h;rw[h1,h2,Lq h3]
theorem adB{u v:U}(h:AV.agg (eU u)=.agg (eU v)):u=v:=by obtain⟨a,b⟩:=u;obtain⟨c,d⟩:=v;simp only[eU,AV.agg.injEq,List.cons.injEq,I,AV.int.injEq,SI.lit.injEq,true_and,and_true]at h;rw[h.1,h.2]
theorem agQ{c d:j6}(h1:c.yW=d.yW)(h2:c.name=d.name):c=d:=by cases c<;>cases d<;>first|rfl|(exact absurd h1 (by decide))|exact absurd h2 (by decide)
theorem agR{c d:j6}(h:gH c.yW=gH d.yW):c.yW=d.yW:=by cases c<;>cases d<;>first|rfl|(exfalso;simp[gH,mc,j6.yW]at h)
theorem as2(c:j6):c.ar≤1:=by cases c<;>decide
structure QC where
 c:j6
 s:St
 l:List U
 ok:iX c.yW s
 ar:l.length=c.ar
structure QH where
 q:QC
 r:U
def QC.args(q:QC):List AV:=[vM,gH q.c.yW,.str q.c.name.1 q.c.name.2,.agg (eS q.s),bB q.l,mF]
def QH.args(q:QH):List AV:=[vM,gH q.q.c.yW,.str q.q.c.name.1 q.q.c.name.2,.agg (eS q.q.s),bB q.q.l,.agg (eU q.r),mF]
theorem QC.inj{q p:QC}(h:q.args=p.args):q.c=p.c∧q.s=p.s∧q.l=p.l:=by simp only[QC.args,List.cons.injEq,true_and,and_true]at h;obtain⟨h1,h2,h3,h4⟩:=h;simp only[AV.str.injEq]at h2;exact⟨agQ (agR h1) (Prod.ext h2.1 h2.2),Nn h3,Lq h4⟩
theorem QH.inj{q p:QH}(h:q.args=p.args):q.q.c=p.q.c∧q.q.s=p.q.s∧q.q.l=p.q.l∧q.r=p.r:=by simp only[QH.args,List.cons.injEq,true_and,and_true]at h;obtain⟨h1,h2,h3,h4,h5⟩:=h;simp only[AV.str.injEq]at h2;exact⟨agQ (agR h1) (Prod.ext h2.1 h2.2),Nn h3,Lq h4,adB h5⟩
theorem QC.jC(q:QC):AV.jC (AS q.s q.l z0 0) (aqh q.c q.s.kids.length)=q.args:=by
 have h3:q.s.kids.length≤3:=Nat.le_trans q.ok (adz _);have h1:q.l.length≤1:=by rw[q.ar];exact as2 _
 have e1:=GQ (ρ:=AS q.s q.l z0 0) vM QO;have e2:=akX (aZZ:=q.l) (r:=z0) (w:=0) h3;have e3:=agK (s:=q.s) (r:=z0) (w:=0) h1;rw[q.ar]at e3;show [_,_,_,_,_,_]=_;rw[e1,e2,e3];rfl
theorem QH.jC(q:QH):AV.jC (AS q.q.s q.q.l q.r 0) (No q.q.c q.q.s.kids.length)=q.args:=by
 have h3:q.q.s.kids.length≤3:=Nat.le_trans q.q.ok (adz _);have h1:q.q.l.length≤1:=by rw[q.q.ar];exact as2 _
 have e1:=GQ (ρ:=AS q.q.s q.q.l q.r 0) vM QO;have e2:=akX (aZZ:=q.q.l) (r:=q.r) (w:=0) h3;have e3:=agK (s:=q.q.s) (r:=q.r) (w:=0) h1;have e4:=ap6 (s:=q.q.s) (aZZ:=q.q.l) (r:=q.r) (w:=0);rw[q.q.ar]at e3;show [_,_,_,_,_,_,_]=_;rw[e1,e2,e3,e4];rfl
def XC:Lr:=⟨149,QC,QC.args,fun q=>.tuple [.bool (K0.Xq q.c q.s q.l),I (K0.Xr q.c q.s q.l)],by intro q p h;obtain⟨h1,h2,h3⟩:=QC.inj h;simp only[h1,h2,h3]⟩
theorem Eb:nF Tryz.prog .nil XC:=by refine⟨⟨_,l9 (n:=149) (by decide)⟩,fun q=>?_⟩;have sh:=Jj q.ok;have h:=iv (f:=149) (by decide) (as3 sh) (azz sh) (AS q.s q.l z0 0);rw[q.jC]at h;have hv:=(agH q.ok q.l);unfold akR at hv;rw[hv]at h;exact h
def Np:Lr:=⟨150,QH,QH.args,fun q=>.tuple [.bool (K0.Cl q.q.c q.q.s q.q.l q.r),I (K0.Cm q.q.c q.q.s q.q.l q.r)],by intro q p h;obtain⟨h1,h2,h3,h4⟩:=QH.inj h;simp only[h1,h2,h3,h4]⟩
theorem oW:nF Tryz.prog .nil Np:=by refine⟨⟨_,l9 (n:=150) (by decide)⟩,fun q=>?_⟩;have sh:=Jj q.q.ok;have h:=iv (f:=150) (by decide) (QS sh) (aqi sh) (AS q.q.s q.q.l q.r 0);rw[q.jC]at h;have hv:=(Wf q.q.ok q.q.l q.r);unfold Rm at hv;rw[hv]at h;exact h
def Rx:Lr:=⟨151,QH,QH.args,fun q=>.tuple [.agg (eS (K0.EM q.q.c q.q.s q.q.l q.r)),I (K0.GM q.q.c q.q.s q.q.l q.r)],by intro q p h;obtain⟨h1,h2,h3,h4⟩:=QH.inj h;simp only[h1,h2,h3,h4]⟩
theorem Bj:nF Tryz.prog .nil Rx:=by refine⟨⟨_,l9 (n:=151) (by decide)⟩,fun q=>?_⟩;have sh:=Jj q.q.ok;have h:=iv (f:=151) (by decide) (QS sh) (auS sh) (AS q.q.s q.q.l q.r 0);rw[q.jC]at h;have hv:=(ZO q.q.ok q.q.l q.r);unfold ZL at hv;rw[hv]at h;exact h
def XD:Lr:=⟨154,QC,QC.args,fun q=>.tuple [.bool (K0.Xq q.c q.s q.l),I (K0.Xr q.c q.s q.l)],by intro q p h;obtain⟨h1,h2,h3⟩:=QC.inj h;simp only[h1,h2,h3]⟩
theorem adC:nF Tryz.prog .nil XD:=by refine⟨⟨_,l9 (n:=154) (by decide)⟩,fun q=>?_⟩;have sh:=Jj q.ok;have h:=iv (f:=154) (by decide) (as3 sh) (azA sh) (AS q.s q.l z0 0);rw[q.jC]at h;rw[DT.wD (ρ:=AS q.s q.l z0 0) (aqj sh) trivial]at h;have hv:=(agH q.ok q.l);unfold akR at hv;rw[hv]at h;exact h
def Nq:Lr:=⟨155,QH,QH.args,fun q=>.tuple [.bool (K0.Cl q.q.c q.q.s q.q.l q.r),I (K0.Cm q.q.c q.q.s q.q.l q.r)],by intro q p h;obtain⟨h1,h2,h3,h4⟩:=QH.inj h;simp only[h1,h2,h3,h4]⟩
theorem XE:nF Tryz.prog .nil Nq:=by refine⟨⟨_,l9 (n:=155) (by decide)⟩,fun q=>?_⟩;have sh:=Jj q.q.ok;have h:=iv (f:=155) (by decide) (QS sh) (aqk sh) (AS q.q.s q.q.l q.r 0);rw[q.jC]at h;rw[DT.wD (ρ:=AS q.q.s q.q.l q.r 0) (aiq sh) trivial]at h;have hv:=(Wf q.q.ok q.q.l q.r);unfold Rm at hv;rw[hv]at h;exact h
def Ry:Lr:=⟨156,QH,QH.args,fun q=>.tuple [.agg (eS (K0.EM q.q.c q.q.s q.q.l q.r)),I (K0.GM q.q.c q.q.s q.q.l q.r)],by intro q p h;obtain⟨h1,h2,h3,h4⟩:=QH.inj h;simp only[h1,h2,h3,h4]⟩
theorem ZZ:nF Tryz.prog .nil Ry:=by refine⟨⟨_,l9 (n:=156) (by decide)⟩,fun q=>?_⟩;have sh:=Jj q.q.ok;have h:=iv (f:=156) (by decide) (QS sh) (auT sh) (AS q.q.s q.q.l q.r 0);rw[q.jC]at h;rw[DT.wD (ρ:=AS q.q.s q.q.l q.r 0) (alc sh) trivial]at h;have hv:=(ZO q.q.ok q.q.l q.r);unfold ZL at hv;rw[hv]at h;exact h
structure QI where
 i:Nat
 lt:i<3
theorem Uz{i j:Nat}(hi:i<3)(hj:j<3)(h:gH i=gH j):i=j:=by
 have Vu:i=0∨i=1∨i=2:=by omega
 have Wq:j=0∨j=1∨j=2:=by omega
 rcases Vu with rfl|rfl|rfl<;>rcases Wq with rfl|rfl|rfl<;>first|rfl|(exfalso;simp[gH,mc]at h)
theorem Xc(i:Nat):AV.gS [vM,gH i,mF]=true:=by have:=QO;simp only[AV.gS,this];rfl
def TK:Lr:=⟨132,QI,fun q=>[vM,gH q.i,mF],fun q=>.tuple [.agg (eS (aQ q.i)),I 0],by intro q p h;simp only[List.cons.injEq,true_and,and_true]at h;rw[Uz q.lt p.lt h]⟩
theorem HD:nF Tryz.prog .nil TK:=by
 refine⟨⟨_,l9 (n:=132) (by decide)⟩,fun q=>?_⟩;obtain⟨i,hi⟩:=q;have hv:=agZ
 match i,hi with
 |0,_=>have h:=iv (f:=132) (l:=[vM,gH 0,mF]) (d:=PK) (by decide) (by simp only[AV.IP,hv];rfl) VS (fun _=>0);rw[gZ _ (Xc 0)]at h;exact h
 |1,_=>have h:=iv (f:=132) (l:=[vM,gH 1,mF]) (d:=J3) (by decide) (by simp only[AV.IP,hv];rfl) Qx (fun _=>0);rw[gZ _ (Xc 1)]at h;exact h
 |2,_=>have h:=iv (f:=132) (l:=[vM,gH 2,mF]) (d:=Ih) (by decide) (by simp only[AV.IP,hv];rfl) Oj (fun _=>0);rw[gZ _ (Xc 2)]at h;exact h
def TL:Lr:=⟨73,QI,fun q=>[vM,gH q.i,mF],fun q=>.tuple [.agg (eS (aQ q.i)),I 0],by intro q p h;simp only[List.cons.injEq,true_and,and_true]at h;rw[Uz q.lt p.lt h]⟩
theorem abx:nF Tryz.prog .nil TL:=by
 refine⟨⟨_,l9 (n:=73) (by decide)⟩,fun q=>?_⟩;obtain⟨i,hi⟩:=q;have hv:=agZ
 match i,hi with
 |0,_=>have h:=iv (f:=73) (l:=[vM,gH 0,mF]) (d:=Ps) (by decide) (by simp only[AV.IP,hv];rfl) VE (fun _=>0);rw[gZ _ (Xc 0)]at h;exact h
 |1,_=>have h:=iv (f:=73) (l:=[vM,gH 1,mF]) (d:=JP) (by decide) (by simp only[AV.IP,hv];rfl) Qn (fun _=>0);rw[gZ _ (Xc 1)]at h;exact h
 |2,_=>have h:=iv (f:=73) (l:=[vM,gH 2,mF]) (d:=H6) (by decide) (by simp only[AV.IP,hv];rfl) Od (fun _=>0);rw[gZ _ (Xc 2)]at h;exact h
def agt:Lr:=⟨129,QI,fun q=>[vM,I 4,gH q.i],fun q=>.tuple [.agg (Kd q.i),.bool true],by intro q p h;simp only[List.cons.injEq,true_and,and_true]at h;rw[Uz q.lt p.lt h]⟩
theorem JL:nF Tryz.prog .nil agt:=by
 refine⟨⟨_,l9 (n:=129) (by decide)⟩,fun q=>?_⟩;obtain⟨i,hi⟩:=q;have h:=Rh
 match i,hi with
 |0,_=>exact h.1
 |1,_=>exact h.2.1
 |2,_=>exact h.2.2.1
def okT:DT:=.ask .eql (.var 0) (.lit 0) (.leaf (I 0)) (.ask .eql (.var 0) (.lit 1) (.ask .eql (.var 1) (.lit 0) (.leaf (I 0)) (.ask .eql (.var 1) (.lit 1) (.leaf (I 0)) (.leaf (I 1)))) (.ask .eql (.var 0) (.lit 2) (.ask .eql (.var 1) (.lit 0) (.leaf (I 0)) (.leaf (I 1))) (.leaf (I 1))))
theorem Dv(ρ:Nat→Int)(a b:SI):holds ρ .eql a b=decide (a.den ρ=b.den ρ):=by unfold holds;simp only[iY];by_cases h:a.den ρ=b.den ρ<;>simp[h]
theorem asI(u:U):okT.val (rho [u.k,u.n])=I (if uA u=true then 0 else 1):=by
 obtain⟨k,n⟩:=u;have d0:(SI.var 0).den (rho [k,n])=k:=rfl;have d1:(SI.var 1).den (rho [k,n])=n:=rfl;have dl:∀z:Int,(SI.lit z).den (rho [k,n])=z:=fun _=>rfl;unfold okT;simp only[DT.val,Dv,d0,d1,dl];by_cases h0:k=0
 ·simp[h0,uA];rfl
 ·by_cases h1:k=1
  ·by_cases n0:n=0
   ·simp[h1,n0,uA];rfl
   ·by_cases n1:n=1
    ·simp[h1,n1,uA];rfl
    ·simp[h1,n0,n1,uA];rfl
  ·by_cases h2:k=2
   ·by_cases n0:n=0
    ·simp[h2,n0,uA];rfl
    ·simp[h2,n0,uA];rfl
   ·simp[h0,h1,h2,uA];rfl
def axG:DT:=.ask .eql (.var 0) (.lit 0) (.leaf (I 0)) (.ask .eql (.var 0) (.lit 1) (.ask .lss (.var 1) (.lit 0) (.leaf (I 1)) (.ask .gtr (.var 1) (.lit 1) (.leaf (I 1)) (.leaf (I 0)))) (.ask .eql (.var 0) (.lit 2) (.ask .neq (.var 1) (.lit 0) (.leaf (I 1)) (.leaf (I 0))) (.ask .eql (.var 0) (.lit 3) (.leaf (I 1)) (.ask .lss (.var 0) (.lit 0) (.leaf (I 1)) (.ask .gtr (.var 0) (.lit 3) (.leaf (I 1)) (.leaf (I 0)))))))
theorem ao9(ρ:Nat→Int)(a b:SI):holds ρ .lss a b=decide (a.den ρ<b.den ρ):=by unfold holds;simp only[iY]
theorem apa(ρ:Nat→Int)(a b:SI):holds ρ .gtr a b=decide (b.den ρ<a.den ρ):=by unfold holds;simp only[iY]
theorem apb(ρ:Nat→Int)(a b:SI):holds ρ .neq a b=decide (a.den ρ≠b.den ρ):=by unfold holds;simp only[iY];by_cases h:a.den ρ=b.den ρ<;>simp[h]
theorem apc(u:U):axG.val (rho [u.k,u.n])=I (if uA u=true then 0 else 1):=by
 obtain⟨k,n⟩:=u;have d0:(SI.var 0).den (rho [k,n])=k:=rfl;have d1:(SI.var 1).den (rho [k,n])=n:=rfl;have dl:∀z:Int,(SI.lit z).den (rho [k,n])=z:=fun _=>rfl;unfold axG;simp only[DT.val,Dv,ao9,apa,apb,d0,d1,dl];have z:∀{b:Bool} {x:Int},(x=if b=true then 0 else 1)→(AV.int .i64 (.lit x):AV)=I (if b=true then 0 else 1):=fun h=>by rw[h]
 by_cases h0:k=0
 ·simp[h0,uA];rfl
 ·by_cases h1:k=1
  ·by_cases n0:n<0
   ·have:n≠0∧n≠1:=by omega
    simp[h1,n0,uA,this.1,this.2];rfl
   ·by_cases n1:1<n
    ·have:n≠0∧n≠1:=by omega
     simp[h1,n0,n1,uA,this.1,this.2];rfl
    ·have:n=0∨n=1:=by omega
     simp[h1,n0,n1,uA,this];rfl
  ·by_cases h2:k=2
   ·by_cases n0:n=0
    ·simp[h2,n0,uA];rfl
    ·simp[h2,n0,uA];rfl
   ·by_cases h3:k=3
    ·simp[h3,uA];rfl
    ·by_cases h4:k<0
     ·simp[h0,h1,h2,h3,h4,uA];rfl
     ·have h5:3<k:=by omega
      simp[h0,h1,h2,h3,h4,h5,uA];rfl
def akf:Lr:=⟨159,U,fun u=>[.agg (eU u)],fun u=>I (if uA u=true then 0 else 1),by intro q p h;simp only[List.cons.injEq,and_true]at h;rw[adB h]⟩
theorem Ej:nF Tryz.prog .nil akf:=by
 refine⟨⟨_,l9 (n:=159) (by decide)⟩,fun(u:U)=>?_⟩;have h:=iv (f:=159) (l:=abE) (by decide) rfl an1 (rho [u.k,u.n]);have hs:DT.same an0.dt okT []=true:=by kernel_rfl
 rw[DT.wD (ρ:=rho [u.k,u.n]) (F:=[]) hs trivial,asI]at h;exact h
def N9:Lr:=⟨96,U,fun u=>[.agg (eU u)],fun u=>I (if uA u=true then 0 else 1),by intro q p h;simp only[List.cons.injEq,and_true]at h;rw[adB h]⟩
theorem YG:nF Tryz.prog .nil N9:=by
 refine⟨⟨_,l9 (n:=96) (by decide)⟩,fun(u:U)=>?_⟩;have h:=iv (f:=96) (l:=abF) (by decide) rfl an3 (rho [u.k,u.n]);have hs:DT.same an2.dt axG []=true:=by kernel_rfl
 rw[DT.wD (ρ:=rho [u.k,u.n]) (F:=[]) hs trivial,apc]at h;exact h
structure QT where
 s:St
 t:St
 hs:s.kids.length≤3
 ht:t.kids.length≤3
inductive S4:Nat→Prop
 |a:S4 0
 |b:S4 1
 |c:S4 2
 |d:S4 3
theorem Pr:∀{n:Nat},n≤3→S4 n
 |0,_=>.a
 |1,_=>.b
 |2,_=>.c
 |3,_=>.d
 |n+4,h=>absurd h (by omega)
abbrev apd(n m:Nat):List AV:=[stS 0 n,stS 8 m]
theorem ape{n m:Nat}(h:S4 n)(k:S4 m):AV.IP (apd n m)=true:=by cases h<;>cases k<;>rfl
theorem QT.jC(q:QT):AV.jC (yX q.s q.t) (apd q.s.kids.length q.t.kids.length)=[.agg (eS q.s),.agg (eS q.t)]:=by show [_,_]=_;rw[sub_one q.hs,ap7 q.ht]
theorem QT.inj{q p:QT}(h:([.agg (eS q.s),.agg (eS q.t)]:List AV)=[.agg (eS p.s),.agg (eS p.t)]):q.s=p.s∧q.t=p.t:=by simp only[List.cons.injEq,and_true]at h;exact⟨Nn h.1,Nn h.2⟩
def aus:Nat→Nat→aP
 |0,0=>TQ
 |0,1=>abG
 |0,2=>abJ
 |0,3=>abM
 |1,0=>abP
 |1,1=>abS
 |1,2=>abV
 |1,3=>abY
 |2,0=>ab3
 |2,1=>ab6
 |2,2=>ab9
 |2,3=>acd
 |3,0=>acg
 |3,1=>acj
 |3,2=>acn
 |3,3=>acq
 |_,_=>TQ
theorem aCx{n m:Nat}(h:S4 n)(k:S4 m):aP.di (CF aR) 139 (aus n m) ⟨ah 139 (fx 139) (apd n m),[],.nil,bG⟩ [] []=true:=by
 cases h<;>cases k
 ·exact aeA
 ·exact aeG
 ·exact aeM
 ·exact aeS
 ·exact aeY
 ·exact ae4
 ·exact afa
 ·exact afg
 ·exact afm
 ·exact afs
 ·exact afy
 ·exact afE
 ·exact afK
 ·exact afQ
 ·exact afW
 ·exact af4
theorem aCy{n m:Nat}(h:S4 n)(k:S4 m):DT.same (aus n m).dt (Rp (fun i=>I i) (vars 0 n) (vars 8 m)) []=true:=by cases h<;>cases k<;>kernel_rfl
def YC:Lr:=⟨139,QT,fun q=>[.agg (eS q.s),.agg (eS q.t)],fun q=>I (lL q.s q.t),by intro q p h;obtain⟨h1,h2⟩:=QT.inj h;simp only[h1,h2]⟩
theorem Ai:nF Tryz.prog .nil YC:=by refine⟨⟨_,l9 (n:=139) (by decide)⟩,fun q=>?_⟩;have h1:=Pr q.hs;have h2:=Pr q.ht;have h:=iv (f:=139) (by decide) (ape h1 h2) (aCx h1 h2) (yX q.s q.t);rw[q.jC,Xv q.hs q.ht (f:=fun i=>I i) (fun _ _=>rfl) (aCy h1 h2)]at h;exact h
def aut:Nat→Nat→aP
 |0,0=>TR
 |0,1=>abH
 |0,2=>abK
 |0,3=>abN
 |1,0=>abQ
 |1,1=>abT
 |1,2=>abW
 |1,3=>abZ
 |2,0=>ab4
 |2,1=>ab7
 |2,2=>aca
 |2,3=>ace
 |3,0=>ach
 |3,1=>ack
 |3,2=>aco
 |3,3=>acr
 |_,_=>TR
theorem aCz{n m:Nat}(h:S4 n)(k:S4 m):aP.di (CF aR) 145 (aut n m) ⟨ah 145 (fx 145) (apd n m),[],.nil,bG⟩ [] []=true:=by
 cases h<;>cases k
 ·exact aeC
 ·exact aeI
 ·exact aeO
 ·exact aeU
 ·exact ae0
 ·exact ae6
 ·exact afc
 ·exact afi
 ·exact afo
 ·exact afu
 ·exact afA
 ·exact afG
 ·exact afM
 ·exact afS
 ·exact afY
 ·exact af6
theorem aCA{n m:Nat}(h:S4 n)(k:S4 m):DT.same (aut n m).dt (Rp (fun i=>I i) (vars 0 n) (vars 8 m)) []=true:=by cases h<;>cases k<;>kernel_rfl
def YD:Lr:=⟨145,QT,fun q=>[.agg (eS q.s),.agg (eS q.t)],fun q=>I (lL q.s q.t),by intro q p h;obtain⟨h1,h2⟩:=QT.inj h;simp only[h1,h2]⟩
theorem aer:nF Tryz.prog .nil YD:=by refine⟨⟨_,l9 (n:=145) (by decide)⟩,fun q=>?_⟩;have h1:=Pr q.hs;have h2:=Pr q.ht;have h:=iv (f:=145) (by decide) (ape h1 h2) (aCz h1 h2) (yX q.s q.t);rw[q.jC,Xv q.hs q.ht (f:=fun i=>I i) (fun _ _=>rfl) (aCA h1 h2)]at h;exact h
def auu:Nat→Nat→aP
 |0,0=>TS
 |0,1=>abI
 |0,2=>abL
 |0,3=>abO
 |1,0=>abR
 |1,1=>abU
 |1,2=>abX
 |1,3=>ab2
 |2,0=>ab5
 |2,1=>ab8
 |2,2=>acb
 |2,3=>acf
 |3,0=>aci
 |3,1=>acm
 |3,2=>acp
 |3,3=>acu
 |_,_=>TS
theorem aCB{n m:Nat}(h:S4 n)(k:S4 m):aP.di (CF aR) 141 (auu n m) ⟨ah 141 (fx 141) (apd n m),[],.nil,bG⟩ [] []=true:=by
 cases h<;>cases k
 ·exact aeE
 ·exact aeK
 ·exact aeQ
 ·exact aeW
 ·exact ae2
 ·exact ae8
 ·exact afe
 ·exact afk
 ·exact afq
 ·exact afw
 ·exact afC
 ·exact afI
 ·exact afO
 ·exact afU
 ·exact af0
 ·exact af8
theorem aCC{n m:Nat}(h:S4 n)(k:S4 m):DT.same (auu n m).dt (Rp (fun i=>.bool (i==0)) (vars 0 n) (vars 8 m)) []=true:=by cases h<;>cases k<;>kernel_rfl
def YE:Lr:=⟨141,QT,fun q=>[.agg (eS q.s),.agg (eS q.t)],fun q=>.bool (decide (q.s=q.t)),by intro q p h;obtain⟨h1,h2⟩:=QT.inj h;simp only[h1,h2]⟩
theorem aes:nF Tryz.prog .nil YE:=by
 refine⟨⟨_,l9 (n:=141) (by decide)⟩,fun q=>?_⟩;have h1:=Pr q.hs;have h2:=Pr q.ht;have h:=iv (f:=141) (by decide) (ape h1 h2) (aCB h1 h2) (yX q.s q.t);rw[q.jC,Xv q.hs q.ht (f:=fun i=>.bool (i==0)) (fun _ _=>rfl) (aCC h1 h2)]at h;have e:(lL q.s q.t==0)=decide (q.s=q.t):=by rw[Bool.eq_iff_iff];simp[yY]
 simp only[e]at h;exact h
structure QK where
 s:St
 hs:s.kids.length≤3
def TN:Lr:=⟨62,QK,fun q=>[.agg (eS q.s)],fun q=>.agg (eS q.s),by intro q p h;simp only[List.cons.injEq,and_true]at h;rw[Nn h]⟩
def apf:Nat→aP
 |0=>an4
 |1=>an7
 |2=>aoa
 |_=>aod
theorem axH{n:Nat}(h:S4 n):aP.di (CF aR) 62 (apf n) ⟨ah 62 (fx 62) [stS 0 n],[],.nil,bG⟩ [] []=true:=by
 cases h
 ·exact an6
 ·exact an9
 ·exact aoc
 ·exact aof
theorem axI{n:Nat}(h:S4 n):DT.same (apf n).dt (.leaf (stS 0 n)) []=true:=by cases h<;>kernel_rfl
theorem aub{n:Nat}(h:S4 n):AV.IP [stS 0 n]=true:=by cases h<;>rfl
theorem wX:nF Tryz.prog .nil TN:=by
 refine⟨⟨_,l9 (n:=62) (by decide)⟩,fun q=>?_⟩;have h1:=Pr q.hs;have h:=iv (f:=62) (by decide) (aub h1) (axH h1) (yX q.s q.s);rw[DT.wD (ρ:=yX q.s q.s) (axI h1) trivial]at h;have e:AV.jC (yX q.s q.s) [stS 0 q.s.kids.length]=[.agg (eS q.s)]:=by show [_]=_;rw[sub_one q.hs]
 have e2:(DT.leaf (stS 0 q.s.kids.length)).val (yX q.s q.s)=.agg (eS q.s):=sub_one q.hs;rw[e,e2]at h;exact h
end Ln
