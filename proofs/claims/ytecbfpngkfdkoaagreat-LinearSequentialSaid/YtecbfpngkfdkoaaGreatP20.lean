/- A part of the proof. No condition. -/
import Derived.Test.YtecbfpngkfdkoaaGreatP15
import Derived.Test.YtecbfpngkfdkoaaGreatP19
namespace Ln
open Go.Sx Go Go.Proofs
theorem aax:∀{l m:List U},ak eU l=ak eU m→l=m
 | [],[],_=>rfl
 | [],v ::m,h=>by simp[dc,eU]at h
 |u ::l,[],h=>by simp[dc,eU]at h
 |u ::l,v ::m,h=>by
  simp[dc,eU]at h;obtain⟨h1,h2,h3⟩:=h;have:=aax h3;obtain⟨a,b⟩:=u;obtain⟨c,d⟩:=v
  simp_all
theorem Ll{l m:List U}(h:aC l=aC m):l=m:=by
 cases l with
 |nil=>
  cases m with
  |nil=>rfl
  |cons v m=>cases h
 |cons u l=>
  cases m with
  |nil=>cases h
  |cons v m=>simp only[aC,AV.sl.injEq]at h;exact aax h.1
theorem FV{s t:St}(h:AV.agg (eS s)=.agg (eS t)):s=t:=by obtain⟨a,b,l⟩:=s;obtain⟨c,d,m⟩:=t;simp only[eS,AV.agg.injEq,List.cons.injEq,I,AV.int.injEq,SI.lit.injEq,true_and,and_true]at h;obtain⟨h1,h2,h3⟩:=h;rw[h1,h2,Ll h3]
theorem ad2{u v:U}(h:AV.agg (eU u)=.agg (eU v)):u=v:=by obtain⟨a,b⟩:=u;obtain⟨c,d⟩:=v;simp only[eU,AV.agg.injEq,List.cons.injEq,I,AV.int.injEq,SI.lit.injEq,true_and,and_true]at h;rw[h.1,h.2]
theorem ahl{c d:aX}(h1:c.fZ=d.fZ)(h2:c.name=d.name):c=d:=by cases c<;>cases d<;>first|rfl|(exact absurd h1 (by decide))|exact absurd h2 (by decide)
theorem ahm{c d:aX}(h:fD c.fZ=fD d.fZ):c.fZ=d.fZ:=by cases c<;>cases d<;>first|rfl|(exfalso;simp[fD,Nj,aX.fZ]at h)
theorem at7(c:aX):c.ar≤1:=by cases c<;>decide
structure QC where
 c:aX
 s:St
 l:List U
 ok:kx c.fZ s
 ar:l.length=c.ar
structure QH where
 q:QC
 r:U
def QC.args(q:QC):List AV:=[vM,fD q.c.fZ,.str q.c.name.1 q.c.name.2,.agg (eS q.s),aC q.l,dp]
def QH.args(q:QH):List AV:=[vM,fD q.q.c.fZ,.str q.q.c.name.1 q.q.c.name.2,.agg (eS q.q.s),aC q.q.l,.agg (eU q.r),dp]
theorem QC.inj{q p:QC}(h:q.args=p.args):q.c=p.c∧q.s=p.s∧q.l=p.l:=by simp only[QC.args,List.cons.injEq,true_and,and_true]at h;obtain⟨h1,h2,h3,h4⟩:=h;simp only[AV.str.injEq]at h2;exact⟨ahl (ahm h1) (Prod.ext h2.1 h2.2),FV h3,Ll h4⟩
theorem QH.inj{q p:QH}(h:q.args=p.args):q.q.c=p.q.c∧q.q.s=p.q.s∧q.q.l=p.q.l∧q.r=p.r:=by simp only[QH.args,List.cons.injEq,true_and,and_true]at h;obtain⟨h1,h2,h3,h4,h5⟩:=h;simp only[AV.str.injEq]at h2;exact⟨ahl (ahm h1) (Prod.ext h2.1 h2.2),FV h3,Ll h4,ad2 h5⟩
theorem QC.ep(q:QC):AV.ep (xO q.s q.l z0 0) (aq2 q.c q.s.kids.length)=q.args:=by
 have h3:q.s.kids.length≤3:=Nat.le_trans q.ok (XX _);have h1:q.l.length≤1:=by rw[q.ar];exact at7 _
 have e1:=dJ (ρ:=xO q.s q.l z0 0) vM re;have e2:=alB (aZZ:=q.l) (r:=z0) (w:=0) h3;have e3:=ahb (s:=q.s) (r:=z0) (w:=0) h1;rw[q.ar]at e3;show [_,_,_,_,_,_]=_;rw[e1,e2,e3];rfl
theorem QH.ep(q:QH):AV.ep (xO q.q.s q.q.l q.r 0) (Nk q.q.c q.q.s.kids.length)=q.args:=by
 have h3:q.q.s.kids.length≤3:=Nat.le_trans q.q.ok (XX _);have h1:q.q.l.length≤1:=by rw[q.q.ar];exact at7 _
 have e1:=dJ (ρ:=xO q.q.s q.q.l q.r 0) vM re;have e2:=alB (aZZ:=q.q.l) (r:=q.r) (w:=0) h3;have e3:=ahb (s:=q.q.s) (r:=q.r) (w:=0) h1;have e4:=aqR (s:=q.q.s) (aZZ:=q.q.l) (r:=q.r) (w:=0);rw[q.q.ar]at e3;show [_,_,_,_,_,_,_]=_;rw[e1,e2,e3,e4];rfl
def X0:FW:=⟨149,QC,QC.args,fun q=>.tuple [.bool (K0.Rm q.c q.s q.l),I (K0.Rn q.c q.s q.l)],by intro q p h;obtain⟨h1,h2,h3⟩:=QC.inj h;simp only[h1,h2,h3]⟩
theorem C5:jJ Tryz.prog .nil X0:=by refine⟨⟨_,iO (n:=149) (by decide)⟩,fun q=>?_⟩;have sh:=IZ q.ok;have h:=cU (f:=149) (by decide) (at8 sh) (aBD sh) (xO q.s q.l z0 0);rw[q.ep]at h;have hv:=(ag8 q.ok q.l);unfold aad at hv;rw[hv]at h;exact h
def Nl:FW:=⟨150,QH,QH.args,fun q=>.tuple [.bool (K0.wk q.q.c q.q.s q.q.l q.r),I (K0.wo q.q.c q.q.s q.q.l q.r)],by intro q p h;obtain⟨h1,h2,h3,h4⟩:=QH.inj h;simp only[h1,h2,h3,h4]⟩
theorem nL:jJ Tryz.prog .nil Nl:=by refine⟨⟨_,iO (n:=150) (by decide)⟩,fun q=>?_⟩;have sh:=IZ q.q.ok;have h:=cU (f:=150) (by decide) (QN sh) (aq3 sh) (xO q.q.s q.q.l q.r 0);rw[q.ep]at h;have hv:=(WD q.q.ok q.q.l q.r);unfold FI at hv;rw[hv]at h;exact h
def Ry:FW:=⟨151,QH,QH.args,fun q=>.tuple [.agg (eS (K0.Ae q.q.c q.q.s q.q.l q.r)),I (K0.BN q.q.c q.q.s q.q.l q.r)],by intro q p h;obtain⟨h1,h2,h3,h4⟩:=QH.inj h;simp only[h1,h2,h3,h4]⟩
theorem Ah:jJ Tryz.prog .nil Ry:=by refine⟨⟨_,iO (n:=151) (by decide)⟩,fun q=>?_⟩;have sh:=IZ q.q.ok;have h:=cU (f:=151) (by decide) (QN sh) (awj sh) (xO q.q.s q.q.l q.r 0);rw[q.ep]at h;have hv:=(aag q.q.ok q.q.l q.r);unfold On at hv;rw[hv]at h;exact h
def X1:FW:=⟨154,QC,QC.args,fun q=>.tuple [.bool (K0.Rm q.c q.s q.l),I (K0.Rn q.c q.s q.l)],by intro q p h;obtain⟨h1,h2,h3⟩:=QC.inj h;simp only[h1,h2,h3]⟩
theorem ad3:jJ Tryz.prog .nil X1:=by refine⟨⟨_,iO (n:=154) (by decide)⟩,fun q=>?_⟩;have sh:=IZ q.ok;have h:=cU (f:=154) (by decide) (at8 sh) (aBE sh) (xO q.s q.l z0 0);rw[q.ep]at h;rw[DT.uJ (ρ:=xO q.s q.l z0 0) (aq4 sh) trivial]at h;have hv:=(ag8 q.ok q.l);unfold aad at hv;rw[hv]at h;exact h
def Nn:FW:=⟨155,QH,QH.args,fun q=>.tuple [.bool (K0.wk q.q.c q.q.s q.q.l q.r),I (K0.wo q.q.c q.q.s q.q.l q.r)],by intro q p h;obtain⟨h1,h2,h3,h4⟩:=QH.inj h;simp only[h1,h2,h3,h4]⟩
theorem X2:jJ Tryz.prog .nil Nn:=by refine⟨⟨_,iO (n:=155) (by decide)⟩,fun q=>?_⟩;have sh:=IZ q.q.ok;have h:=cU (f:=155) (by decide) (QN sh) (aq5 sh) (xO q.q.s q.q.l q.r 0);rw[q.ep]at h;rw[DT.uJ (ρ:=xO q.q.s q.q.l q.r 0) (ai4 sh) trivial]at h;have hv:=(WD q.q.ok q.q.l q.r);unfold FI at hv;rw[hv]at h;exact h
def Rz:FW:=⟨156,QH,QH.args,fun q=>.tuple [.agg (eS (K0.Ae q.q.c q.q.s q.q.l q.r)),I (K0.BN q.q.c q.q.s q.q.l q.r)],by intro q p h;obtain⟨h1,h2,h3,h4⟩:=QH.inj h;simp only[h1,h2,h3,h4]⟩
theorem aay:jJ Tryz.prog .nil Rz:=by refine⟨⟨_,iO (n:=156) (by decide)⟩,fun q=>?_⟩;have sh:=IZ q.q.ok;have h:=cU (f:=156) (by decide) (QN sh) (awk sh) (xO q.q.s q.q.l q.r 0);rw[q.ep]at h;rw[DT.uJ (ρ:=xO q.q.s q.q.l q.r 0) (alW sh) trivial]at h;have hv:=(aag q.q.ok q.q.l q.r);unfold On at hv;rw[hv]at h;exact h
structure QI where
 i:Nat
 lt:i<3
theorem UF{i j:Nat}(hi:i<3)(hj:j<3)(h:fD i=fD j):i=j:=by
 have PJ:i=0∨i=1∨i=2:=by omega
 have hj':j=0∨j=1∨j=2:=by omega
 rcases PJ with rfl|rfl|rfl<;>rcases hj' with rfl|rfl|rfl<;>first|rfl|(exfalso;simp[fD,Nj]at h)
theorem XB(i:Nat):AV.dA [vM,fD i,dp]=true:=by have:=re;simp only[AV.dA,this];rfl
def TQ:FW:=⟨132,QI,fun q=>[vM,fD q.i,dp],fun q=>.tuple [.agg (eS (aJ q.i)),I 0],by intro q p h;simp only[List.cons.injEq,true_and,and_true]at h;rw[UF q.lt p.lt h]⟩
theorem GV:jJ Tryz.prog .nil TQ:=by
 refine⟨⟨_,iO (n:=132) (by decide)⟩,fun q=>?_⟩;obtain⟨i,hi⟩:=q;have hv:=ahx
 match i,hi with
 |0,_=>have h:=cU (f:=132) (l:=[vM,fD 0,dp]) (d:=Pv) (by decide) (by simp only[AV.Bb,hv];rfl) We (fun _=>0);rw[fp _ (XB 0)]at h;exact h
 |1,_=>have h:=cU (f:=132) (l:=[vM,fD 1,dp]) (d:=JQ) (by decide) (by simp only[AV.Bb,hv];rfl) Qw (fun _=>0);rw[fp _ (XB 1)]at h;exact h
 |2,_=>have h:=cU (f:=132) (l:=[vM,fD 2,dp]) (d:=HM) (by decide) (by simp only[AV.Bb,hv];rfl) Od (fun _=>0);rw[fp _ (XB 2)]at h;exact h
def TR:FW:=⟨73,QI,fun q=>[vM,fD q.i,dp],fun q=>.tuple [.agg (eS (aJ q.i)),I 0],by intro q p h;simp only[List.cons.injEq,true_and,and_true]at h;rw[UF q.lt p.lt h]⟩
theorem ab5:jJ Tryz.prog .nil TR:=by
 refine⟨⟨_,iO (n:=73) (by decide)⟩,fun q=>?_⟩;obtain⟨i,hi⟩:=q;have hv:=ahx
 match i,hi with
 |0,_=>have h:=cU (f:=73) (l:=[vM,fD 0,dp]) (d:=Pc) (by decide) (by simp only[AV.Bb,hv];rfl) VO (fun _=>0);rw[fp _ (XB 0)]at h;exact h
 |1,_=>have h:=cU (f:=73) (l:=[vM,fD 1,dp]) (d:=Jv) (by decide) (by simp only[AV.Bb,hv];rfl) Ql (fun _=>0);rw[fp _ (XB 1)]at h;exact h
 |2,_=>have h:=cU (f:=73) (l:=[vM,fD 2,dp]) (d:=HD) (by decide) (by simp only[AV.Bb,hv];rfl) N5 (fun _=>0);rw[fp _ (XB 2)]at h;exact h
def agS:FW:=⟨129,QI,fun q=>[vM,I 4,fD q.i],fun q=>.tuple [.agg (xP q.i),.bool true],by intro q p h;simp only[List.cons.injEq,true_and,and_true]at h;rw[UF q.lt p.lt h]⟩
theorem Jl:jJ Tryz.prog .nil agS:=by
 refine⟨⟨_,iO (n:=129) (by decide)⟩,fun q=>?_⟩;obtain⟨i,hi⟩:=q;have h:=Re
 match i,hi with
 |0,_=>exact h.1
 |1,_=>exact h.2.1
 |2,_=>exact h.2.2.1
def okT:DT:=.ask .eql (.var 0) (.lit 0) (.leaf (I 0)) (.ask .eql (.var 0) (.lit 1) (.ask .eql (.var 1) (.lit 0) (.leaf (I 0)) (.ask .eql (.var 1) (.lit 1) (.leaf (I 0)) (.leaf (I 1)))) (.ask .eql (.var 0) (.lit 2) (.ask .eql (.var 1) (.lit 0) (.leaf (I 0)) (.leaf (I 1))) (.leaf (I 1))))
theorem Cq(ρ:Nat→Int)(a b:SI):holds ρ .eql a b=decide (a.den ρ=b.den ρ):=by unfold holds;simp only[fC];by_cases h:a.den ρ=b.den ρ<;>simp[h]
theorem atG(u:U):okT.val (J3 [u.k,u.n])=I (if sC u=true then 0 else 1):=by
 obtain⟨k,n⟩:=u;have d0:(SI.var 0).den (J3 [k,n])=k:=rfl;have d1:(SI.var 1).den (J3 [k,n])=n:=rfl;have dl:∀z:Int,(SI.lit z).den (J3 [k,n])=z:=fun _=>rfl;unfold okT;simp only[DT.val,Cq,d0,d1,dl];by_cases h0:k=0
 ·simp[h0,sC];rfl
 ·by_cases h1:k=1
  ·by_cases n0:n=0
   ·simp[h1,n0,sC];rfl
   ·by_cases n1:n=1
    ·simp[h1,n1,sC];rfl
    ·simp[h1,n0,n1,sC];rfl
  ·by_cases h2:k=2
   ·by_cases n0:n=0
    ·simp[h2,n0,sC];rfl
    ·simp[h2,n0,sC];rfl
   ·simp[h0,h1,h2,sC];rfl
def azA:DT:=.ask .eql (.var 0) (.lit 0) (.leaf (I 0)) (.ask .eql (.var 0) (.lit 1) (.ask .lss (.var 1) (.lit 0) (.leaf (I 1)) (.ask .gtr (.var 1) (.lit 1) (.leaf (I 1)) (.leaf (I 0)))) (.ask .eql (.var 0) (.lit 2) (.ask .neq (.var 1) (.lit 0) (.leaf (I 1)) (.leaf (I 0))) (.ask .eql (.var 0) (.lit 3) (.leaf (I 1)) (.ask .lss (.var 0) (.lit 0) (.leaf (I 1)) (.ask .gtr (.var 0) (.lit 3) (.leaf (I 1)) (.leaf (I 0)))))))
theorem apZ(ρ:Nat→Int)(a b:SI):holds ρ .lss a b=decide (a.den ρ<b.den ρ):=by unfold holds;simp only[fC]
theorem ap0(ρ:Nat→Int)(a b:SI):holds ρ .gtr a b=decide (b.den ρ<a.den ρ):=by unfold holds;simp only[fC]
theorem ap1(ρ:Nat→Int)(a b:SI):holds ρ .neq a b=decide (a.den ρ≠b.den ρ):=by unfold holds;simp only[fC];by_cases h:a.den ρ=b.den ρ<;>simp[h]
theorem ap2(u:U):azA.val (J3 [u.k,u.n])=I (if sC u=true then 0 else 1):=by
 obtain⟨k,n⟩:=u;have d0:(SI.var 0).den (J3 [k,n])=k:=rfl;have d1:(SI.var 1).den (J3 [k,n])=n:=rfl;have dl:∀z:Int,(SI.lit z).den (J3 [k,n])=z:=fun _=>rfl;unfold azA;simp only[DT.val,Cq,apZ,ap0,ap1,d0,d1,dl];have z:∀{b:Bool} {x:Int},(x=if b=true then 0 else 1)→(AV.int .i64 (.lit x):AV)=I (if b=true then 0 else 1):=fun h=>by rw[h]
 by_cases h0:k=0
 ·simp[h0,sC];rfl
 ·by_cases h1:k=1
  ·by_cases n0:n<0
   ·have:n≠0∧n≠1:=by omega
    simp[h1,n0,sC,this.1,this.2];rfl
   ·by_cases n1:1<n
    ·have:n≠0∧n≠1:=by omega
     simp[h1,n0,n1,sC,this.1,this.2];rfl
    ·have:n=0∨n=1:=by omega
     simp[h1,n0,n1,sC,this];rfl
  ·by_cases h2:k=2
   ·by_cases n0:n=0
    ·simp[h2,n0,sC];rfl
    ·simp[h2,n0,sC];rfl
   ·by_cases h3:k=3
    ·simp[h3,sC];rfl
    ·by_cases h4:k<0
     ·simp[h0,h1,h2,h3,h4,sC];rfl
     ·have h5:3<k:=by omega
      simp[h0,h1,h2,h3,h4,h5,sC];rfl
def akF:FW:=⟨159,U,fun u=>[.agg (eU u)],fun u=>I (if sC u=true then 0 else 1),by intro q p h;simp only[List.cons.injEq,and_true]at h;rw[ad2 h]⟩
theorem Dm:jJ Tryz.prog .nil akF:=by
 refine⟨⟨_,iO (n:=159) (by decide)⟩,fun(u:U)=>?_⟩;have h:=cU (f:=159) (l:=acd) (by decide) rfl ao2 (J3 [u.k,u.n]);have hs:DT.same ao1.dt okT []=true:=by kernel_rfl
 rw[DT.uJ (ρ:=J3 [u.k,u.n]) (F:=[]) hs trivial,atG]at h;exact h
def N2:FW:=⟨96,U,fun u=>[.agg (eU u)],fun u=>I (if sC u=true then 0 else 1),by intro q p h;simp only[List.cons.injEq,and_true]at h;rw[ad2 h]⟩
theorem Y9:jJ Tryz.prog .nil N2:=by
 refine⟨⟨_,iO (n:=96) (by decide)⟩,fun(u:U)=>?_⟩;have h:=cU (f:=96) (l:=ace) (by decide) rfl ao4 (J3 [u.k,u.n]);have hs:DT.same ao3.dt azA []=true:=by kernel_rfl
 rw[DT.uJ (ρ:=J3 [u.k,u.n]) (F:=[]) hs trivial,ap2]at h;exact h
structure QT where
 s:St
 t:St
 hs:s.kids.length≤3
 ht:t.kids.length≤3
inductive S4:Nat→Prop
 |a:S4 0
 |b:S4 1
 |c:S4 2
 |d:S4 3
theorem Pb:∀{n:Nat},n≤3→S4 n
 |0,_=>.a
 |1,_=>.b
 |2,_=>.c
 |3,_=>.d
 |n+4,h=>absurd h (by omega)
abbrev ap3(n m:Nat):List AV:=[stS 0 n,stS 8 m]
theorem ap4{n m:Nat}(h:S4 n)(k:S4 m):AV.Bb (ap3 n m)=true:=by cases h<;>cases k<;>rfl
theorem QT.ep(q:QT):AV.ep (xQ q.s q.t) (ap3 q.s.kids.length q.t.kids.length)=[.agg (eS q.s),.agg (eS q.t)]:=by show [_,_]=_;rw[sub_one q.hs,aqS q.ht]
theorem QT.inj{q p:QT}(h:([.agg (eS q.s),.agg (eS q.t)]:List AV)=[.agg (eS p.s),.agg (eS p.t)]):q.s=p.s∧q.t=p.t:=by simp only[List.cons.injEq,and_true]at h;exact⟨FV h.1,FV h.2⟩
def avL:Nat→Nat→aI
 |0,0=>TV
 |0,1=>acf
 |0,2=>aci
 |0,3=>acm
 |1,0=>acp
 |1,1=>acu
 |1,2=>acx
 |1,3=>acA
 |2,0=>acD
 |2,1=>acG
 |2,2=>acJ
 |2,3=>acM
 |3,0=>acP
 |3,1=>acS
 |3,2=>acV
 |3,3=>acY
 |_,_=>TV
theorem aEA{n m:Nat}(h:S4 n)(k:S4 m):aI.cn (CF aL) 139 (avL n m) ⟨ah 139 (fx 139) (ap3 n m),[],.nil,bz⟩ [] []=true:=by
 cases h<;>cases k
 ·exact ae1
 ·exact ae7
 ·exact afd
 ·exact afj
 ·exact afp
 ·exact afv
 ·exact afB
 ·exact afH
 ·exact afN
 ·exact afT
 ·exact afZ
 ·exact af7
 ·exact agd
 ·exact agk
 ·exact agq
 ·exact agw
theorem aEB{n m:Nat}(h:S4 n)(k:S4 m):DT.same (avL n m).dt (Rq (fun i=>I i) (vars 0 n) (vars 8 m)) []=true:=by cases h<;>cases k<;>kernel_rfl
def Y5:FW:=⟨139,QT,fun q=>[.agg (eS q.s),.agg (eS q.t)],fun q=>I (qS q.s q.t),by intro q p h;obtain⟨h1,h2⟩:=QT.inj h;simp only[h1,h2]⟩
theorem yW:jJ Tryz.prog .nil Y5:=by refine⟨⟨_,iO (n:=139) (by decide)⟩,fun q=>?_⟩;have h1:=Pb q.hs;have h2:=Pb q.ht;have h:=cU (f:=139) (by decide) (ap4 h1 h2) (aEA h1 h2) (xQ q.s q.t);rw[q.ep,XW q.hs q.ht (f:=fun i=>I i) (fun _ _=>rfl) (aEB h1 h2)]at h;exact h
def avM:Nat→Nat→aI
 |0,0=>TW
 |0,1=>acg
 |0,2=>acj
 |0,3=>acn
 |1,0=>acq
 |1,1=>acv
 |1,2=>acy
 |1,3=>acB
 |2,0=>acE
 |2,1=>acH
 |2,2=>acK
 |2,3=>acN
 |3,0=>acQ
 |3,1=>acT
 |3,2=>acW
 |3,3=>acZ
 |_,_=>TW
theorem aEC{n m:Nat}(h:S4 n)(k:S4 m):aI.cn (CF aL) 145 (avM n m) ⟨ah 145 (fx 145) (ap3 n m),[],.nil,bz⟩ [] []=true:=by
 cases h<;>cases k
 ·exact ae3
 ·exact ae9
 ·exact aff
 ·exact afl
 ·exact afr
 ·exact afx
 ·exact afD
 ·exact afJ
 ·exact afP
 ·exact afV
 ·exact af3
 ·exact af9
 ·exact agf
 ·exact agm
 ·exact ags
 ·exact agy
theorem aED{n m:Nat}(h:S4 n)(k:S4 m):DT.same (avM n m).dt (Rq (fun i=>I i) (vars 0 n) (vars 8 m)) []=true:=by cases h<;>cases k<;>kernel_rfl
def Y6:FW:=⟨145,QT,fun q=>[.agg (eS q.s),.agg (eS q.t)],fun q=>I (qS q.s q.t),by intro q p h;obtain⟨h1,h2⟩:=QT.inj h;simp only[h1,h2]⟩
theorem aeT:jJ Tryz.prog .nil Y6:=by refine⟨⟨_,iO (n:=145) (by decide)⟩,fun q=>?_⟩;have h1:=Pb q.hs;have h2:=Pb q.ht;have h:=cU (f:=145) (by decide) (ap4 h1 h2) (aEC h1 h2) (xQ q.s q.t);rw[q.ep,XW q.hs q.ht (f:=fun i=>I i) (fun _ _=>rfl) (aED h1 h2)]at h;exact h
def avN:Nat→Nat→aI
 |0,0=>TX
 |0,1=>ach
 |0,2=>ack
 |0,3=>aco
 |1,0=>acr
 |1,1=>acw
 |1,2=>acz
 |1,3=>acC
 |2,0=>acF
 |2,1=>acI
 |2,2=>acL
 |2,3=>acO
 |3,0=>acR
 |3,1=>acU
 |3,2=>acX
 |3,3=>ac0
 |_,_=>TX
theorem aEE{n m:Nat}(h:S4 n)(k:S4 m):aI.cn (CF aL) 141 (avN n m) ⟨ah 141 (fx 141) (ap3 n m),[],.nil,bz⟩ [] []=true:=by
 cases h<;>cases k
 ·exact ae5
 ·exact afb
 ·exact afh
 ·exact afn
 ·exact aft
 ·exact afz
 ·exact afF
 ·exact afL
 ·exact afR
 ·exact afX
 ·exact af5
 ·exact agb
 ·exact agi
 ·exact ago
 ·exact agu
 ·exact agA
theorem aEF{n m:Nat}(h:S4 n)(k:S4 m):DT.same (avN n m).dt (Rq (fun i=>.bool (i==0)) (vars 0 n) (vars 8 m)) []=true:=by cases h<;>cases k<;>kernel_rfl
def Y7:FW:=⟨141,QT,fun q=>[.agg (eS q.s),.agg (eS q.t)],fun q=>.bool (decide (q.s=q.t)),by intro q p h;obtain⟨h1,h2⟩:=QT.inj h;simp only[h1,h2]⟩
theorem aeU:jJ Tryz.prog .nil Y7:=by
 refine⟨⟨_,iO (n:=141) (by decide)⟩,fun q=>?_⟩;have h1:=Pb q.hs;have h2:=Pb q.ht;have h:=cU (f:=141) (by decide) (ap4 h1 h2) (aEE h1 h2) (xQ q.s q.t);rw[q.ep,XW q.hs q.ht (f:=fun i=>.bool (i==0)) (fun _ _=>rfl) (aEF h1 h2)]at h;have e:(qS q.s q.t==0)=decide (q.s=q.t):=by rw[Bool.eq_iff_iff];simp[H4]
 simp only[e]at h;exact h
structure QK where
 s:St
 hs:s.kids.length≤3
def TS:FW:=⟨62,QK,fun q=>[.agg (eS q.s)],fun q=>.agg (eS q.s),by intro q p h;simp only[List.cons.injEq,and_true]at h;rw[FV h]⟩
def ap5:Nat→aI
 |0=>ao5
 |1=>ao8
 |2=>apb
 |_=>ape
theorem azB{n:Nat}(h:S4 n):aI.cn (CF aL) 62 (ap5 n) ⟨ah 62 (fx 62) [stS 0 n],[],.nil,bz⟩ [] []=true:=by
 cases h
 ·exact ao7
 ·exact apa
 ·exact apd
 ·exact apg
theorem azC{n:Nat}(h:S4 n):DT.same (ap5 n).dt (.leaf (stS 0 n)) []=true:=by cases h<;>kernel_rfl
theorem avx{n:Nat}(h:S4 n):AV.Bb [stS 0 n]=true:=by cases h<;>rfl
theorem vq:jJ Tryz.prog .nil TS:=by
 refine⟨⟨_,iO (n:=62) (by decide)⟩,fun q=>?_⟩;have h1:=Pb q.hs;have h:=cU (f:=62) (by decide) (avx h1) (azB h1) (xQ q.s q.s);rw[DT.uJ (ρ:=xQ q.s q.s) (azC h1) trivial]at h;have e:AV.ep (xQ q.s q.s) [stS 0 q.s.kids.length]=[.agg (eS q.s)]:=by show [_]=_;rw[sub_one q.hs]
 have e2:(DT.leaf (stS 0 q.s.kids.length)).val (xQ q.s q.s)=.agg (eS q.s):=sub_one q.hs;rw[e,e2]at h;exact h
end Ln
