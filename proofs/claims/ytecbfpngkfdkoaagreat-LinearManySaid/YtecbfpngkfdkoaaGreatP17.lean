/- A part of the proof. No condition. -/
import Derived.Test.YtecbfpngkfdkoaaGreatP15
import Derived.Test.YtecbfpngkfdkoaaGreatP16
namespace Ln
open Go.Sx Go Go.Proofs
theorem Wb:∀{l m:List U},ag eU l=ag eU m→l=m
 | [],[],_=>rfl
 | [],v ::m,h=>by simp[dd,eU]at h
 |u ::l,[],h=>by simp[dd,eU]at h
 |u ::l,v ::m,h=>by
  simp[dd,eU]at h;obtain⟨h1,h2,h3⟩:=h;have:=Wb h3;obtain⟨a,b⟩:=u;obtain⟨c,d⟩:=v
  simp_all
theorem JG{l m:List U}(h:aK l=aK m):l=m:=by
 cases l with
 |nil=>
  cases m with
  |nil=>rfl
  |cons v m=>cases h
 |cons u l=>
  cases m with
  |nil=>cases h
  |cons v m=>simp only[aK,AV.sl.injEq]at h;exact Wb h.1
theorem Ez{s t:St}(h:AV.agg (eS s)=.agg (eS t)):s=t:=by obtain⟨a,b,l⟩:=s;obtain⟨c,d,m⟩:=t;simp only[eS,AV.agg.injEq,List.cons.injEq,I,AV.int.injEq,SI.lit.injEq,true_and,and_true]at h;obtain⟨h1,h2,h3⟩:=h;rw[h1,h2,JG h3]
theorem TU{u v:U}(h:AV.agg (eU u)=.agg (eU v)):u=v:=by obtain⟨a,b⟩:=u;obtain⟨c,d⟩:=v;simp only[eU,AV.agg.injEq,List.cons.injEq,I,AV.int.injEq,SI.lit.injEq,true_and,and_true]at h;rw[h.1,h.2]
theorem acI{c d:nB}(h1:c.x8=d.x8)(h2:c.name=d.name):c=d:=by cases c<;>cases d<;>first|rfl|(exact absurd h1 (by decide))|exact absurd h2 (by decide)
theorem acJ{c d:nB}(h:fE c.x8=fE d.x8):c.x8=d.x8:=by cases c<;>cases d<;>first|rfl|(exfalso;simp[fE,ahj,nB.x8]at h)
theorem aoc(c:nB):c.ar≤1:=by cases c<;>decide
structure QC where
 c:nB
 s:St
 l:List U
 ok:gV c.x8 s
 ar:l.length=c.ar
structure QH where
 q:QC
 r:U
def QC.args(q:QC):List AV:=[vM,fE q.c.x8,.str q.c.name.1 q.c.name.2,.agg (eS q.s),aK q.l,Ui]
def QH.args(q:QH):List AV:=[vM,fE q.q.c.x8,.str q.q.c.name.1 q.q.c.name.2,.agg (eS q.q.s),aK q.q.l,.agg (eU q.r),Ui]
theorem QC.inj{q p:QC}(h:q.args=p.args):q.c=p.c∧q.s=p.s∧q.l=p.l:=by simp only[QC.args,List.cons.injEq,true_and,and_true]at h;obtain⟨h1,h2,h3,h4⟩:=h;simp only[AV.str.injEq]at h2;exact⟨acI (acJ h1) (Prod.ext h2.1 h2.2),Ez h3,JG h4⟩
theorem QH.inj{q p:QH}(h:q.args=p.args):q.q.c=p.q.c∧q.q.s=p.q.s∧q.q.l=p.q.l∧q.r=p.r:=by simp only[QH.args,List.cons.injEq,true_and,and_true]at h;obtain⟨h1,h2,h3,h4,h5⟩:=h;simp only[AV.str.injEq]at h2;exact⟨acI (acJ h1) (Prod.ext h2.1 h2.2),Ez h3,JG h4,TU h5⟩
theorem QC.gT(q:QC):AV.gT (oY q.s q.l z0 0) (ap1 q.c q.s.kids.length)=q.args:=by
 have h3:q.s.kids.length≤3:=Nat.le_trans q.ok (Zx _);have h1:q.l.length≤1:=by rw[q.ar];exact aoc _
 have e1:=sX (ρ:=oY q.s q.l z0 0) vM BE;have e2:=ag3 (aZZ:=q.l) (r:=z0) (w:=0) h3;have e3:=acC (s:=q.s) (r:=z0) (w:=0) h1;rw[q.ar]at e3;show [_,_,_,_,_,_]=_;rw[e1,e2,e3];rfl
theorem QH.gT(q:QH):AV.gT (oY q.q.s q.q.l q.r 0) (Uj q.q.c q.q.s.kids.length)=q.args:=by
 have h3:q.q.s.kids.length≤3:=Nat.le_trans q.q.ok (Zx _);have h1:q.q.l.length≤1:=by rw[q.q.ar];exact aoc _
 have e1:=sX (ρ:=oY q.q.s q.q.l q.r 0) vM BE;have e2:=ag3 (aZZ:=q.q.l) (r:=q.r) (w:=0) h3;have e3:=acC (s:=q.q.s) (r:=q.r) (w:=0) h1;have e4:=alw (s:=q.q.s) (aZZ:=q.q.l) (r:=q.r) (w:=0);rw[q.q.ar]at e3;show [_,_,_,_,_,_,_]=_;rw[e1,e2,e3,e4];rfl
def alG:Gl:=⟨149,QC,QC.args,fun q=>.tuple [.bool (K0.OL q.c q.s q.l),I (K0.OM q.c q.s q.l)],by intro q p h;obtain⟨h1,h2,h3⟩:=QC.inj h;simp only[h1,h2,h3]⟩
theorem II:jI Tryz.prog .nil alG:=by refine⟨⟨_,iL (n:=149) (by decide)⟩,fun q=>?_⟩;have sh:=SM q.ok;have h:=fG (f:=149) (by decide) (avf sh) (avg sh) (oY q.s q.l z0 0);rw[q.gT]at h;have hv:=(als q.ok q.l);unfold alq at hv;rw[hv]at h;exact h
def aev:Gl:=⟨150,QH,QH.args,fun q=>.tuple [.bool (K0.EE q.q.c q.q.s q.q.l q.r),I (K0.EF q.q.c q.q.s q.q.l q.r)],by intro q p h;obtain⟨h1,h2,h3,h4⟩:=QH.inj h;simp only[h1,h2,h3,h4]⟩
theorem pA:jI Tryz.prog .nil aev:=by refine⟨⟨_,iL (n:=150) (by decide)⟩,fun q=>?_⟩;have sh:=SM q.q.ok;have h:=fG (f:=150) (by decide) (acK sh) (alH sh) (oY q.q.s q.q.l q.r 0);rw[q.gT]at h;have hv:=(aer q.q.ok q.q.l q.r);unfold T9 at hv;rw[hv]at h;exact h
def ahk:Gl:=⟨151,QH,QH.args,fun q=>.tuple [.agg (eS (K0.qB q.q.c q.q.s q.q.l q.r)),I (K0.we q.q.c q.q.s q.q.l q.r)],by intro q p h;obtain⟨h1,h2,h3,h4⟩:=QH.inj h;simp only[h1,h2,h3,h4]⟩
theorem EM:jI Tryz.prog .nil ahk:=by refine⟨⟨_,iL (n:=151) (by decide)⟩,fun q=>?_⟩;have sh:=SM q.q.ok;have h:=fG (f:=151) (by decide) (acK sh) (ap2 sh) (oY q.q.s q.q.l q.r 0);rw[q.gT]at h;have hv:=(agY q.q.ok q.q.l q.r);unfold acz at hv;rw[hv]at h;exact h
structure QI where
 i:Nat
 lt:i<3
theorem YU{i j:Nat}(hi:i<3)(hj:j<3)(h:fE i=fE j):i=j:=by
 have RO:i=0∨i=1∨i=2:=by omega
 have hj':j=0∨j=1∨j=2:=by omega
 rcases RO with rfl|rfl|rfl<;>rcases hj' with rfl|rfl|rfl<;>first|rfl|(exfalso;simp[fE,ahj]at h)
theorem aky(i:Nat):AV.gE [vM,fE i,Ui]=true:=by have:=BE;simp only[AV.gE,this];rfl
def akz:Gl:=⟨132,QI,fun q=>[vM,fE q.i,Ui],fun q=>.tuple [.agg (eS (bZ q.i)),I 0],by intro q p h;simp only[List.cons.injEq,true_and,and_true]at h;rw[YU q.lt p.lt h]⟩
theorem MO:jI Tryz.prog .nil akz:=by
 refine⟨⟨_,iL (n:=132) (by decide)⟩,fun q=>?_⟩;obtain⟨i,hi⟩:=q;have hv:=Jv
 match i,hi with
 |0,_=>have h:=fG (f:=132) (l:=[vM,fE 0,Ui]) (d:=Ns) (by decide) (by simp only[AV.Ec,hv];rfl) Si (fun _=>0);rw[iU _ (aky 0)]at h;exact h
 |1,_=>have h:=fG (f:=132) (l:=[vM,fE 1,Ui]) (d:=Is) (by decide) (by simp only[AV.Ec,hv];rfl) N8 (fun _=>0);rw[iU _ (aky 1)]at h;exact h
 |2,_=>have h:=fG (f:=132) (l:=[vM,fE 2,Ui]) (d:=Gf) (by decide) (by simp only[AV.Ec,hv];rfl) Ma (fun _=>0);rw[iU _ (aky 2)]at h;exact h
def ach:Gl:=⟨129,QI,fun q=>[vM,I 4,fE q.i],fun q=>.tuple [.agg (GI q.i),.bool true],by intro q p h;simp only[List.cons.injEq,true_and,and_true]at h;rw[YU q.lt p.lt h]⟩
theorem HR:jI Tryz.prog .nil ach:=by
 refine⟨⟨_,iL (n:=129) (by decide)⟩,fun q=>?_⟩;obtain⟨i,hi⟩:=q;have h:=ON
 match i,hi with
 |0,_=>exact h.1
 |1,_=>exact h.2.1
 |2,_=>exact h.2.2.1
def okT:DT:=.ask .eql (.var 0) (.lit 0) (.leaf (I 0)) (.ask .eql (.var 0) (.lit 1) (.ask .eql (.var 1) (.lit 0) (.leaf (I 0)) (.ask .eql (.var 1) (.lit 1) (.leaf (I 0)) (.leaf (I 1)))) (.ask .eql (.var 0) (.lit 2) (.ask .eql (.var 1) (.lit 0) (.leaf (I 0)) (.leaf (I 1))) (.leaf (I 1))))
theorem AS(ρ:Nat→Int)(a b:SI):holds ρ .eql a b=decide (a.den ρ=b.den ρ):=by unfold holds;simp only[fF];by_cases h:a.den ρ=b.den ρ<;>simp[h]
theorem anO(u:U):okT.val (rho [u.k,u.n])=I (if oi u=true then 0 else 1):=by
 obtain⟨k,n⟩:=u;have d0:(SI.var 0).den (rho [k,n])=k:=rfl;have d1:(SI.var 1).den (rho [k,n])=n:=rfl;have dl:∀z:Int,(SI.lit z).den (rho [k,n])=z:=fun _=>rfl;unfold okT;simp only[DT.val,AS,d0,d1,dl];by_cases h0:k=0
 ·simp[h0,oi];rfl
 ·by_cases h1:k=1
  ·by_cases n0:n=0
   ·simp[h1,n0,oi];rfl
   ·by_cases n1:n=1
    ·simp[h1,n1,oi];rfl
    ·simp[h1,n0,n1,oi];rfl
  ·by_cases h2:k=2
   ·by_cases n0:n=0
    ·simp[h2,n0,oi];rfl
    ·simp[h2,n0,oi];rfl
   ·simp[h0,h1,h2,oi];rfl
def atr:DT:=.ask .eql (.var 0) (.lit 0) (.leaf (I 0)) (.ask .eql (.var 0) (.lit 1) (.ask .lss (.var 1) (.lit 0) (.leaf (I 1)) (.ask .gtr (.var 1) (.lit 1) (.leaf (I 1)) (.leaf (I 0)))) (.ask .eql (.var 0) (.lit 2) (.ask .neq (.var 1) (.lit 0) (.leaf (I 1)) (.leaf (I 0))) (.ask .eql (.var 0) (.lit 3) (.leaf (I 1)) (.ask .lss (.var 0) (.lit 0) (.leaf (I 1)) (.ask .gtr (.var 0) (.lit 3) (.leaf (I 1)) (.leaf (I 0)))))))
theorem VT(ρ:Nat→Int)(a b:SI):holds ρ .lss a b=decide (a.den ρ<b.den ρ):=by unfold holds;simp only[fF]
theorem VS(ρ:Nat→Int)(a b:SI):holds ρ .gtr a b=decide (b.den ρ<a.den ρ):=by unfold holds;simp only[fF]
theorem akA(ρ:Nat→Int)(a b:SI):holds ρ .neq a b=decide (a.den ρ≠b.den ρ):=by unfold holds;simp only[fF];by_cases h:a.den ρ=b.den ρ<;>simp[h]
theorem akB(u:U):atr.val (rho [u.k,u.n])=I (if oi u=true then 0 else 1):=by
 obtain⟨k,n⟩:=u;have d0:(SI.var 0).den (rho [k,n])=k:=rfl;have d1:(SI.var 1).den (rho [k,n])=n:=rfl;have dl:∀z:Int,(SI.lit z).den (rho [k,n])=z:=fun _=>rfl;unfold atr;simp only[DT.val,AS,VT,VS,akA,d0,d1,dl];have z:∀{b:Bool} {x:Int},(x=if b=true then 0 else 1)→(AV.int .i64 (.lit x):AV)=I (if b=true then 0 else 1):=fun h=>by rw[h]
 by_cases h0:k=0
 ·simp[h0,oi];rfl
 ·by_cases h1:k=1
  ·by_cases n0:n<0
   ·have:n≠0∧n≠1:=by omega
    simp[h1,n0,oi,this.1,this.2];rfl
   ·by_cases n1:1<n
    ·have:n≠0∧n≠1:=by omega
     simp[h1,n0,n1,oi,this.1,this.2];rfl
    ·have:n=0∨n=1:=by omega
     simp[h1,n0,n1,oi,this];rfl
  ·by_cases h2:k=2
   ·by_cases n0:n=0
    ·simp[h2,n0,oi];rfl
    ·simp[h2,n0,oi];rfl
   ·by_cases h3:k=3
    ·simp[h3,oi];rfl
    ·by_cases h4:k<0
     ·simp[h0,h1,h2,h3,h4,oi];rfl
     ·have h5:3<k:=by omega
      simp[h0,h1,h2,h3,h4,h5,oi];rfl
def af3:Gl:=⟨159,U,fun u=>[.agg (eU u)],fun u=>I (if oi u=true then 0 else 1),by intro q p h;simp only[List.cons.injEq,and_true]at h;rw[TU h]⟩
theorem B6:jI Tryz.prog .nil af3:=by
 refine⟨⟨_,iL (n:=159) (by decide)⟩,fun(u:U)=>?_⟩;have h:=fG (f:=159) (l:=XR) (by decide) rfl ajF (rho [u.k,u.n]);have hs:DT.same ajE.dt okT []=true:=by kernel_rfl
 rw[DT.BG (ρ:=rho [u.k,u.n]) (F:=[]) hs trivial,anO]at h;exact h
def L6:Gl:=⟨96,U,fun u=>[.agg (eU u)],fun u=>I (if oi u=true then 0 else 1),by intro q p h;simp only[List.cons.injEq,and_true]at h;rw[TU h]⟩
theorem U5:jI Tryz.prog .nil L6:=by
 refine⟨⟨_,iL (n:=96) (by decide)⟩,fun(u:U)=>?_⟩;have h:=fG (f:=96) (l:=XS) (by decide) rfl ajH (rho [u.k,u.n]);have hs:DT.same ajG.dt atr []=true:=by kernel_rfl
 rw[DT.BG (ρ:=rho [u.k,u.n]) (F:=[]) hs trivial,akB]at h;exact h
structure QT where
 s:St
 t:St
 hs:s.kids.length≤3
 ht:t.kids.length≤3
inductive S4:Nat→Prop
 |a:S4 0
 |b:S4 1
 |c:S4 2
 |d:S4 3
theorem M6:∀{n:Nat},n≤3→S4 n
 |0,_=>.a
 |1,_=>.b
 |2,_=>.c
 |3,_=>.d
 |n+4,h=>absurd h (by omega)
abbrev akC(n m:Nat):List AV:=[stS 0 n,stS 8 m]
theorem akD{n m:Nat}(h:S4 n)(k:S4 m):AV.Ec (akC n m)=true:=by cases h<;>cases k<;>rfl
theorem QT.gT(q:QT):AV.gT (vw q.s q.t) (akC q.s.kids.length q.t.kids.length)=[.agg (eS q.s),.agg (eS q.t)]:=by show [_,_]=_;rw[sub_one q.hs,alx q.ht]
theorem QT.inj{q p:QT}(h:([.agg (eS q.s),.agg (eS q.t)]:List AV)=[.agg (eS p.s),.agg (eS p.t)]):q.s=p.s∧q.t=p.t:=by simp only[List.cons.injEq,and_true]at h;exact⟨Ez h.1,Ez h.2⟩
def apz:Nat→Nat→aV
 |0,0=>Qo
 |0,1=>XT
 |0,2=>XW
 |0,3=>XZ
 |1,0=>X2
 |1,1=>X5
 |1,2=>X8
 |1,3=>Yb
 |2,0=>Ye
 |2,1=>Yh
 |2,2=>Yk
 |2,3=>Yn
 |3,0=>Yq
 |3,1=>Yt
 |3,2=>Yw
 |3,3=>Yz
 |_,_=>Qo
theorem ax0{n m:Nat}(h:S4 n)(k:S4 m):aV.dY (CF aY) 139 (apz n m) ⟨an 139 (fx 139) (akC n m),[],.nil,bD⟩ [] []=true:=by
 cases h<;>cases k
 ·exact aam
 ·exact aas
 ·exact aay
 ·exact aaE
 ·exact aaK
 ·exact aaQ
 ·exact aaW
 ·exact aa2
 ·exact aa8
 ·exact abe
 ·exact abl
 ·exact abr
 ·exact aby
 ·exact abE
 ·exact abK
 ·exact abQ
theorem ax1{n m:Nat}(h:S4 n)(k:S4 m):DT.same (apz n m).dt (OS (fun i=>I i) (vars 0 n) (vars 8 m)) []=true:=by cases h<;>cases k<;>kernel_rfl
def U1:Gl:=⟨139,QT,fun q=>[.agg (eS q.s),.agg (eS q.t)],fun q=>I (ig q.s q.t),by intro q p h;obtain⟨h1,h2⟩:=QT.inj h;simp only[h1,h2]⟩
theorem w6:jI Tryz.prog .nil U1:=by refine⟨⟨_,iL (n:=139) (by decide)⟩,fun q=>?_⟩;have h1:=M6 q.hs;have h2:=M6 q.ht;have h:=fG (f:=139) (by decide) (akD h1 h2) (ax0 h1 h2) (vw q.s q.t);rw[q.gT,Uf q.hs q.ht (f:=fun i=>I i) (fun _ _=>rfl) (ax1 h1 h2)]at h;exact h
def apA:Nat→Nat→aV
 |0,0=>Qp
 |0,1=>XU
 |0,2=>XX
 |0,3=>X0
 |1,0=>X3
 |1,1=>X6
 |1,2=>X9
 |1,3=>Yc
 |2,0=>Yf
 |2,1=>Yi
 |2,2=>Yl
 |2,3=>Yo
 |3,0=>Yr
 |3,1=>Yu
 |3,2=>Yx
 |3,3=>YA
 |_,_=>Qp
theorem ax2{n m:Nat}(h:S4 n)(k:S4 m):aV.dY (CF aY) 145 (apA n m) ⟨an 145 (fx 145) (akC n m),[],.nil,bD⟩ [] []=true:=by
 cases h<;>cases k
 ·exact aao
 ·exact aau
 ·exact aaA
 ·exact aaG
 ·exact aaM
 ·exact aaS
 ·exact aaY
 ·exact aa4
 ·exact aba
 ·exact abg
 ·exact abn
 ·exact abu
 ·exact abA
 ·exact abG
 ·exact abM
 ·exact abS
theorem ax3{n m:Nat}(h:S4 n)(k:S4 m):DT.same (apA n m).dt (OS (fun i=>I i) (vars 0 n) (vars 8 m)) []=true:=by cases h<;>cases k<;>kernel_rfl
def U2:Gl:=⟨145,QT,fun q=>[.agg (eS q.s),.agg (eS q.t)],fun q=>I (ig q.s q.t),by intro q p h;obtain⟨h1,h2⟩:=QT.inj h;simp only[h1,h2]⟩
theorem aag:jI Tryz.prog .nil U2:=by refine⟨⟨_,iL (n:=145) (by decide)⟩,fun q=>?_⟩;have h1:=M6 q.hs;have h2:=M6 q.ht;have h:=fG (f:=145) (by decide) (akD h1 h2) (ax2 h1 h2) (vw q.s q.t);rw[q.gT,Uf q.hs q.ht (f:=fun i=>I i) (fun _ _=>rfl) (ax3 h1 h2)]at h;exact h
def apB:Nat→Nat→aV
 |0,0=>Qq
 |0,1=>XV
 |0,2=>XY
 |0,3=>X1
 |1,0=>X4
 |1,1=>X7
 |1,2=>Ya
 |1,3=>Yd
 |2,0=>Yg
 |2,1=>Yj
 |2,2=>Ym
 |2,3=>Yp
 |3,0=>Ys
 |3,1=>Yv
 |3,2=>Yy
 |3,3=>YB
 |_,_=>Qq
theorem ax4{n m:Nat}(h:S4 n)(k:S4 m):aV.dY (CF aY) 141 (apB n m) ⟨an 141 (fx 141) (akC n m),[],.nil,bD⟩ [] []=true:=by
 cases h<;>cases k
 ·exact aaq
 ·exact aaw
 ·exact aaC
 ·exact aaI
 ·exact aaO
 ·exact aaU
 ·exact aa0
 ·exact aa6
 ·exact abc
 ·exact abi
 ·exact abp
 ·exact abw
 ·exact abC
 ·exact abI
 ·exact abO
 ·exact abU
theorem ax5{n m:Nat}(h:S4 n)(k:S4 m):DT.same (apB n m).dt (OS (fun i=>.bool (i==0)) (vars 0 n) (vars 8 m)) []=true:=by cases h<;>cases k<;>kernel_rfl
def U3:Gl:=⟨141,QT,fun q=>[.agg (eS q.s),.agg (eS q.t)],fun q=>.bool (decide (q.s=q.t)),by intro q p h;obtain⟨h1,h2⟩:=QT.inj h;simp only[h1,h2]⟩
theorem aah:jI Tryz.prog .nil U3:=by
 refine⟨⟨_,iL (n:=141) (by decide)⟩,fun q=>?_⟩;have h1:=M6 q.hs;have h2:=M6 q.ht;have h:=fG (f:=141) (by decide) (akD h1 h2) (ax4 h1 h2) (vw q.s q.t);rw[q.gT,Uf q.hs q.ht (f:=fun i=>.bool (i==0)) (fun _ _=>rfl) (ax5 h1 h2)]at h;have e:(ig q.s q.t==0)=decide (q.s=q.t):=by rw[Bool.eq_iff_iff];simp[sM]
 simp only[e]at h;exact h
structure QK where
 s:St
 hs:s.kids.length≤3
def Qk:Gl:=⟨62,QK,fun q=>[.agg (eS q.s)],fun q=>.agg (eS q.s),by intro q p h;simp only[List.cons.injEq,and_true]at h;rw[Ez h]⟩
def akE:Nat→aV
 |0=>ajI
 |1=>ajL
 |2=>ajO
 |_=>ajR
theorem ats{n:Nat}(h:S4 n):aV.dY (CF aY) 62 (akE n) ⟨an 62 (fx 62) [stS 0 n],[],.nil,bD⟩ [] []=true:=by
 cases h
 ·exact ajK
 ·exact ajN
 ·exact ajQ
 ·exact ajT
theorem att{n:Nat}(h:S4 n):DT.same (akE n).dt (.leaf (stS 0 n)) []=true:=by cases h<;>kernel_rfl
theorem apf{n:Nat}(h:S4 n):AV.Ec [stS 0 n]=true:=by cases h<;>rfl
theorem tn:jI Tryz.prog .nil Qk:=by
 refine⟨⟨_,iL (n:=62) (by decide)⟩,fun q=>?_⟩;have h1:=M6 q.hs;have h:=fG (f:=62) (by decide) (apf h1) (ats h1) (vw q.s q.s);rw[DT.BG (ρ:=vw q.s q.s) (att h1) trivial]at h;have e:AV.gT (vw q.s q.s) [stS 0 q.s.kids.length]=[.agg (eS q.s)]:=by show [_]=_;rw[sub_one q.hs]
 have e2:(DT.leaf (stS 0 q.s.kids.length)).val (vw q.s q.s)=.agg (eS q.s):=sub_one q.hs;rw[e,e2]at h;exact h
end Ln
