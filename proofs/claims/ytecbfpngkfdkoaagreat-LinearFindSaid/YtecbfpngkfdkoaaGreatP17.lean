/- A part of the proof. No condition. -/
import Derived.Test.YtecbfpngkfdkoaaGreatP15
import Derived.Test.YtecbfpngkfdkoaaGreatP16
namespace Ln
open Go.Sx Go Go.Proofs
theorem abm:∀{l m:List U},ag eU l=ag eU m→l=m
 | [],[],_=>rfl
 | [],v ::m,h=>by simp[dE,eU]at h
 |u ::l,[],h=>by simp[dE,eU]at h
 |u ::l,v ::m,h=>by
  simp[dE,eU]at h;obtain⟨h1,h2,h3⟩:=h;have:=abm h3;obtain⟨a,b⟩:=u;obtain⟨c,d⟩:=v
  simp_all
theorem MY{l m:List U}(h:aL l=aL m):l=m:=by
 cases l with
 |nil=>
  cases m with
  |nil=>rfl
  |cons v m=>cases h
 |cons u l=>
  cases m with
  |nil=>cases h
  |cons v m=>simp only[aL,AV.sl.injEq]at h;exact abm h.1
theorem O4{s t:St}(h:AV.agg (eS s)=.agg (eS t)):s=t:=by obtain⟨a,b,l⟩:=s;obtain⟨c,d,m⟩:=t;simp only[eS,AV.agg.injEq,List.cons.injEq,I,AV.int.injEq,SI.lit.injEq,true_and,and_true]at h;obtain⟨h1,h2,h3⟩:=h;rw[h1,h2,MY h3]
theorem aeQ{u v:U}(h:AV.agg (eU u)=.agg (eU v)):u=v:=by obtain⟨a,b⟩:=u;obtain⟨c,d⟩:=v;simp only[eU,AV.agg.injEq,List.cons.injEq,I,AV.int.injEq,SI.lit.injEq,true_and,and_true]at h;rw[h.1,h.2]
theorem ah6{c d:jy}(h1:c.yr=d.yr)(h2:c.name=d.name):c=d:=by cases c<;>cases d<;>first|rfl|(exact absurd h1 (by decide))|exact absurd h2 (by decide)
theorem ah7{c d:jy}(h:ft c.yr=ft d.yr):c.yr=d.yr:=by cases c<;>cases d<;>first|rfl|(exfalso;simp[ft,lD,jy.yr]at h)
theorem at4(c:jy):c.ar≤1:=by cases c<;>decide
structure QC where
 c:jy
 s:St
 l:List U
 ok:iz c.yr s
 ar:l.length=c.ar
structure QH where
 q:QC
 r:U
def QC.args(q:QC):List AV:=[vM,ft q.c.yr,.str q.c.name.1 q.c.name.2,.agg (eS q.s),aL q.l,iU]
def QH.args(q:QH):List AV:=[vM,ft q.q.c.yr,.str q.q.c.name.1 q.q.c.name.2,.agg (eS q.q.s),aL q.q.l,.agg (eU q.r),iU]
theorem QC.inj{q p:QC}(h:q.args=p.args):q.c=p.c∧q.s=p.s∧q.l=p.l:=by simp only[QC.args,List.cons.injEq,true_and,and_true]at h;obtain⟨h1,h2,h3,h4⟩:=h;simp only[AV.str.injEq]at h2;exact⟨ah6 (ah7 h1) (Prod.ext h2.1 h2.2),O4 h3,MY h4⟩
theorem QH.inj{q p:QH}(h:q.args=p.args):q.q.c=p.q.c∧q.q.s=p.q.s∧q.q.l=p.q.l∧q.r=p.r:=by simp only[QH.args,List.cons.injEq,true_and,and_true]at h;obtain⟨h1,h2,h3,h4,h5⟩:=h;simp only[AV.str.injEq]at h2;exact⟨ah6 (ah7 h1) (Prod.ext h2.1 h2.2),O4 h3,MY h4,aeQ h5⟩
theorem QC.jo(q:QC):AV.jo (Ar q.s q.l z0 0) (arD q.c q.s.kids.length)=q.args:=by
 have h3:q.s.kids.length≤3:=Nat.le_trans q.ok (aeN _);have h1:q.l.length≤1:=by rw[q.ar];exact at4 _
 have e1:=Ih (ρ:=Ar q.s q.l z0 0) vM S6;have e2:=amh (aZZ:=q.l) (r:=z0) (w:=0) h3;have e3:=ahZ (s:=q.s) (r:=z0) (w:=0) h1;rw[q.ar]at e3;show [_,_,_,_,_,_]=_;rw[e1,e2,e3];rfl
theorem QH.jo(q:QH):AV.jo (Ar q.q.s q.q.l q.r 0) (O5 q.q.c q.q.s.kids.length)=q.args:=by
 have h3:q.q.s.kids.length≤3:=Nat.le_trans q.q.ok (aeN _);have h1:q.q.l.length≤1:=by rw[q.q.ar];exact at4 _
 have e1:=Ih (ρ:=Ar q.q.s q.q.l q.r 0) vM S6;have e2:=amh (aZZ:=q.q.l) (r:=q.r) (w:=0) h3;have e3:=ahZ (s:=q.q.s) (r:=q.r) (w:=0) h1;have e4:=art (s:=q.q.s) (aZZ:=q.q.l) (r:=q.r) (w:=0);rw[q.q.ar]at e3;show [_,_,_,_,_,_,_]=_;rw[e1,e2,e3,e4];rfl
def Za:MZ:=⟨149,QC,QC.args,fun q=>.tuple [.bool (K0.TB q.c q.s q.l),I (K0.TC q.c q.s q.l)],by intro q p h;obtain⟨h1,h2,h3⟩:=QC.inj h;simp only[h1,h2,h3]⟩
theorem ES:mZ Tryz.prog .nil Za:=by refine⟨⟨_,lv (n:=149) (by decide)⟩,fun q=>?_⟩;have sh:=Kk q.ok;have h:=gP (f:=149) (by decide) (at6 sh) (aAq sh) (Ar q.s q.l z0 0);rw[q.jo]at h;have hv:=(ahW q.ok q.l);unfold amb at hv;rw[hv]at h;exact h
def O8:MZ:=⟨150,QH,QH.args,fun q=>.tuple [.bool (K0.ui q.q.c q.q.s q.q.l q.r),I (K0.uj q.q.c q.q.s q.q.l q.r)],by intro q p h;obtain⟨h1,h2,h3,h4⟩:=QH.inj h;simp only[h1,h2,h3,h4]⟩
theorem nU:mZ Tryz.prog .nil O8:=by refine⟨⟨_,lv (n:=150) (by decide)⟩,fun q=>?_⟩;have sh:=Kk q.q.ok;have h:=gP (f:=150) (by decide) (Tb sh) (arE sh) (Ar q.q.s q.q.l q.r 0);rw[q.jo]at h;have hv:=(X0 q.q.ok q.q.l q.r);unfold Tz at hv;rw[hv]at h;exact h
def TH:MZ:=⟨151,QH,QH.args,fun q=>.tuple [.agg (eS (K0.vY q.q.c q.q.s q.q.l q.r)),I (K0.y9 q.q.c q.q.s q.q.l q.r)],by intro q p h;obtain⟨h1,h2,h3,h4⟩:=QH.inj h;simp only[h1,h2,h3,h4]⟩
theorem AO:mZ Tryz.prog .nil TH:=by refine⟨⟨_,lv (n:=151) (by decide)⟩,fun q=>?_⟩;have sh:=Kk q.q.ok;have h:=gP (f:=151) (by decide) (Tb sh) (avW sh) (Ar q.q.s q.q.l q.r 0);rw[q.jo]at h;have hv:=(abc q.q.ok q.q.l q.r);unfold aa9 at hv;rw[hv]at h;exact h
def Zb:MZ:=⟨154,QC,QC.args,fun q=>.tuple [.bool (K0.TB q.c q.s q.l),I (K0.TC q.c q.s q.l)],by intro q p h;obtain⟨h1,h2,h3⟩:=QC.inj h;simp only[h1,h2,h3]⟩
theorem aeR:mZ Tryz.prog .nil Zb:=by refine⟨⟨_,lv (n:=154) (by decide)⟩,fun q=>?_⟩;have sh:=Kk q.ok;have h:=gP (f:=154) (by decide) (at6 sh) (aAr sh) (Ar q.s q.l z0 0);rw[q.jo]at h;rw[DT.nQ (ρ:=Ar q.s q.l z0 0) (arF sh) trivial]at h;have hv:=(ahW q.ok q.l);unfold amb at hv;rw[hv]at h;exact h
def O9:MZ:=⟨155,QH,QH.args,fun q=>.tuple [.bool (K0.ui q.q.c q.q.s q.q.l q.r),I (K0.uj q.q.c q.q.s q.q.l q.r)],by intro q p h;obtain⟨h1,h2,h3,h4⟩:=QH.inj h;simp only[h1,h2,h3,h4]⟩
theorem Zc:mZ Tryz.prog .nil O9:=by refine⟨⟨_,lv (n:=155) (by decide)⟩,fun q=>?_⟩;have sh:=Kk q.q.ok;have h:=gP (f:=155) (by decide) (Tb sh) (arG sh) (Ar q.q.s q.q.l q.r 0);rw[q.jo]at h;rw[DT.nQ (ρ:=Ar q.q.s q.q.l q.r 0) (ajQ sh) trivial]at h;have hv:=(X0 q.q.ok q.q.l q.r);unfold Tz at hv;rw[hv]at h;exact h
def TJ:MZ:=⟨156,QH,QH.args,fun q=>.tuple [.agg (eS (K0.vY q.q.c q.q.s q.q.l q.r)),I (K0.y9 q.q.c q.q.s q.q.l q.r)],by intro q p h;obtain⟨h1,h2,h3,h4⟩:=QH.inj h;simp only[h1,h2,h3,h4]⟩
theorem abn:mZ Tryz.prog .nil TJ:=by refine⟨⟨_,lv (n:=156) (by decide)⟩,fun q=>?_⟩;have sh:=Kk q.q.ok;have h:=gP (f:=156) (by decide) (Tb sh) (avX sh) (Ar q.q.s q.q.l q.r 0);rw[q.jo]at h;rw[DT.nQ (ρ:=Ar q.q.s q.q.l q.r 0) (amA sh) trivial]at h;have hv:=(abc q.q.ok q.q.l q.r);unfold aa9 at hv;rw[hv]at h;exact h
structure QI where
 i:Nat
 lt:i<3
theorem Wb{i j:Nat}(hi:i<3)(hj:j<3)(h:ft i=ft j):i=j:=by
 have Xd:i=0∨i=1∨i=2:=by omega
 have hj':j=0∨j=1∨j=2:=by omega
 rcases Xd with rfl|rfl|rfl<;>rcases hj' with rfl|rfl|rfl<;>first|rfl|(exfalso;simp[ft,lD]at h)
theorem YK(i:Nat):AV.iA [vM,ft i,iU]=true:=by have:=S6;simp only[AV.iA,this];rfl
def Vl:MZ:=⟨132,QI,fun q=>[vM,ft q.i,iU],fun q=>.tuple [.agg (eS (cX q.i)),I 0],by intro q p h;simp only[List.cons.injEq,true_and,and_true]at h;rw[Wb q.lt p.lt h]⟩
theorem IL:mZ Tryz.prog .nil Vl:=by
 refine⟨⟨_,lv (n:=132) (by decide)⟩,fun q=>?_⟩;obtain⟨i,hi⟩:=q;have hv:=aia
 match i,hi with
 |0,_=>have h:=gP (f:=132) (l:=[vM,ft 0,iU]) (d:=RB) (by decide) (by simp only[AV.JO,hv];rfl) XF (fun _=>0);rw[gC _ (YK 0)]at h;exact h
 |1,_=>have h:=gP (f:=132) (l:=[vM,ft 1,iU]) (d:=Lw) (by decide) (by simp only[AV.JO,hv];rfl) SL (fun _=>0);rw[gC _ (YK 1)]at h;exact h
 |2,_=>have h:=gP (f:=132) (l:=[vM,ft 2,iU]) (d:=Jq) (by decide) (by simp only[AV.JO,hv];rfl) P5 (fun _=>0);rw[gC _ (YK 2)]at h;exact h
def Vm:MZ:=⟨73,QI,fun q=>[vM,ft q.i,iU],fun q=>.tuple [.agg (eS (cX q.i)),I 0],by intro q p h;simp only[List.cons.injEq,true_and,and_true]at h;rw[Wb q.lt p.lt h]⟩
theorem acX:mZ Tryz.prog .nil Vm:=by
 refine⟨⟨_,lv (n:=73) (by decide)⟩,fun q=>?_⟩;obtain⟨i,hi⟩:=q;have hv:=aia
 match i,hi with
 |0,_=>have h:=gP (f:=73) (l:=[vM,ft 0,iU]) (d:=Rg) (by decide) (by simp only[AV.JO,hv];rfl) Xr (fun _=>0);rw[gC _ (YK 0)]at h;exact h
 |1,_=>have h:=gP (f:=73) (l:=[vM,ft 1,iU]) (d:=Le) (by decide) (by simp only[AV.JO,hv];rfl) Sw (fun _=>0);rw[gC _ (YK 1)]at h;exact h
 |2,_=>have h:=gP (f:=73) (l:=[vM,ft 2,iU]) (d:=Jf) (by decide) (by simp only[AV.JO,hv];rfl) PZ (fun _=>0);rw[gC _ (YK 2)]at h;exact h
def ahI:MZ:=⟨129,QI,fun q=>[vM,I 4,ft q.i],fun q=>.tuple [.agg (LM q.i),.bool true],by intro q p h;simp only[List.cons.injEq,true_and,and_true]at h;rw[Wb q.lt p.lt h]⟩
theorem KW:mZ Tryz.prog .nil ahI:=by
 refine⟨⟨_,lv (n:=129) (by decide)⟩,fun q=>?_⟩;obtain⟨i,hi⟩:=q;have h:=Tv
 match i,hi with
 |0,_=>exact h.1
 |1,_=>exact h.2.1
 |2,_=>exact h.2.2.1
def okT:DT:=.ask .eql (.var 0) (.lit 0) (.leaf (I 0)) (.ask .eql (.var 0) (.lit 1) (.ask .eql (.var 1) (.lit 0) (.leaf (I 0)) (.ask .eql (.var 1) (.lit 1) (.leaf (I 0)) (.leaf (I 1)))) (.ask .eql (.var 0) (.lit 2) (.ask .eql (.var 1) (.lit 0) (.leaf (I 0)) (.leaf (I 1))) (.leaf (I 1))))
theorem DR(ρ:Nat→Int)(a b:SI):holds ρ .eql a b=decide (a.den ρ=b.den ρ):=by unfold holds;simp only[iB];by_cases h:a.den ρ=b.den ρ<;>simp[h]
theorem atI(u:U):okT.val (rho [u.k,u.n])=I (if pV u=true then 0 else 1):=by
 obtain⟨k,n⟩:=u;have d0:(SI.var 0).den (rho [k,n])=k:=rfl;have d1:(SI.var 1).den (rho [k,n])=n:=rfl;have dl:∀z:Int,(SI.lit z).den (rho [k,n])=z:=fun _=>rfl;unfold okT;simp only[DT.val,DR,d0,d1,dl];by_cases h0:k=0
 ·simp[h0,pV];rfl
 ·by_cases h1:k=1
  ·by_cases n0:n=0
   ·simp[h1,n0,pV];rfl
   ·by_cases n1:n=1
    ·simp[h1,n1,pV];rfl
    ·simp[h1,n0,n1,pV];rfl
  ·by_cases h2:k=2
   ·by_cases n0:n=0
    ·simp[h2,n0,pV];rfl
    ·simp[h2,n0,pV];rfl
   ·simp[h0,h1,h2,pV];rfl
def ayE:DT:=.ask .eql (.var 0) (.lit 0) (.leaf (I 0)) (.ask .eql (.var 0) (.lit 1) (.ask .lss (.var 1) (.lit 0) (.leaf (I 1)) (.ask .gtr (.var 1) (.lit 1) (.leaf (I 1)) (.leaf (I 0)))) (.ask .eql (.var 0) (.lit 2) (.ask .neq (.var 1) (.lit 0) (.leaf (I 1)) (.leaf (I 0))) (.ask .eql (.var 0) (.lit 3) (.leaf (I 1)) (.ask .lss (.var 0) (.lit 0) (.leaf (I 1)) (.ask .gtr (.var 0) (.lit 3) (.leaf (I 1)) (.leaf (I 0)))))))
theorem aqy(ρ:Nat→Int)(a b:SI):holds ρ .lss a b=decide (a.den ρ<b.den ρ):=by unfold holds;simp only[iB]
theorem aqz(ρ:Nat→Int)(a b:SI):holds ρ .gtr a b=decide (b.den ρ<a.den ρ):=by unfold holds;simp only[iB]
theorem aqA(ρ:Nat→Int)(a b:SI):holds ρ .neq a b=decide (a.den ρ≠b.den ρ):=by unfold holds;simp only[iB];by_cases h:a.den ρ=b.den ρ<;>simp[h]
theorem aqB(u:U):ayE.val (rho [u.k,u.n])=I (if pV u=true then 0 else 1):=by
 obtain⟨k,n⟩:=u;have d0:(SI.var 0).den (rho [k,n])=k:=rfl;have d1:(SI.var 1).den (rho [k,n])=n:=rfl;have dl:∀z:Int,(SI.lit z).den (rho [k,n])=z:=fun _=>rfl;unfold ayE;simp only[DT.val,DR,aqy,aqz,aqA,d0,d1,dl];have z:∀{b:Bool} {x:Int},(x=if b=true then 0 else 1)→(AV.int .i64 (.lit x):AV)=I (if b=true then 0 else 1):=fun h=>by rw[h]
 by_cases h0:k=0
 ·simp[h0,pV];rfl
 ·by_cases h1:k=1
  ·by_cases n0:n<0
   ·have:n≠0∧n≠1:=by omega
    simp[h1,n0,pV,this.1,this.2];rfl
   ·by_cases n1:1<n
    ·have:n≠0∧n≠1:=by omega
     simp[h1,n0,n1,pV,this.1,this.2];rfl
    ·have:n=0∨n=1:=by omega
     simp[h1,n0,n1,pV,this];rfl
  ·by_cases h2:k=2
   ·by_cases n0:n=0
    ·simp[h2,n0,pV];rfl
    ·simp[h2,n0,pV];rfl
   ·by_cases h3:k=3
    ·simp[h3,pV];rfl
    ·by_cases h4:k<0
     ·simp[h0,h1,h2,h3,h4,pV];rfl
     ·have h5:3<k:=by omega
      simp[h0,h1,h2,h3,h4,h5,pV];rfl
def alA:MZ:=⟨159,U,fun u=>[.agg (eU u)],fun u=>I (if pV u=true then 0 else 1),by intro q p h;simp only[List.cons.injEq,and_true]at h;rw[aeQ h]⟩
theorem Fc:mZ Tryz.prog .nil alA:=by
 refine⟨⟨_,lv (n:=159) (by decide)⟩,fun(u:U)=>?_⟩;have h:=gP (f:=159) (l:=ac8) (by decide) rfl apy (rho [u.k,u.n]);have hs:DT.same apx.dt okT []=true:=by kernel_rfl
 rw[DT.nQ (ρ:=rho [u.k,u.n]) (F:=[]) hs trivial,atI]at h;exact h
def PV:MZ:=⟨96,U,fun u=>[.agg (eU u)],fun u=>I (if pV u=true then 0 else 1),by intro q p h;simp only[List.cons.injEq,and_true]at h;rw[aeQ h]⟩
theorem Z8:mZ Tryz.prog .nil PV:=by
 refine⟨⟨_,lv (n:=96) (by decide)⟩,fun(u:U)=>?_⟩;have h:=gP (f:=96) (l:=ac9) (by decide) rfl apA (rho [u.k,u.n]);have hs:DT.same apz.dt ayE []=true:=by kernel_rfl
 rw[DT.nQ (ρ:=rho [u.k,u.n]) (F:=[]) hs trivial,aqB]at h;exact h
structure QT where
 s:St
 t:St
 hs:s.kids.length≤3
 ht:t.kids.length≤3
inductive S4:Nat→Prop
 |a:S4 0
 |b:S4 1
 |c:S4 2
 |d:S4 3
theorem Rf:∀{n:Nat},n≤3→S4 n
 |0,_=>.a
 |1,_=>.b
 |2,_=>.c
 |3,_=>.d
 |n+4,h=>absurd h (by omega)
abbrev aqC(n m:Nat):List AV:=[stS 0 n,stS 8 m]
theorem aqD{n m:Nat}(h:S4 n)(k:S4 m):AV.JO (aqC n m)=true:=by cases h<;>cases k<;>rfl
theorem QT.jo(q:QT):AV.jo (yu q.s q.t) (aqC q.s.kids.length q.t.kids.length)=[.agg (eS q.s),.agg (eS q.t)]:=by show [_,_]=_;rw[sub_one q.hs,aru q.ht]
theorem QT.inj{q p:QT}(h:([.agg (eS q.s),.agg (eS q.t)]:List AV)=[.agg (eS p.s),.agg (eS p.t)]):q.s=p.s∧q.t=p.t:=by simp only[List.cons.injEq,and_true]at h;exact⟨O4 h.1,O4 h.2⟩
def avx:Nat→Nat→aO
 |0,0=>Vq
 |0,1=>ada
 |0,2=>adf
 |0,3=>adi
 |1,0=>adl
 |1,1=>ado
 |1,2=>adr
 |1,3=>adv
 |2,0=>ady
 |2,1=>adB
 |2,2=>adE
 |2,3=>adH
 |3,0=>adK
 |3,1=>adN
 |3,2=>adQ
 |3,3=>adT
 |_,_=>Vq
theorem aDn{n m:Nat}(h:S4 n)(k:S4 m):aO.df (CF aR) 139 (avx n m) ⟨ai 139 (fx 139) (aqC n m),[],.nil,bw⟩ [] []=true:=by
 cases h<;>cases k
 ·exact afN
 ·exact afT
 ·exact afZ
 ·exact af7
 ·exact agd
 ·exact agk
 ·exact agq
 ·exact agw
 ·exact agC
 ·exact agI
 ·exact agO
 ·exact agU
 ·exact ag0
 ·exact ag6
 ·exact ahc
 ·exact ahi
theorem aDo{n m:Nat}(h:S4 n)(k:S4 m):DT.same (avx n m).dt (TE (fun i=>I i) (vars 0 n) (vars 8 m)) []=true:=by cases h<;>cases k<;>kernel_rfl
def Z4:MZ:=⟨139,QT,fun q=>[.agg (eS q.s),.agg (eS q.t)],fun q=>I (jA q.s q.t),by intro q p h;obtain⟨h1,h2⟩:=QT.inj h;simp only[h1,h2]⟩
theorem zF:mZ Tryz.prog .nil Z4:=by refine⟨⟨_,lv (n:=139) (by decide)⟩,fun q=>?_⟩;have h1:=Rf q.hs;have h2:=Rf q.ht;have h:=gP (f:=139) (by decide) (aqD h1 h2) (aDn h1 h2) (yu q.s q.t);rw[q.jo,Y5 q.hs q.ht (f:=fun i=>I i) (fun _ _=>rfl) (aDo h1 h2)]at h;exact h
def avy:Nat→Nat→aO
 |0,0=>Vr
 |0,1=>adb
 |0,2=>adg
 |0,3=>adj
 |1,0=>adm
 |1,1=>adp
 |1,2=>adt
 |1,3=>adw
 |2,0=>adz
 |2,1=>adC
 |2,2=>adF
 |2,3=>adI
 |3,0=>adL
 |3,1=>adO
 |3,2=>adR
 |3,3=>adU
 |_,_=>Vr
theorem aDp{n m:Nat}(h:S4 n)(k:S4 m):aO.df (CF aR) 145 (avy n m) ⟨ai 145 (fx 145) (aqC n m),[],.nil,bw⟩ [] []=true:=by
 cases h<;>cases k
 ·exact afP
 ·exact afV
 ·exact af3
 ·exact af9
 ·exact agf
 ·exact agm
 ·exact ags
 ·exact agy
 ·exact agE
 ·exact agK
 ·exact agQ
 ·exact agW
 ·exact ag2
 ·exact ag8
 ·exact ahe
 ·exact ahk
theorem aDq{n m:Nat}(h:S4 n)(k:S4 m):DT.same (avy n m).dt (TE (fun i=>I i) (vars 0 n) (vars 8 m)) []=true:=by cases h<;>cases k<;>kernel_rfl
def Z5:MZ:=⟨145,QT,fun q=>[.agg (eS q.s),.agg (eS q.t)],fun q=>I (jA q.s q.t),by intro q p h;obtain⟨h1,h2⟩:=QT.inj h;simp only[h1,h2]⟩
theorem afF:mZ Tryz.prog .nil Z5:=by refine⟨⟨_,lv (n:=145) (by decide)⟩,fun q=>?_⟩;have h1:=Rf q.hs;have h2:=Rf q.ht;have h:=gP (f:=145) (by decide) (aqD h1 h2) (aDp h1 h2) (yu q.s q.t);rw[q.jo,Y5 q.hs q.ht (f:=fun i=>I i) (fun _ _=>rfl) (aDq h1 h2)]at h;exact h
def avz:Nat→Nat→aO
 |0,0=>Vs
 |0,1=>ade
 |0,2=>adh
 |0,3=>adk
 |1,0=>adn
 |1,1=>adq
 |1,2=>adu
 |1,3=>adx
 |2,0=>adA
 |2,1=>adD
 |2,2=>adG
 |2,3=>adJ
 |3,0=>adM
 |3,1=>adP
 |3,2=>adS
 |3,3=>adV
 |_,_=>Vs
theorem aDr{n m:Nat}(h:S4 n)(k:S4 m):aO.df (CF aR) 141 (avz n m) ⟨ai 141 (fx 141) (aqC n m),[],.nil,bw⟩ [] []=true:=by
 cases h<;>cases k
 ·exact afR
 ·exact afX
 ·exact af5
 ·exact agb
 ·exact agi
 ·exact ago
 ·exact agu
 ·exact agA
 ·exact agG
 ·exact agM
 ·exact agS
 ·exact agY
 ·exact ag4
 ·exact aha
 ·exact ahg
 ·exact ahm
theorem aDs{n m:Nat}(h:S4 n)(k:S4 m):DT.same (avz n m).dt (TE (fun i=>.bool (i==0)) (vars 0 n) (vars 8 m)) []=true:=by cases h<;>cases k<;>kernel_rfl
def Z6:MZ:=⟨141,QT,fun q=>[.agg (eS q.s),.agg (eS q.t)],fun q=>.bool (decide (q.s=q.t)),by intro q p h;obtain⟨h1,h2⟩:=QT.inj h;simp only[h1,h2]⟩
theorem afG:mZ Tryz.prog .nil Z6:=by
 refine⟨⟨_,lv (n:=141) (by decide)⟩,fun q=>?_⟩;have h1:=Rf q.hs;have h2:=Rf q.ht;have h:=gP (f:=141) (by decide) (aqD h1 h2) (aDr h1 h2) (yu q.s q.t);rw[q.jo,Y5 q.hs q.ht (f:=fun i=>.bool (i==0)) (fun _ _=>rfl) (aDs h1 h2)]at h;have e:(jA q.s q.t==0)=decide (q.s=q.t):=by rw[Bool.eq_iff_iff];simp[vE]
 simp only[e]at h;exact h
structure QK where
 s:St
 hs:s.kids.length≤3
def Vn:MZ:=⟨62,QK,fun q=>[.agg (eS q.s)],fun q=>.agg (eS q.s),by intro q p h;simp only[List.cons.injEq,and_true]at h;rw[O4 h]⟩
def aqE:Nat→aO
 |0=>apB
 |1=>apE
 |2=>apH
 |_=>apK
theorem ayF{n:Nat}(h:S4 n):aO.df (CF aR) 62 (aqE n) ⟨ai 62 (fx 62) [stS 0 n],[],.nil,bw⟩ [] []=true:=by
 cases h
 ·exact apD
 ·exact apG
 ·exact apJ
 ·exact apM
theorem ayG{n:Nat}(h:S4 n):DT.same (aqE n).dt (.leaf (stS 0 n)) []=true:=by cases h<;>kernel_rfl
theorem avg{n:Nat}(h:S4 n):AV.JO [stS 0 n]=true:=by cases h<;>rfl
theorem wi:mZ Tryz.prog .nil Vn:=by
 refine⟨⟨_,lv (n:=62) (by decide)⟩,fun q=>?_⟩;have h1:=Rf q.hs;have h:=gP (f:=62) (by decide) (avg h1) (ayF h1) (yu q.s q.s);rw[DT.nQ (ρ:=yu q.s q.s) (ayG h1) trivial]at h;have e:AV.jo (yu q.s q.s) [stS 0 q.s.kids.length]=[.agg (eS q.s)]:=by show [_]=_;rw[sub_one q.hs]
 have e2:(DT.leaf (stS 0 q.s.kids.length)).val (yu q.s q.s)=.agg (eS q.s):=sub_one q.hs;rw[e,e2]at h;exact h
end Ln
