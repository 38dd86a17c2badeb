/- A part of the proof. No condition. -/
import Derived.Test.YtecbfpngkfdkoaaGreatP15
import Derived.Test.YtecbfpngkfdkoaaGreatP16
namespace Ln
open Go.Sx Go Go.Proofs
theorem aah:∀{l m:List U},aq eU l=aq eU m→l=m
 | [],[],_=>rfl
 | [],v ::m,h=>by simp[dg,eU]at h
 |u ::l,[],h=>by simp[dg,eU]at h
 |u ::l,v ::m,h=>by
  simp[dg,eU]at h;obtain⟨h1,h2,h3⟩:=h;have:=aah h3;obtain⟨a,b⟩:=u;obtain⟨c,d⟩:=v
  simp_all
theorem L7{l m:List U}(h:aV l=aV m):l=m:=by
 cases l with
 |nil=>
  cases m with
  |nil=>rfl
  |cons v m=>cases h
 |cons u l=>
  cases m with
  |nil=>cases h
  |cons v m=>simp only[aV,AV.sl.injEq]at h;exact aah h.1
theorem NT{s t:St}(h:AV.agg (eS s)=.agg (eS t)):s=t:=by obtain⟨a,b,l⟩:=s;obtain⟨c,d,m⟩:=t;simp only[eS,AV.agg.injEq,List.cons.injEq,I,AV.int.injEq,SI.lit.injEq,true_and,and_true]at h;obtain⟨h1,h2,h3⟩:=h;rw[h1,h2,L7 h3]
theorem adY{u v:U}(h:AV.agg (eU u)=.agg (eU v)):u=v:=by obtain⟨a,b⟩:=u;obtain⟨c,d⟩:=v;simp only[eU,AV.agg.injEq,List.cons.injEq,I,AV.int.injEq,SI.lit.injEq,true_and,and_true]at h;rw[h.1,h.2]
theorem ahd{c d:cd}(h1:c.fm=d.fm)(h2:c.name=d.name):c=d:=by cases c<;>cases d<;>first|rfl|(exact absurd h1 (by decide))|exact absurd h2 (by decide)
theorem ahe{c d:cd}(h:fT c.fm=fT d.fm):c.fm=d.fm:=by cases c<;>cases d<;>first|rfl|(exfalso;simp[fT,NU,cd.fm]at h)
theorem atu(c:cd):c.ar≤1:=by cases c<;>decide
structure QC where
 c:cd
 s:St
 l:List U
 ok:jL c.fm s
 ar:l.length=c.ar
structure QH where
 q:QC
 r:U
def QC.args(q:QC):List AV:=[vM,fT q.c.fm,.str q.c.name.1 q.c.name.2,.agg (eS q.s),aV q.l,iW]
def QH.args(q:QH):List AV:=[vM,fT q.q.c.fm,.str q.q.c.name.1 q.q.c.name.2,.agg (eS q.q.s),aV q.q.l,.agg (eU q.r),iW]
theorem QC.inj{q p:QC}(h:q.args=p.args):q.c=p.c∧q.s=p.s∧q.l=p.l:=by simp only[QC.args,List.cons.injEq,true_and,and_true]at h;obtain⟨h1,h2,h3,h4⟩:=h;simp only[AV.str.injEq]at h2;exact⟨ahd (ahe h1) (Prod.ext h2.1 h2.2),NT h3,L7 h4⟩
theorem QH.inj{q p:QH}(h:q.args=p.args):q.q.c=p.q.c∧q.q.s=p.q.s∧q.q.l=p.q.l∧q.r=p.r:=by simp only[QH.args,List.cons.injEq,true_and,and_true]at h;obtain⟨h1,h2,h3,h4,h5⟩:=h;simp only[AV.str.injEq]at h2;exact⟨ahd (ahe h1) (Prod.ext h2.1 h2.2),NT h3,L7 h4,adY h5⟩
theorem QC.gX(q:QC):AV.gX (yz q.s q.l z0 0) (aqB q.c q.s.kids.length)=q.args:=by
 have h3:q.s.kids.length≤3:=Nat.le_trans q.ok (adW _);have h1:q.l.length≤1:=by rw[q.ar];exact atu _
 have e1:=kr (ρ:=yz q.s q.l z0 0) vM AS;have e2:=aly (aZZ:=q.l) (r:=z0) (w:=0) h3;have e3:=ag7 (s:=q.s) (r:=z0) (w:=0) h1;rw[q.ar]at e3;show [_,_,_,_,_,_]=_;rw[e1,e2,e3];rfl
theorem QH.gX(q:QH):AV.gX (yz q.q.s q.q.l q.r 0) (NV q.q.c q.q.s.kids.length)=q.args:=by
 have h3:q.q.s.kids.length≤3:=Nat.le_trans q.q.ok (adW _);have h1:q.q.l.length≤1:=by rw[q.q.ar];exact atu _
 have e1:=kr (ρ:=yz q.q.s q.q.l q.r 0) vM AS;have e2:=aly (aZZ:=q.q.l) (r:=q.r) (w:=0) h3;have e3:=ag7 (s:=q.q.s) (r:=q.r) (w:=0) h1;have e4:=aqp (s:=q.q.s) (aZZ:=q.q.l) (r:=q.r) (w:=0);rw[q.q.ar]at e3;show [_,_,_,_,_,_,_]=_;rw[e1,e2,e3,e4];rfl
def XK:Im:=⟨149,QC,QC.args,fun q=>.tuple [.bool (K0.UR q.c q.s q.l),I (K0.US q.c q.s q.l)],by intro q p h;obtain⟨h1,h2,h3⟩:=QC.inj h;simp only[h1,h2,h3]⟩
theorem DJ:js Tryz.prog .nil XK:=by refine⟨⟨_,iJ (n:=149) (by decide)⟩,fun q=>?_⟩;have sh:=I8 q.ok;have h:=eJ (f:=149) (by decide) (atv sh) (aAk sh) (yz q.s q.l z0 0);rw[q.gX]at h;have hv:=(ag5 q.ok q.l);unfold ZX at hv;rw[hv]at h;exact h
def NW:Im:=⟨150,QH,QH.args,fun q=>.tuple [.bool (K0.zf q.q.c q.q.s q.q.l q.r),I (K0.zg q.q.c q.q.s q.q.l q.r)],by intro q p h;obtain⟨h1,h2,h3,h4⟩:=QH.inj h;simp only[h1,h2,h3,h4]⟩
theorem mI:js Tryz.prog .nil NW:=by refine⟨⟨_,iJ (n:=150) (by decide)⟩,fun q=>?_⟩;have sh:=I8 q.q.ok;have h:=eJ (f:=150) (by decide) (Q8 sh) (aqC sh) (yz q.q.s q.q.l q.r 0);rw[q.gX]at h;have hv:=(Wj q.q.ok q.q.l q.r);unfold GM at hv;rw[hv]at h;exact h
def RL:Im:=⟨151,QH,QH.args,fun q=>.tuple [.agg (eS (K0.Ct q.q.c q.q.s q.q.l q.r)),I (K0.Ez q.q.c q.q.s q.q.l q.r)],by intro q p h;obtain⟨h1,h2,h3,h4⟩:=QH.inj h;simp only[h1,h2,h3,h4]⟩
theorem AW:js Tryz.prog .nil RL:=by refine⟨⟨_,iJ (n:=151) (by decide)⟩,fun q=>?_⟩;have sh:=I8 q.q.ok;have h:=eJ (f:=151) (by decide) (Q8 sh) (avB sh) (yz q.q.s q.q.l q.r 0);rw[q.gX]at h;have hv:=(Z0 q.q.ok q.q.l q.r);unfold O1 at hv;rw[hv]at h;exact h
def XL:Im:=⟨154,QC,QC.args,fun q=>.tuple [.bool (K0.UR q.c q.s q.l),I (K0.US q.c q.s q.l)],by intro q p h;obtain⟨h1,h2,h3⟩:=QC.inj h;simp only[h1,h2,h3]⟩
theorem adZ:js Tryz.prog .nil XL:=by refine⟨⟨_,iJ (n:=154) (by decide)⟩,fun q=>?_⟩;have sh:=I8 q.ok;have h:=eJ (f:=154) (by decide) (atv sh) (aAl sh) (yz q.s q.l z0 0);rw[q.gX]at h;rw[DT.uX (ρ:=yz q.s q.l z0 0) (aqD sh) trivial]at h;have hv:=(ag5 q.ok q.l);unfold ZX at hv;rw[hv]at h;exact h
def NX:Im:=⟨155,QH,QH.args,fun q=>.tuple [.bool (K0.zf q.q.c q.q.s q.q.l q.r),I (K0.zg q.q.c q.q.s q.q.l q.r)],by intro q p h;obtain⟨h1,h2,h3,h4⟩:=QH.inj h;simp only[h1,h2,h3,h4]⟩
theorem XM:js Tryz.prog .nil NX:=by refine⟨⟨_,iJ (n:=155) (by decide)⟩,fun q=>?_⟩;have sh:=I8 q.q.ok;have h:=eJ (f:=155) (by decide) (Q8 sh) (aqE sh) (yz q.q.s q.q.l q.r 0);rw[q.gX]at h;rw[DT.uX (ρ:=yz q.q.s q.q.l q.r 0) (aiV sh) trivial]at h;have hv:=(Wj q.q.ok q.q.l q.r);unfold GM at hv;rw[hv]at h;exact h
def RM:Im:=⟨156,QH,QH.args,fun q=>.tuple [.agg (eS (K0.Ct q.q.c q.q.s q.q.l q.r)),I (K0.Ez q.q.c q.q.s q.q.l q.r)],by intro q p h;obtain⟨h1,h2,h3,h4⟩:=QH.inj h;simp only[h1,h2,h3,h4]⟩
theorem aai:js Tryz.prog .nil RM:=by refine⟨⟨_,iJ (n:=156) (by decide)⟩,fun q=>?_⟩;have sh:=I8 q.q.ok;have h:=eJ (f:=156) (by decide) (Q8 sh) (avC sh) (yz q.q.s q.q.l q.r 0);rw[q.gX]at h;rw[DT.uX (ρ:=yz q.q.s q.q.l q.r 0) (alR sh) trivial]at h;have hv:=(Z0 q.q.ok q.q.l q.r);unfold O1 at hv;rw[hv]at h;exact h
structure QI where
 i:Nat
 lt:i<3
theorem Uz{i j:Nat}(hi:i<3)(hj:j<3)(h:fT i=fT j):i=j:=by
 have Vr:i=0∨i=1∨i=2:=by omega
 have hj':j=0∨j=1∨j=2:=by omega
 rcases Vr with rfl|rfl|rfl<;>rcases hj' with rfl|rfl|rfl<;>first|rfl|(exfalso;simp[fT,NU]at h)
theorem Xh(i:Nat):AV.dU [vM,fT i,iW]=true:=by have:=AS;simp only[AV.dU,this];rfl
def TL:Im:=⟨132,QI,fun q=>[vM,fT q.i,iW],fun q=>.tuple [.agg (eS (bJ q.i)),I 0],by intro q p h;simp only[List.cons.injEq,true_and,and_true]at h;rw[Uz q.lt p.lt h]⟩
theorem Hy:js Tryz.prog .nil TL:=by
 refine⟨⟨_,iJ (n:=132) (by decide)⟩,fun q=>?_⟩;obtain⟨i,hi⟩:=q;have hv:=aar
 match i,hi with
 |0,_=>have h:=eJ (f:=132) (l:=[vM,fT 0,iW]) (d:=P6) (by decide) (by simp only[AV.Ey,hv];rfl) VS (fun _=>0);rw[fL _ (Xh 0)]at h;exact h
 |1,_=>have h:=eJ (f:=132) (l:=[vM,fT 1,iW]) (d:=Kh) (by decide) (by simp only[AV.Ey,hv];rfl) QW (fun _=>0);rw[fL _ (Xh 1)]at h;exact h
 |2,_=>have h:=eJ (f:=132) (l:=[vM,fT 2,iW]) (d:=H4) (by decide) (by simp only[AV.Ey,hv];rfl) OM (fun _=>0);rw[fL _ (Xh 2)]at h;exact h
def TN:Im:=⟨73,QI,fun q=>[vM,fT q.i,iW],fun q=>.tuple [.agg (eS (bJ q.i)),I 0],by intro q p h;simp only[List.cons.injEq,true_and,and_true]at h;rw[Uz q.lt p.lt h]⟩
theorem abP:js Tryz.prog .nil TN:=by
 refine⟨⟨_,iJ (n:=73) (by decide)⟩,fun q=>?_⟩;obtain⟨i,hi⟩:=q;have hv:=aar
 match i,hi with
 |0,_=>have h:=eJ (f:=73) (l:=[vM,fT 0,iW]) (d:=PM) (by decide) (by simp only[AV.Ey,hv];rfl) VD (fun _=>0);rw[fL _ (Xh 0)]at h;exact h
 |1,_=>have h:=eJ (f:=73) (l:=[vM,fT 1,iW]) (d:=J2) (by decide) (by simp only[AV.Ey,hv];rfl) QM (fun _=>0);rw[fL _ (Xh 1)]at h;exact h
 |2,_=>have h:=eJ (f:=73) (l:=[vM,fT 2,iW]) (d:=HU) (by decide) (by simp only[AV.Ey,hv];rfl) OE (fun _=>0);rw[fL _ (Xh 2)]at h;exact h
def agT:Im:=⟨129,QI,fun q=>[vM,I 4,fT q.i],fun q=>.tuple [.agg (KC q.i),.bool true],by intro q p h;simp only[List.cons.injEq,true_and,and_true]at h;rw[Uz q.lt p.lt h]⟩
theorem JB:js Tryz.prog .nil agT:=by
 refine⟨⟨_,iJ (n:=129) (by decide)⟩,fun q=>?_⟩;obtain⟨i,hi⟩:=q;have h:=Rx
 match i,hi with
 |0,_=>exact h.1
 |1,_=>exact h.2.1
 |2,_=>exact h.2.2.1
def okT:DT:=.ask .eql (.var 0) (.lit 0) (.leaf (I 0)) (.ask .eql (.var 0) (.lit 1) (.ask .eql (.var 1) (.lit 0) (.leaf (I 0)) (.ask .eql (.var 1) (.lit 1) (.leaf (I 0)) (.leaf (I 1)))) (.ask .eql (.var 0) (.lit 2) (.ask .eql (.var 1) (.lit 0) (.leaf (I 0)) (.leaf (I 1))) (.leaf (I 1))))
theorem C5(ρ:Nat→Int)(a b:SI):holds ρ .eql a b=decide (a.den ρ=b.den ρ):=by unfold holds;simp only[fS];by_cases h:a.den ρ=b.den ρ<;>simp[h]
theorem as7(u:U):okT.val (RE [u.k,u.n])=I (if sH u=true then 0 else 1):=by
 obtain⟨k,n⟩:=u;have d0:(SI.var 0).den (RE [k,n])=k:=rfl;have d1:(SI.var 1).den (RE [k,n])=n:=rfl;have dl:∀z:Int,(SI.lit z).den (RE [k,n])=z:=fun _=>rfl;unfold okT;simp only[DT.val,C5,d0,d1,dl];by_cases h0:k=0
 ·simp[h0,sH];rfl
 ·by_cases h1:k=1
  ·by_cases n0:n=0
   ·simp[h1,n0,sH];rfl
   ·by_cases n1:n=1
    ·simp[h1,n1,sH];rfl
    ·simp[h1,n0,n1,sH];rfl
  ·by_cases h2:k=2
   ·by_cases n0:n=0
    ·simp[h2,n0,sH];rfl
    ·simp[h2,n0,sH];rfl
   ·simp[h0,h1,h2,sH];rfl
def ayv:DT:=.ask .eql (.var 0) (.lit 0) (.leaf (I 0)) (.ask .eql (.var 0) (.lit 1) (.ask .lss (.var 1) (.lit 0) (.leaf (I 1)) (.ask .gtr (.var 1) (.lit 1) (.leaf (I 1)) (.leaf (I 0)))) (.ask .eql (.var 0) (.lit 2) (.ask .neq (.var 1) (.lit 0) (.leaf (I 1)) (.leaf (I 0))) (.ask .eql (.var 0) (.lit 3) (.leaf (I 1)) (.ask .lss (.var 0) (.lit 0) (.leaf (I 1)) (.ask .gtr (.var 0) (.lit 3) (.leaf (I 1)) (.leaf (I 0)))))))
theorem apv(ρ:Nat→Int)(a b:SI):holds ρ .lss a b=decide (a.den ρ<b.den ρ):=by unfold holds;simp only[fS]
theorem apw(ρ:Nat→Int)(a b:SI):holds ρ .gtr a b=decide (b.den ρ<a.den ρ):=by unfold holds;simp only[fS]
theorem apx(ρ:Nat→Int)(a b:SI):holds ρ .neq a b=decide (a.den ρ≠b.den ρ):=by unfold holds;simp only[fS];by_cases h:a.den ρ=b.den ρ<;>simp[h]
theorem apy(u:U):ayv.val (RE [u.k,u.n])=I (if sH u=true then 0 else 1):=by
 obtain⟨k,n⟩:=u;have d0:(SI.var 0).den (RE [k,n])=k:=rfl;have d1:(SI.var 1).den (RE [k,n])=n:=rfl;have dl:∀z:Int,(SI.lit z).den (RE [k,n])=z:=fun _=>rfl;unfold ayv;simp only[DT.val,C5,apv,apw,apx,d0,d1,dl];have z:∀{b:Bool} {x:Int},(x=if b=true then 0 else 1)→(AV.int .i64 (.lit x):AV)=I (if b=true then 0 else 1):=fun h=>by rw[h]
 by_cases h0:k=0
 ·simp[h0,sH];rfl
 ·by_cases h1:k=1
  ·by_cases n0:n<0
   ·have:n≠0∧n≠1:=by omega
    simp[h1,n0,sH,this.1,this.2];rfl
   ·by_cases n1:1<n
    ·have:n≠0∧n≠1:=by omega
     simp[h1,n0,n1,sH,this.1,this.2];rfl
    ·have:n=0∨n=1:=by omega
     simp[h1,n0,n1,sH,this];rfl
  ·by_cases h2:k=2
   ·by_cases n0:n=0
    ·simp[h2,n0,sH];rfl
    ·simp[h2,n0,sH];rfl
   ·by_cases h3:k=3
    ·simp[h3,sH];rfl
    ·by_cases h4:k<0
     ·simp[h0,h1,h2,h3,h4,sH];rfl
     ·have h5:3<k:=by omega
      simp[h0,h1,h2,h3,h4,h5,sH];rfl
def akG:Im:=⟨159,U,fun u=>[.agg (eU u)],fun u=>I (if sH u=true then 0 else 1),by intro q p h;simp only[List.cons.injEq,and_true]at h;rw[adY h]⟩
theorem DY:js Tryz.prog .nil akG:=by
 refine⟨⟨_,iJ (n:=159) (by decide)⟩,fun(u:U)=>?_⟩;have h:=eJ (f:=159) (l:=abV) (by decide) rfl aot (RE [u.k,u.n]);have hs:DT.same aos.dt okT []=true:=by kernel_rfl
 rw[DT.uX (ρ:=RE [u.k,u.n]) (F:=[]) hs trivial,as7]at h;exact h
def OB:Im:=⟨96,U,fun u=>[.agg (eU u)],fun u=>I (if sH u=true then 0 else 1),by intro q p h;simp only[List.cons.injEq,and_true]at h;rw[adY h]⟩
theorem YM:js Tryz.prog .nil OB:=by
 refine⟨⟨_,iJ (n:=96) (by decide)⟩,fun(u:U)=>?_⟩;have h:=eJ (f:=96) (l:=abW) (by decide) rfl aov (RE [u.k,u.n]);have hs:DT.same aou.dt ayv []=true:=by kernel_rfl
 rw[DT.uX (ρ:=RE [u.k,u.n]) (F:=[]) hs trivial,apy]at h;exact h
structure QT where
 s:St
 t:St
 hs:s.kids.length≤3
 ht:t.kids.length≤3
inductive S4:Nat→Prop
 |a:S4 0
 |b:S4 1
 |c:S4 2
 |d:S4 3
theorem PL:∀{n:Nat},n≤3→S4 n
 |0,_=>.a
 |1,_=>.b
 |2,_=>.c
 |3,_=>.d
 |n+4,h=>absurd h (by omega)
abbrev apz(n m:Nat):List AV:=[stS 0 n,stS 8 m]
theorem apA{n m:Nat}(h:S4 n)(k:S4 m):AV.Ey (apz n m)=true:=by cases h<;>cases k<;>rfl
theorem QT.gX(q:QT):AV.gX (yA q.s q.t) (apz q.s.kids.length q.t.kids.length)=[.agg (eS q.s),.agg (eS q.t)]:=by show [_,_]=_;rw[sub_one q.hs,aqq q.ht]
theorem QT.inj{q p:QT}(h:([.agg (eS q.s),.agg (eS q.t)]:List AV)=[.agg (eS p.s),.agg (eS p.t)]):q.s=p.s∧q.t=p.t:=by simp only[List.cons.injEq,and_true]at h;exact⟨NT h.1,NT h.2⟩
def au6:Nat→Nat→aL
 |0,0=>TR
 |0,1=>abX
 |0,2=>ab2
 |0,3=>ab5
 |1,0=>ab8
 |1,1=>acb
 |1,2=>acf
 |1,3=>aci
 |2,0=>acm
 |2,1=>acp
 |2,2=>acu
 |2,3=>acx
 |3,0=>acA
 |3,1=>acD
 |3,2=>acG
 |3,3=>acJ
 |_,_=>TR
theorem aDm{n m:Nat}(h:S4 n)(k:S4 m):aL.cu (CF aQ) 139 (au6 n m) ⟨ai 139 (fx 139) (apz n m),[],.nil,bC⟩ [] []=true:=by
 cases h<;>cases k
 ·exact aeY
 ·exact ae4
 ·exact afa
 ·exact afg
 ·exact afm
 ·exact afs
 ·exact afy
 ·exact afE
 ·exact afK
 ·exact afQ
 ·exact afW
 ·exact af4
 ·exact aga
 ·exact agh
 ·exact agn
 ·exact agt
theorem aDn{n m:Nat}(h:S4 n)(k:S4 m):DT.same (au6 n m).dt (RG (fun i=>I i) (vars 0 n) (vars 8 m)) []=true:=by cases h<;>cases k<;>kernel_rfl
def YI:Im:=⟨139,QT,fun q=>[.agg (eS q.s),.agg (eS q.t)],fun q=>I (qz q.s q.t),by intro q p h;obtain⟨h1,h2⟩:=QT.inj h;simp only[h1,h2]⟩
theorem zR:js Tryz.prog .nil YI:=by refine⟨⟨_,iJ (n:=139) (by decide)⟩,fun q=>?_⟩;have h1:=PL q.hs;have h2:=PL q.ht;have h:=eJ (f:=139) (by decide) (apA h1 h2) (aDm h1 h2) (yA q.s q.t);rw[q.gX,XD q.hs q.ht (f:=fun i=>I i) (fun _ _=>rfl) (aDn h1 h2)]at h;exact h
def au7:Nat→Nat→aL
 |0,0=>TS
 |0,1=>abY
 |0,2=>ab3
 |0,3=>ab6
 |1,0=>ab9
 |1,1=>acd
 |1,2=>acg
 |1,3=>acj
 |2,0=>acn
 |2,1=>acq
 |2,2=>acv
 |2,3=>acy
 |3,0=>acB
 |3,1=>acE
 |3,2=>acH
 |3,3=>acK
 |_,_=>TS
theorem aDo{n m:Nat}(h:S4 n)(k:S4 m):aL.cu (CF aQ) 145 (au7 n m) ⟨ai 145 (fx 145) (apz n m),[],.nil,bC⟩ [] []=true:=by
 cases h<;>cases k
 ·exact ae0
 ·exact ae6
 ·exact afc
 ·exact afi
 ·exact afo
 ·exact afu
 ·exact afA
 ·exact afG
 ·exact afM
 ·exact afS
 ·exact afY
 ·exact af6
 ·exact agc
 ·exact agj
 ·exact agp
 ·exact agv
theorem aDp{n m:Nat}(h:S4 n)(k:S4 m):DT.same (au7 n m).dt (RG (fun i=>I i) (vars 0 n) (vars 8 m)) []=true:=by cases h<;>cases k<;>kernel_rfl
def YJ:Im:=⟨145,QT,fun q=>[.agg (eS q.s),.agg (eS q.t)],fun q=>I (qz q.s q.t),by intro q p h;obtain⟨h1,h2⟩:=QT.inj h;simp only[h1,h2]⟩
theorem aeQ:js Tryz.prog .nil YJ:=by refine⟨⟨_,iJ (n:=145) (by decide)⟩,fun q=>?_⟩;have h1:=PL q.hs;have h2:=PL q.ht;have h:=eJ (f:=145) (by decide) (apA h1 h2) (aDo h1 h2) (yA q.s q.t);rw[q.gX,XD q.hs q.ht (f:=fun i=>I i) (fun _ _=>rfl) (aDp h1 h2)]at h;exact h
def au8:Nat→Nat→aL
 |0,0=>TU
 |0,1=>abZ
 |0,2=>ab4
 |0,3=>ab7
 |1,0=>aca
 |1,1=>ace
 |1,2=>ach
 |1,3=>ack
 |2,0=>aco
 |2,1=>acr
 |2,2=>acw
 |2,3=>acz
 |3,0=>acC
 |3,1=>acF
 |3,2=>acI
 |3,3=>acL
 |_,_=>TU
theorem aDq{n m:Nat}(h:S4 n)(k:S4 m):aL.cu (CF aQ) 141 (au8 n m) ⟨ai 141 (fx 141) (apz n m),[],.nil,bC⟩ [] []=true:=by
 cases h<;>cases k
 ·exact ae2
 ·exact ae8
 ·exact afe
 ·exact afk
 ·exact afq
 ·exact afw
 ·exact afC
 ·exact afI
 ·exact afO
 ·exact afU
 ·exact af0
 ·exact af8
 ·exact age
 ·exact agl
 ·exact agr
 ·exact agx
theorem aDr{n m:Nat}(h:S4 n)(k:S4 m):DT.same (au8 n m).dt (RG (fun i=>.bool (i==0)) (vars 0 n) (vars 8 m)) []=true:=by cases h<;>cases k<;>kernel_rfl
def YK:Im:=⟨141,QT,fun q=>[.agg (eS q.s),.agg (eS q.t)],fun q=>.bool (decide (q.s=q.t)),by intro q p h;obtain⟨h1,h2⟩:=QT.inj h;simp only[h1,h2]⟩
theorem aeR:js Tryz.prog .nil YK:=by
 refine⟨⟨_,iJ (n:=141) (by decide)⟩,fun q=>?_⟩;have h1:=PL q.hs;have h2:=PL q.ht;have h:=eJ (f:=141) (by decide) (apA h1 h2) (aDq h1 h2) (yA q.s q.t);rw[q.gX,XD q.hs q.ht (f:=fun i=>.bool (i==0)) (fun _ _=>rfl) (aDr h1 h2)]at h;have e:(qz q.s q.t==0)=decide (q.s=q.t):=by rw[Bool.eq_iff_iff];simp[Ik]
 simp only[e]at h;exact h
structure QK where
 s:St
 hs:s.kids.length≤3
def TO:Im:=⟨62,QK,fun q=>[.agg (eS q.s)],fun q=>.agg (eS q.s),by intro q p h;simp only[List.cons.injEq,and_true]at h;rw[NT h]⟩
def apB:Nat→aL
 |0=>aow
 |1=>aoz
 |2=>aoC
 |_=>aoF
theorem ayw{n:Nat}(h:S4 n):aL.cu (CF aQ) 62 (apB n) ⟨ai 62 (fx 62) [stS 0 n],[],.nil,bC⟩ [] []=true:=by
 cases h
 ·exact aoy
 ·exact aoB
 ·exact aoE
 ·exact aoH
theorem ayx{n:Nat}(h:S4 n):DT.same (apB n).dt (.leaf (stS 0 n)) []=true:=by cases h<;>kernel_rfl
theorem auL{n:Nat}(h:S4 n):AV.Ey [stS 0 n]=true:=by cases h<;>rfl
theorem vZ:js Tryz.prog .nil TO:=by
 refine⟨⟨_,iJ (n:=62) (by decide)⟩,fun q=>?_⟩;have h1:=PL q.hs;have h:=eJ (f:=62) (by decide) (auL h1) (ayw h1) (yA q.s q.s);rw[DT.uX (ρ:=yA q.s q.s) (ayx h1) trivial]at h;have e:AV.gX (yA q.s q.s) [stS 0 q.s.kids.length]=[.agg (eS q.s)]:=by show [_]=_;rw[sub_one q.hs]
 have e2:(DT.leaf (stS 0 q.s.kids.length)).val (yA q.s q.s)=.agg (eS q.s):=sub_one q.hs;rw[e,e2]at h;exact h
end Ln
