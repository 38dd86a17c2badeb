/- A part of the proof. No condition. -/
import Derived.Test.YtecbfpngkfdkoaaGreatP9
import Derived.Test.YtecbfpngkfdkoaaGreatP11
import Derived.Test.YtecbfpngkfdkoaaGreatP6
set_option linter.unusedSimpArgs false
set_option linter.unusedVariables false
set_option linter.unusedSectionVars false
namespace Ln
open Go.Sx Go
structure FnR(C:bQ)(f:Nat)(p:fe):Prop where
 get:IP C f=some p
 off:∀l h nx,C.sum f l h nx=none
 mY:C.mY f=true
def YA(f:Nat):Bool:=Nat.beq f 75||Nat.beq f 67||Nat.beq f 63
structure Std(C:bQ)(X:Kn):Prop where
 orc:C.orc=[]
 raw:∀f,C.raw f=YA f
 ok:X.Ok
 zG:Fn C iK uN
 nn:FnR C dI jH
 IN:Fn C mV Ff
 Bs:Fn C jw xb
 N5:Fn C sR Md
 GO:Fn C jk cmp_isNaN_int
 DN:Fn C ic zK
 Ka:Fn C lR HU
 C0:Fn C jX zk
 I5:FnR C mU Fp
 zN:Fn C qP uY
 GP:Fn C lH B9
 I6:Fn C nB Fq
 IT:Fn C ke Fi
 NR:Fn C kX Ma
 MR:Fn C si LK
 BX:Fn C jF A8
 Dg:Fn C fW zw
 DO:Fn C fY zL
 zO:Fn C iF yB
 Bt:Fn C fD xc
 DP:Fn C fX zM
 rm:Fn C c9 lZ
 ru:Fn C eW l7
 tM:Fn C fS pK
 tO:Fn C fT pN
 jJ:Fn C cJ kW
 sX:Fn C fC nC
 wq:Fn C dG qQ
 IQ:Fn C da Fg
 CJ:Fn C jW y7
 GM:Fn C lI Cc
 N6:Fn C sS Mf
 I7:Fn C kg Fv
 N4:Fn C sT Mg
 Qi:Fn C rh Pa
 IM:Fn C j7 Fe
 K7:Fn C pT I1
 N7:Fn C sU Mh
 I8:Fn C nD Fw
 E7:Fn C kM E8
 GQ:Fn C gE qf
 I9:Fn C nG Fx
 GR:Fn C lJ Cd
 Vk:Fn C lf U9
 IS:Fn C ny Fh
 N8:Fn C kH Mi
 Ck:Fn C jD Bq
 Bu:Fn C jx xd
 Ja:Fn C iG Fy
 Gl:Fn C lF B0
 I0:Fn C iH Fo
 GU:FnR C gF Ce
 Gi:Fn C lB BY
 Q6:Fn C js PM
 QP:Fn C nh Po
 N9:Fn C sV Mk
 IU:Fn C iD Fj
 iL:Fn C cd fE
 fF:Fn C bz dv
 s_InitP:∀i,i<3→∀h nx,C.sum FC [X.m,ft i,iU] h nx=some (.tuple [.agg (eS (cX i)),I 0],h,nx)
 s_CanP:∀c s aZZ,iz c.yr s→aZZ.length=c.ar→∀h nx,C.sum IK [X.m,ft c.yr,.str c.name.1 c.name.2,.agg (eS s),aL aZZ,iU] h nx=some (.tuple [.bool (X.TB c s aZZ),I (X.TC c s aZZ)],h,nx)
 s_HoldsP:∀c s aZZ r,iz c.yr s→aZZ.length=c.ar→∀h nx,C.sum B6 [X.m,ft c.yr,.str c.name.1 c.name.2,.agg (eS s),aL aZZ,.agg (eU r),iU] h nx=some (.tuple [.bool (X.ui c s aZZ r),I (X.uj c s aZZ r)],h,nx)
 s_NextP:∀c s aZZ r,iz c.yr s→aZZ.length=c.ar→∀h nx,C.sum Fb [X.m,ft c.yr,.str c.name.1 c.name.2,.agg (eS s),aL aZZ,.agg (eU r),iU] h nx=some (.tuple [.agg (eS (X.vY c s aZZ r)),I (X.y9 c s aZZ r)],h,nx)
 s_InitR:∀i,i<3→∀h nx,C.sum FD [X.m,ft i,iU] h nx=some (.tuple [.agg (eS (cX i)),I 0],h,nx)
 s_CanR:∀c s aZZ,iz c.yr s→aZZ.length=c.ar→∀h nx,C.sum IZ [X.m,ft c.yr,.str c.name.1 c.name.2,.agg (eS s),aL aZZ,iU] h nx=some (.tuple [.bool (X.TB c s aZZ),I (X.TC c s aZZ)],h,nx)
 s_HoldsR:∀c s aZZ r,iz c.yr s→aZZ.length=c.ar→∀h nx,C.sum B8 [X.m,ft c.yr,.str c.name.1 c.name.2,.agg (eS s),aL aZZ,.agg (eU r),iU] h nx=some (.tuple [.bool (X.ui c s aZZ r),I (X.uj c s aZZ r)],h,nx)
 s_NextR:∀c s aZZ r,iz c.yr s→aZZ.length=c.ar→∀h nx,C.sum Fl [X.m,ft c.yr,.str c.name.1 c.name.2,.agg (eS s),aL aZZ,.agg (eU r),iU] h nx=some (.tuple [.agg (eS (X.vY c s aZZ r)),I (X.y9 c s aZZ r)],h,nx)
 s_parser_Decl:∀i,i<3→∀h nx,C.sum jI [X.m,I 4,ft i] h nx=some (.tuple [.agg (X.dec i),.bool true],h,nx)
 s_ref09_Decl:∀i,i<3→∀h nx,C.sum gU [X.m,I 4,ft i] h nx=some (.tuple [.agg (X.dec i),.bool true],h,nx)
 s_values_Valid:∀u,∀h nx,C.sum dX [.agg (eU u)] h nx=some (I (if pV u=true then 0 else 1),h,nx)
 s_values_Compare:∀s t:St,s.kids.length≤3→t.kids.length≤3→∀h nx,C.sum jY [.agg (eS s),.agg (eS t)] h nx=some (I (jA s t),h,nx)
 s_ref10_Valid:∀u,∀h nx,C.sum vR [.agg (eU u)] h nx=some (I (if pV u=true then 0 else 1),h,nx)
 s_ref10_Compare:∀s t:St,s.kids.length≤3→t.kids.length≤3→∀h nx,C.sum xf [.agg (eS s),.agg (eS t)] h nx=some (I (jA s t),h,nx)
 s_Equal:∀s t:St,s.kids.length≤3→t.kids.length≤3→∀h nx,C.sum Cl [.agg (eS s),.agg (eS t)] h nx=some (.bool (decide (s=t)),h,nx)
 s_Clone:∀s:St,s.kids.length≤3→∀h nx,C.sum gh [.agg (eS s)] h nx=some (.agg (eS s),h,nx)
 s_Module:∀h nx,C.sum zP [] h nx=some (X.m,h,nx)
 s_lives:∀h nx,C.sum Cm [] h nx=some (.bool true,h,nx)
theorem Std.rw{C:bQ}{X:Kn}(S:Std C X){f:Nat}(h:YA f=true):C.raw f=true:=by rw[S.raw,h]
theorem Std.nr{C:bQ}{X:Kn}(S:Std C X){f:Nat}(h:YA f=false):C.raw f=false:=by rw[S.raw,h]
theorem aG.known{C:bQ}{f:Nat}{l:List AV}{h:T ah}{nx:Key}{v:AV}{R:Out→T ah→Key→Prop}(hs:C.sum f l h nx=some (v,h,nx))(hR:R (.ret v) h nx):aG C f l h nx R:=.inl ⟨v,h,nx,hs,hR⟩
theorem bq{a b:Int}(h:a≠b):(a==b)=false:=by simpa using h
theorem bt{a b:Int}(h:a=b):(a==b)=true:=by simpa using h
variable{C:bQ}{X:Kn}(S:Std C X)
include S
theorem atp(u:U):YO C sU [.agg (eU u)] (·=.ret (.bool (zU u))):=by
 intro h nx;obtain⟨k,n⟩:=u;have s1:=kTSu nx;refine S.N7.call ?_;simp[Mh];simp[Lf,eU];by_cases h1:k=0
 ·subst h1;by_cases h2:n=0
  ·subst h2;simp[vT,zU];exact E0 _ _ _
  ·simp[vT,bq h2,zU,h2];exact E0 _ _ _
 ·simp[vT,bq h1,zU,h1];exact E0 _ _ _
end Ln
namespace Ln
open Go.Sx Go
variable{C:bQ}{X:Kn}(S:Std C X)
include S
theorem aav{x:Ev}{R:Out→T ah→Key→Prop}{tm:T AV}{h:T ah}{nx nx0:Key}(hlen:x.args.length≤1000)(f1:ae (K 1) tm=some (.ptr nx0 0))(hb:ae nx0 h=some (.cells (eE x) .fix))
  (hR:R (.ret (I (if (x.args.all pV&&pV x.res)=true then 0 else 1))) h nx) :
  gn C (.seq (.seq (.ops lM) (.block 0 (.loop lN))) (.seq (.ops ir) .ret)) (bZ [.tmp (K 2)] R) tm h nx:=by
 have rv:C.raw vR=false:=S.nr (by decide);obtain⟨kind,client,name,args,res⟩:=x;simp;simp[lM];have fin:∀tm:T AV,ae (K 1) tm=some (.ptr nx0 0)→args.all pV=true→gn C (.seq (.ops ir) .ret) (bZ [.tmp (K 2)] R) tm h nx:=by intro tm g1 ha;simp;simp[ir,g1,hb,eE,rv];refine aG.known (S.s_ref10_Valid res _ _) ?_;simp;simpa[ha]using hR
 refine W.dy (n:=args.length) (fun m ay h' nx'=>∃j:Nat,m=args.length-j∧j≤args.length∧ae (K 1) ay=some (.ptr nx0 0)∧ae (K 4) ay=some (I j)∧h'=h∧nx'=nx∧(args.take j).all pV=true) ?_ ?_
 ·exact⟨0,by simp,by omega,by simp[f1],by simp,rfl,rfl,by simp⟩
 ·rintro m ef h1 bS ⟨j,rfl,hj,g1,g4,rfl,rfl,ha⟩;refine W.of ?_;simp[lN];cases args with
  |nil=>
   simp[xp,g1,g4,hb,eE,aL];have:j=0:=by simpa using hj
   subst this;simp;exact fin _ (by simp[g1]) (by simp)
  |cons a t=>
   simp[xp,g1,g4,hb,eE,aL];have amP:t.length+1≤1000:=by simpa using hlen
   refine⟨fun cD=>?_,fun Wl=>?_⟩
   ·have bW:j<(a ::t).length:=by simp;omega
    have aKz:j<t.length+1:=by simpa using bW
    have hr:=qY.rows (a ::t);have ec:=qY.at bW;simp at hr;have h4:4≤(ag eU (a ::t)).length-j*4:=by omega
    simp[Eh,g1,g4,hb,eE,aL,ec,rv,aKz,h4];have hz:aM 9999 (.agg (eU (a ::t)[j])) h1=(.agg (eU (a ::t)[j]),h1):=by simp[eU]
    have he:List.take 4 (eU (a ::t)[j])=eU (a ::t)[j]:=rfl;have hl4:(eU (a ::t)[j]).length=4:=rfl;simp[he,hl4,hz];refine aG.known (S.s_ref10_Valid _ _ _) ?_;cases ho:pV (a ::t)[j]with
    |false=>
     simp[u9,Ei];have CX:(a ::t).all pV=false:=by rw[List.all_eq_false];exact⟨_,OA bW,by simp[ho]⟩
     simpa[CX]using hR
    |true=>
     simp[u9,Ej,g4];refine⟨t.length+1-(j+1),by omega,j+1,rfl,by omega,by simp[g1],?_,?_⟩
     ·simp;rw[aB (by omega) (by omega)]
     ·intro x hx;rw[zqu bW,List.mem_append,List.mem_singleton]at hx;rcases hx with hx|rfl
      ·exact wG.1 ha x hx
      ·exact ho
   ·have bW:j=(a ::t).length:=by simp at hj ⊢;omega
    subst bW;rw[List.take_length]at ha;exact fin _ (by simp[g1]) ha
omit S in
theorem amR{client:Int}{nl nc:Nat}{args:List U}{res:U}(hz:zU res=true)(hn:¬(nl=0∧nc=0))(hl:nl≤16)(ha:args.length≤16)(c0:0≤client)(c3:client≤3):tG ⟨0,client,(nl,nc),args,res⟩=args.all pV:=by
 rw[Bool.eq_iff_iff];unfold tG;rw[decide_eq_true_eq];constructor
 ·rintro⟨_,_,_,_,h|h|h⟩
  ·exact h.2.2.2.2.2
  ·exact absurd h.1 (by simp)
  ·exact absurd h.1 (by simp)
 ·intro h;exact⟨by simp,by simp,c0,c3,.inl ⟨rfl,hz,by simpa using hn,hl,ha,h⟩⟩
omit S in
theorem aum{client:Int}{res:U}(c0:0≤client)(c3:client≤3):tG ⟨1,client,(0,0),[],res⟩=pV res:=by
 rw[Bool.eq_iff_iff];unfold tG;rw[decide_eq_true_eq];constructor
 ·rintro⟨_,_,_,_,h|h|h⟩
  ·exact absurd h.1 (by simp)
  ·exact h.2.2.2
  ·exact absurd h.1 (by simp)
 ·intro h;exact⟨by simp,by simp,c0,c3,.inr (.inl ⟨rfl,rfl,rfl,h⟩)⟩
omit S in
theorem aif{res:U}:tG ⟨2,0,(0,0),[],res⟩=zU res:=by
 rw[Bool.eq_iff_iff];unfold tG;rw[decide_eq_true_eq];constructor
 ·rintro⟨_,_,_,_,h|h|h⟩
  ·exact absurd h.1 (by simp)
  ·exact absurd h.1 (by simp)
  ·exact h.2.2.2.2
 ·intro h;exact⟨by simp,by simp,by simp,by simp,.inr (.inr ⟨rfl,rfl,rfl,rfl,h⟩)⟩
omit S in
theorem amS{res:U}(hz:zU res=true):pV res=true:=by unfold zU at hz;unfold pV;simp at hz ⊢;exact .inl hz.1
theorem aaw{x:Ev}{R:Out→T ah→Key→Prop}{tm:T AV}{h:T ah}{nx nx0:Key}(hlen:x.args.length≤1000)(f1:ae (K 1) tm=some (.ptr nx0 0))(f3:ae (K 3) tm=some (.bool (zU x.res)))(hb:ae nx0 h=some (.cells (eE x) .fix))
  (hk:0≤x.kind∧x.kind≤2) (hc:0≤x.client∧x.client≤3) (hR:R (.ret (I (if tG x=true then 0 else 1))) h nx) :
  gn C (.seq (.seq (.ops cW) (.cond (.t (K 59)) (.seq (.ops eG) .ret) .skip))
   (.seq (.seq (.ops eH) (.cond (.t (K 79)) (.seq (.ops lO) .ret) .skip))
    (.seq (.seq (.ops lM) (.block 0 (.loop lN))) (.seq (.ops ir) .ret)))) (bZ [.tmp (K 2)] R) tm h nx:=by
 have fail:tG x=false→R (.ret (I 1)) h nx:=fun e=>by simpa[e]using hR
 have CU:∀tm:T AV,ae (K 1) tm=some (.ptr nx0 0)→(tG x=(x.args.all pV&&pV x.res))→gn C (.seq (.seq (.ops lM) (.block 0 (.loop lN))) (.seq (.ops ir) .ret)) (bZ [.tmp (K 2)] R) tm h nx:=
  fun tm g1 e=>aav S hlen g1 hb (by rw[←e];exact hR)
 obtain⟨kind,client,⟨nl,nc⟩,args,res⟩:=x;have amP:args.length≤1000:=hlen;have c0:0≤client:=hc.1;have c3:client≤3:=hc.2;have dQ:aL args=.nils∧args=[]∨∃l,aL args=.sl l args.length 4 .any∧args≠[]:=by
  cases args with
  |nil=>exact .inl ⟨rfl,rfl⟩
  |cons a t=>exact .inr ⟨_,rfl,by simp⟩
 have yG:kind=0∨kind=1∨kind=2:=by have:=hk.1;have:=hk.2;simp at *;omega
 rcases yG with rfl|rfl|rfl
 ·cases hz:zU res with
  |false=>rw[hz]at f3;simp[cW,f1,f3,hb,eE,eG];exact fail (by unfold tG;simp[hz])
  |true=>
   rw[hz]at f3;have vH:=amS hz;simp[cW,f1,f3,hb,eE];by_cases hn:nl=0∧nc=0
   ·simp[eH,f1,hb,eE,hn,lO];exact fail (by unfold tG;simp[hn])
   ·by_cases hl:16<nl
    ·have QN:(16:Int)<nl:=by omega
     simp[eH,f1,hb,eE,hn,hl,QN,lO];exact fail (by unfold tG;simp;omega)
    ·have QN:¬(16:Int)<nl:=by omega
     rcases dQ with⟨ea,rfl⟩|⟨l,ea,bX⟩
     ·simp[eH,f1,hb,eE,hn,hl,QN,ea];refine CU _ (by simp[f1]) ?_;rw[amR hz (by simpa using hn) (by omega) (by simp) c0 c3,vH,Bool.and_true]
     ·by_cases ha:16<args.length
      ·have ha2:(16:Int)<args.length:=by omega
       simp[eH,f1,hb,eE,hn,hl,QN,ea,ha,ha2,lO];exact fail (by unfold tG;simp;omega)
      ·have ha2:¬(16:Int)<args.length:=by omega
       simp[eH,f1,hb,eE,hn,hl,QN,ea,ha,ha2];refine CU _ (by simp[f1]) ?_;rw[amR hz (by simpa using hn) (by omega) (by omega) c0 c3,vH,Bool.and_true]
 ·by_cases hn:nl=0∧nc=0
  ·obtain⟨rfl,rfl⟩:=hn;rcases dQ with⟨ea,rfl⟩|⟨l,ea,bX⟩
   ·simp[cW,f1,f3,hb,eE,ea];simp[eH,f1,hb,eE];exact CU _ (by simp[f1]) (by rw[aum c0 c3];simp)
   ·simp[cW,f1,f3,hb,eE,ea,List.length_pos_iff.2 bX,eG];exact fail (by unfold tG;simp[bX])
  ·simp[cW,f1,f3,hb,eE,hn,eG];exact fail (by unfold tG;simp;intros;omega)
 ·by_cases Pm:client=0
  ·subst Pm;by_cases hn:nl=0∧nc=0
   ·obtain⟨rfl,rfl⟩:=hn;rcases dQ with⟨ea,rfl⟩|⟨l,ea,bX⟩
    ·cases hz:zU res with
     |false=>rw[hz]at f3;simp[cW,f1,f3,hb,eE,ea,eG];exact fail (by rw[aif,hz])
     |true=>rw[hz]at f3;simp[cW,f1,f3,hb,eE,ea];simp[eH,f1,hb,eE];exact CU _ (by simp[f1]) (by rw[aif,hz,amS hz];simp)
    ·simp[cW,f1,f3,hb,eE,ea,List.length_pos_iff.2 bX,eG];exact fail (by unfold tG;simp[bX])
   ·simp[cW,f1,f3,hb,eE,hn,eG];exact fail (by unfold tG;simp;intros;omega)
  ·simp[cW,f1,f3,hb,eE,bq Pm,eG];exact fail (by unfold tG;simp[Pm])
omit S in
theorem AT{x:Ev}(h:¬(0≤x.kind∧x.kind≤2∧0≤x.client∧x.client≤3)):tG x=false:=by unfold tG;rw[decide_eq_false_iff_not];rintro⟨a,b,c,d,_⟩;exact h ⟨a,b,c,d⟩
theorem ahr(x:Ev)(hlen:x.args.length≤1000):YO C nD [.agg (eE x)] (·=.ret (I (if tG x=true then 0 else 1))):=by
 intro h nx;have s1:=kTSu nx;have rz:C.raw sU=false:=S.nr (by decide);refine S.I8.call ?_;simp[Fw];simp[Hc];by_cases hk:x.kind<0
 ·simp[jm,eE,hk,lP,AT (x:=x) (by omega)];exact E0 _ _ _
 by_cases RY:2<x.kind
 ·simp[jm,eE,hk,RY,lP,AT (x:=x) (by omega)];exact E0 _ _ _
 by_cases hc:x.client<0
 ·simp[jm,eE,hk,RY,hc,lP,AT (x:=x) (by omega)];exact E0 _ _ _
 by_cases hc2:3<x.client
 ·simp[jm,eE,hk,RY,hc,hc2,lP,AT (x:=x) (by omega)];exact E0 _ _ _
 simp[jm,eE,hk,RY,hc,hc2];simp[Hd,rz];refine(atp S x.res _ _).mono ?_;rintro o h1 bS ⟨rfl,e1⟩;simp;have hb1:ae nx h1=some (.cells (eE x) .fix):=by rw[e1.g nx (by omega)];simp[eE]
 have key:=fun aJ g1 g3=>aaw S (x:=x) (nx0:=nx) (tm:=aJ) (R:=fun o h' nx'=>o=.ret (I (if tG x=true then 0 else 1))∧Ext h nx h' nx') hlen g1 g3 hb1 (by omega) (by omega) ⟨rfl,(E0 h nx _).trans e1⟩;simp at key;refine key _ ?_ ?_<;>simp
end Ln
namespace Ln
open Go.Sx Go
structure Wc(l:List Ev):Prop where
 len:l.length≤16
 args:∀x∈l,x.args.length≤1000
variable{C:bQ}{X:Kn}(S:Std C X)
include S
theorem asV{ev:AV}{l:List Ev}(hv:gI 8 eE ev l)(hl:l.length≤16)(c:Int)(a:Nat)(ha:a≤l.length):YO C sT [ev,I c,I a] (·=.ret (I (iM c (l.take a).reverse))):=by
 intro h nx;refine S.N4.call ?_;simp[Mg];simp[K1];simp[K3];rw[aB (by omega) (by omega)];refine W.dy (n:=a) (fun m ay h' nx'=>ae (K 0) ay=some ev∧ae (K 1) ay=some (I c)∧ae (K 7) ay=some (I ((m:Int)-1))∧m≤a∧h'=h∧nx'=nx∧iM c (l.take a).reverse=iM c (l.take m).reverse) ?_ ?_
 ·exact⟨by simp,by simp,by simp,by omega,rfl,rfl,rfl⟩
 ·rintro m ef h1 bS ⟨g0,g1,g7,hm,rfl,rfl,he⟩;refine W.of ?_;simp[K4];cases m with
  |zero=>simp[Cg,g7];simp[K5];exact⟨by rw[he];simp[iM],Ext.refl _ _⟩
  |succ m=>
   have hml:m<l.length:=by omega
   have hlen:=cn.rows l;have h8:8≤l.length*8-m*8:=by omega
   have ec:=cn.at hml;rw[zqu hml,List.reverse_append,List.reverse_singleton,List.singleton_append]at he;have LI:(l.take m).reverse.length=m:=by simp;omega
   rcases hv with⟨e,rfl⟩|e
   ·simp at hml
   have Wg:=g0;rw[e]at g0;have Qj:¬(m:Int)<0:=by omega
   have g7:ae (K 7) ef=some (I (m:Int)):=by simpa using g7
   simp[Cg,g7,Qj];generalize l[m]=x at he ec;obtain⟨kind,client,name,args,res⟩:=x;have GF:iM c (⟨kind,client,name,args,res⟩ ::(l.take m).reverse)=if kind=2∨kind=1∧client=c then -1 else if kind=0∧client=c then((l.take m).reverse.length:Int)else iM c (l.take m).reverse:=rfl
   rw[GF,LI]at he;by_cases k2:kind=2
   ·subst k2;simp[jK,g0,g1,g7,hml,hlen,h8,ec,eE];simp[Ch];exact⟨by rw[he];simp,Ext.refl _ _⟩
   by_cases k1:kind=1
   ·subst k1;by_cases hc:client=c
    ·subst hc;simp[jK,g0,g1,g7,hml,hlen,h8,ec,eE];simp[Ch];exact⟨by rw[he];simp,Ext.refl _ _⟩
    ·simp[jK,g0,g1,g7,hml,hlen,h8,ec,eE,bq hc];simp[qi,g0,g1,g7,hml,hlen,h8,ec,eE,bq hc];simp[vQ,g7];refine⟨m,by omega,Wg,g1,aB (by omega) (by omega),by omega,?_⟩;rw[he];simp[hc]
   by_cases k0:kind=0
   ·subst k0;by_cases hc:client=c
    ·subst hc;simp[jK,g0,g1,g7,hml,hlen,h8,ec,eE];simp[qi,g0,g1,g7,hml,hlen,h8,ec,eE];simp[K6,g7];exact⟨by rw[he];simp,Ext.refl _ _⟩
    ·simp[jK,g0,g1,g7,hml,hlen,h8,ec,eE,bq hc];simp[qi,g0,g1,g7,hml,hlen,h8,ec,eE,bq hc];simp[vQ,g7];refine⟨m,by omega,Wg,g1,aB (by omega) (by omega),by omega,?_⟩;rw[he];simp[hc]
   ·simp[jK,g0,g1,g7,hml,hlen,h8,ec,eE,bq k2,bq k1];simp[qi,g0,g1,g7,hml,hlen,h8,ec,eE,bq k0];simp[vQ,g7];refine⟨m,by omega,Wg,g1,aB (by omega) (by omega),by omega,?_⟩;rw[he];simp[k0,k1,k2]
end Ln
namespace Ln
open Go.Sx Go
def gp:Nat→Int
 |0=>0|1=>1|2=>20|_=>25
variable{C:bQ}{X:Kn}(S:Std C X)
include S
theorem ad1{l:List Ev}(hl:Wc l){R:Out→T ah→Key→Prop}{tm:T AV}{h:T ah}{nx:Key}(g0:ae (K 0) tm=some (.sl (ag eE l) l.length 8 .any))(g5:ae (K 5) tm=some (I 0))
  (hR:∀h' nx',Ext h nx h' nx'→R (.ret (I (gp (bu [] l)))) h' nx') :
  W C (.loop sZ) (aC 2 (aQ (gn C (.seq (.ops qE) .ret) (bZ [.tmp (K 2)] R)) (bZ [.tmp (K 2)] R))) tm h nx:=by
 have ajR:=hl.len;have rf:C.raw nD=false:=S.nr (by decide);have ro:C.raw sT=false:=S.nr (by decide);refine W.dy (n:=l.length) (fun m ay h' nx'=>∃j:Nat,m=l.length-j∧j≤l.length∧ae (K 0) ay=some (.sl (ag eE l) l.length 8 .any)∧ae (K 5) ay=some (I j)∧Ext h nx h' nx'∧bu [] l=bu (l.take j).reverse (l.drop j)) ?_ ?_
 ·exact⟨0,by simp,by omega,g0,by simpa using g5,Ext.refl _ _,rfl⟩
 ·rintro m ef h1 bS ⟨j,rfl,hj,g0,g5,e1,hv⟩;refine W.of ?_;simp[sZ];simp[xh,g0,g5];refine⟨fun cD=>?_,fun Wl=>?_⟩
  ·have bW:j<l.length:=by omega
   have hlen:=cn.rows l;have h8:8≤l.length*8-j*8:=by omega
   have ec:=cn.at bW;have hx:=hl.args _ (OA bW);have hz:aM 9999 (.agg (eE l[j])) h1=(.agg (eE l[j]),h1):=by have:=bT (n:=9998) (l:=eE l[j]) (h:=h1) (cn.r7 _);simp only[Yq];rw[this]
   have he:List.take 8 (eE l[j])=eE l[j]:=rfl;have hl8:(eE l[j]).length=8:=rfl;rw[zqt bW]at hv;simp[GV,g0,g5,bW,hlen,h8,ec,he,hl8,rf,hz];refine(ahr S l[j] hx _ _).mono ?_;rintro o h2 aN ⟨rfl,e2⟩;simp;have Wm:=e1.trans e2;generalize hxe:l[j]=x at *;cases vH:tG x with
   |false=>
    simp[xi,GW];have e0:bu [] l=1:=by rw[hv];unfold bu Cj;rw[vH];rfl
    have:=hR h2 aN Wm;rw[e0]at this;exact this
   |true=>
    simp[xi];have hzs:aM 9999 (AV.sl (ag eE l) l.length 8 .any) h2=(.sl (ag eE l) l.length 8 .any,h2):=Y2 _ _ _ _ _;simp[GX,g0,g5,bW,hlen,h8,ec,eE,ro,hzs];have mg:=asV S (ev:=.sl (ag eE l) l.length 8 .any) (.inr rfl) ajR x.client j hj;refine(mg h2 aN).mono ?_;rintro o h3 bY ⟨rfl,e3⟩;simp;have Vt:=Wm.trans e3;have hv2:bu (l.take j).reverse (x ::l.drop (j+1))=match Cj (l.take j).reverse x with|0=>bu (x ::(l.take j).reverse) (l.drop (j+1))|n=>n:=rfl
    have hb:Cj (l.take j).reverse x=if x.kind=0∧0≤iM x.client (l.take j).reverse then 2 else if x.kind=1∧iM x.client (l.take j).reverse<0 then 3 else 0:=by unfold Cj;rw[vH];rfl
    have HO:x ::(l.take j).reverse=(l.take (j+1)).reverse:=by rw[zqu bW,hxe];simp
    generalize iM x.client (l.take j).reverse=ob at *;have fin:∀n:Nat,Cj (l.take j).reverse x=n+1→gp (bu [] l)=gp (n+1):=fun n e=>by rw[hv,hv2,e];rfl
    have go:∀aJ:T AV,ae (K 0) aJ=some (.sl (ag eE l) l.length 8 .any)→ae (K 5) aJ=some (I j)→Cj (l.take j).reverse x=0→∃m,m<l.length-j∧∃j':Nat,m=l.length-j'∧j'≤l.length∧ae (K 0) aJ=some (.sl (ag eE l) l.length 8 .any)∧(j:Int)+1=(j':Int)∧Ext h nx h3 bY∧bu [] l=bu (l.take j').reverse (l.drop j'):=fun aJ q0 q5 e=>⟨l.length-(j+1),by omega,j+1,rfl,by omega,q0,by omega,Vt,by rw[hv,hv2,e];exact congrArg (fun p=>bu p _) HO⟩;by_cases k0:x.kind=0
    ·by_cases ho:ob<0
     ·simp[jl,g0,g5,bW,hlen,h8,ec,eE,k0,ho];simp[lK,g0,g5,bW,hlen,h8,ec,eE,k0,ho];simp[qF,g5];rw[aB (by omega) (by omega)];have:=go ef g0 g5 (by rw[hb,if_neg (by omega),if_neg (by omega)]);simpa[g0]using this
     ·simp[jl,g0,g5,bW,hlen,h8,ec,eE,k0,ho];simp[GY];have:=hR h3 bY Vt;rw[fin 1 (by rw[hb,if_pos ⟨k0,by omega⟩])]at this;simpa[gp]using this
    ·by_cases k1:x.kind=1
     ·by_cases ho:ob<0
      ·simp[jl,g0,g5,bW,hlen,h8,ec,eE,bq k0,ho];simp[lK,g0,g5,bW,hlen,h8,ec,eE,k1,ho];simp[GZ];have:=hR h3 bY Vt;rw[fin 2 (by rw[hb,if_neg (by omega),if_pos ⟨k1,by omega⟩])]at this;simpa[gp]using this
      ·simp[jl,g0,g5,bW,hlen,h8,ec,eE,bq k0,ho];simp[lK,g0,g5,bW,hlen,h8,ec,eE,k1,ho];simp[qF,g5];rw[aB (by omega) (by omega)];have:=go ef g0 g5 (by rw[hb,if_neg (by omega),if_neg (by omega)]);simpa[g0]using this
     ·simp[jl,g0,g5,bW,hlen,h8,ec,eE,bq k0];simp[lK,g0,g5,bW,hlen,h8,ec,eE,bq k1];simp[qF,g5];rw[aB (by omega) (by omega)];have:=go ef g0 g5 (by rw[hb,if_neg (by omega),if_neg (by omega)]);simpa[g0]using this
  ·have bW:j=l.length:=by omega
   subst bW;simp[qE];have:=hR h1 bS e1;rw[hv]at this;simpa[bu,gp]using this
theorem ajS{ev:AV}{l:List Ev}(hv:gI 8 eE ev l)(hl:Wc l):YO C pT [ev] (·=.ret (I (gp (bu [] l)))):=by
 intro h nx;have ajR:=hl.len;refine S.K7.call ?_;simp[I1];simp[Jg];simp[Jh];simp[Ji];rcases hv with⟨rfl,rfl⟩|rfl
 ·refine W.LB (W.of ?_);simp[zS];simp[zT];simp[zV];simp[zX];refine W.LB (W.of ?_);simp[sZ];simp[xh];simp[qE];exact⟨rfl,Ext.refl _ _⟩
 ·refine W.dy (n:=l.length) (fun m ay h' nx'=>∃j b:Nat,m=l.length-j∧j≤l.length∧b≤j∧ae (K 0) ay=some (.sl (ag eE l) l.length 8 .any)∧ae (K 4) ay=some (I j)∧ae (K 3) ay=some (I b)∧h'=h∧nx'=nx) ?_ ?_
  ·exact⟨0,0,by simp,by omega,by omega,by simp,by simp,by simp,rfl,rfl⟩
  ·rintro m ef h1 bS ⟨j,b,rfl,hj,hb,g0,g4,g3,rfl,rfl⟩;refine W.of ?_;simp[zS];simp[zT,g0,g4];refine⟨fun cD=>?_,fun Wl=>?_⟩
   ·have bW:j<l.length:=by omega
    have hlen:=cn.rows l;have h8:8≤l.length*8-j*8:=by omega
    have ec:=cn.at bW;by_cases k0:l[j].kind=0
    ·simp[zY,g0,g4,bW,hlen,h8,ec,eE,k0];simp[Jj,g3];simp[zZ,g4];rw[aB (by omega) (by omega),aB (by omega) (by omega)];exact⟨l.length-(j+1),by omega,j+1,rfl,by omega,b+1,by omega,g0,by omega,by omega⟩
    ·simp[zY,g0,g4,bW,hlen,h8,ec,eE,bq k0];simp[zZ,g4];rw[aB (by omega) (by omega)];exact⟨l.length-(j+1),by omega,j+1,rfl,by omega,b,by omega,g0,by omega,g3⟩
   ·have ax1:¬(64:Int)<l.length:=by omega
    have ax2:¬(16:Int)<b:=by omega
    simp[zV,g0,g3,ax1,ax2];simp[zX];have key:=fun aJ q0 q5=>ad1 S hl (tm:=aJ) (h:=h1) (nx:=bS) (R:=fun o h' nx'=>o=.ret (I (gp (bu [] l)))∧Ext h1 bS h' nx') q0 q5 (fun h' nx' e=>⟨rfl,e⟩);refine key _ ?_ ?_<;>simp[g0]
end Ln
namespace Ln
open Go.Sx Go
theorem QU{o:Op}(h:¬(o.e<0∧o.lost<0)):∀(l:List Ev) (i:Nat),follow o i l=o
 | [],i=>rfl
 |x ::l,i=>by show follow (pQ i x o) (i+1) l=o;rw[abP h];exact QU h l (i+1)
theorem yO:∀(l:List Ev) (i:Nat),(cT i l).length≤l.length
 | [],i=>by simp[cT]
 |x ::l,i=>by have:=yO l (i+1);simp only[cT,Ko,zqi];split<;>simp<;>omega
def RIn(l:List Ev)(o:Op)(i:Nat)(c5:AV)(b:Key)(h:T ah)(nx:Key)(m:Nat)(ay:T AV)(h':T ah)(nx':Key):Prop:=∃(j:Nat) (o':Op),m=l.length-j∧i+1≤j∧j≤l.length∧o'.client=o.client∧ae (K 0) ay=some (.sl (ag eE l) l.length 8 .any)∧ae (K 5) ay=some c5∧ae (K 6) ay=some (I i)∧ae (K 7) ay=some (.ptr b 0)∧ae (K 8) ay=some (I j)∧ae b h'=some (.cells (eO o') .fix)∧follow o (i+1) (l.drop (i+1))=follow o' j (l.drop j)∧(∀k:Key,k≠b→ae k h'=ae k h)∧nx'=nx
variable{C:bQ}{X:Kn}(S:Std C X)
include S
omit S in
theorem arI{l:List Ev}(hl:Wc l){Q:dh}{tm:T AV}{h:T ah}{nx b:Key}{o:Op}{i:Nat}{c5:AV}(hi:i<l.length)(hb:b.toNat<nx.toNat)(ho:o.e<0∧o.lost<0)
  (g0:ae (K 0) tm=some (.sl (ag eE l) l.length 8 .any)) (g5:ae (K 5) tm=some c5) (g6:ae (K 6) tm=some (I i)) (g7:ae (K 7) tm=some (.ptr b 0)) (g8:ae (K 8) tm=some (I ((i:Int)+1))) (gb:ae b h=some (.cells (eO o) .fix))
  (hQ:∀ay h',ae (K 0) ay=some (.sl (ag eE l) l.length 8 .any)→ae (K 5) ay=some c5→ae (K 6) ay=some (I i)→ae (K 7) ay=some (.ptr b 0)→ae b h'=some (.cells (eO (follow o (i+1) (l.drop (i+1)))) .fix)→(∀k:Key,k≠b→ae k h'=ae k h)→Q .norm ay h' nx) :
  W C (.loop Fa) (aC 2 Q) tm h nx:=by
 have ajR:=hl.len;refine W.dy (n:=l.length-(i+1)) (RIn l o i c5 b h nx) ?_ ?_
 ·exact⟨i+1,o,rfl,by omega,by omega,rfl,g0,g5,g6,g7,by simpa using g8,gb,rfl,fun _ _=>rfl,rfl⟩
 ·rintro m ef h1 bS ⟨j,o',rfl,hj1,hj,hc,g0,g5,g6,g7,g8,gb,hf,hk,rfl⟩;refine W.of ?_;simp[Fa];by_cases cD:j<l.length
  ·have awt:(j:Int)<l.length:=by omega
   by_cases hoo:o'.e<0∧o'.lost<0
   ·simp[pY,g0,g7,g8,gb,eO,cD,awt,hoo.1,hoo.2];have hlen:=cn.rows l;have h8:8≤l.length*8-j*8:=by omega
    have ec:=cn.at cD;rw[zqt cD]at hf;have hu:follow o' j (l[j] ::l.drop (j+1))=follow (pQ j l[j] o') (j+1) (l.drop (j+1)):=rfl;rw[hu]at hf;generalize l[j]=x at hf ec hu;have hu2:pQ j x o'=if x.kind=2 then {o' with lost:=j}else if x.kind=1∧x.client=o'.client then {o' with e:=j,res:=x.res}else o':=by unfold pQ;rw[if_pos hoo]
    by_cases k2:x.kind=2
    ·rw[if_pos k2]at hu2;simp[vK,g0,g8,cD,hlen,h8,ec,eE,k2];simp[KI,g7,g8,gb,eO];simp[pZ,g0,g7,g8,gb,eO,cD,hlen,h8,ec,eE,k2];simp[qa,g8];rw[aB (by omega) (by omega)];refine⟨l.length-(j+1),by omega,j+1,{o' with lost:=j},rfl,by omega,by omega,hc,by simp[g0],by simp[g5],by simp[g6],by simp[g7],by simp,by simp[eO],by rw[hf,hu2],fun k RY=>?_,rfl⟩;rw[aU _ _ _ _ RY];exact hk k RY
    ·rw[if_neg k2]at hu2;by_cases k1:x.kind=1∧x.client=o'.client
     ·rw[if_pos k1]at hu2;simp[vK,g0,g8,cD,hlen,h8,ec,eE,k1.1];simp[pZ,g0,g7,g8,gb,eO,cD,hlen,h8,ec,eE,k1.1,k1.2];simp[KJ,g7,g8,gb,eO];simp[KL,g0,g7,g8,gb,eO,cD,hlen,h8,ec,eE];simp[qa,g8];rw[aB (by omega) (by omega)];refine⟨l.length-(j+1),by omega,j+1,{o' with e:=j,res:=x.res},rfl,by omega,by omega,hc,by simp[g0],by simp[g5],by simp[g6],by simp[g7],by simp,by simp[eO],by rw[hf,hu2],fun k RY=>?_,rfl⟩;rw[aU _ _ _ _ RY];exact hk k RY
     ·rw[if_neg k1]at hu2;simp[vK,g0,g8,cD,hlen,h8,ec,eE,bq k2];have fin:∀aJ:T AV,ae (K 0) aJ=some (.sl (ag eE l) l.length 8 .any)→ae (K 5) aJ=some c5→ae (K 6) aJ=some (I i)→ae (K 7) aJ=some (.ptr b 0)→ae (K 8) aJ=some (I ((j+1:Nat):Int))→∃m,m<l.length-j∧RIn l o i c5 b h bS m aJ h1 bS:=fun aJ q0 q5 q6 q7 q8=>
       ⟨l.length-(j+1),by omega,j+1,o',rfl,by omega,by omega,hc,q0,q5,q6,q7,q8,gb,by rw[hf,hu2],hk,rfl⟩
      by_cases k1':x.kind=1
      ·have bX:x.client≠o'.client:=fun e=>k1 ⟨k1',e⟩;simp[pZ,g0,g7,g8,gb,eO,cD,hlen,h8,ec,eE,k1',bq bX];simp[qa,g8];rw[aB (by omega) (by omega)];refine fin _ ?_ ?_ ?_ ?_ ?_<;>simp[g0,g5,g6,g7]
      ·simp[pZ,g0,g7,g8,gb,eO,cD,hlen,h8,ec,eE,bq k1'];simp[qa,g8];rw[aB (by omega) (by omega)];refine fin _ ?_ ?_ ?_ ?_ ?_<;>simp[g0,g5,g6,g7]
   ·have fin:∀ay:T AV,ae (K 0) ay=some (.sl (ag eE l) l.length 8 .any)→ae (K 5) ay=some c5→ae (K 6) ay=some (I i)→ae (K 7) ay=some (.ptr b 0)→Q .norm ay h1 bS:=fun ay q0 q5 q6 q7=>hQ ay h1 q0 q5 q6 q7 (by rw[hf,QU hoo];exact gb) hk;by_cases he:o'.e<0
    ·have Ap:¬o'.lost<0:=fun q=>hoo ⟨he,q⟩;simp[pY,g0,g7,g8,gb,eO,cD,awt,he,Ap];exact fin _ (by simp[g0]) (by simp[g5]) (by simp[g6]) (by simp[g7])
    ·simp[pY,g0,g7,g8,gb,eO,cD,awt,he];exact fin _ (by simp[g0]) (by simp[g5]) (by simp[g6]) (by simp[g7])
  ·have xM:j=l.length:=by omega
   subst xM;simp[pY,g0,g7,g8,gb,eO];refine hQ _ h1 (by simp[g0]) (by simp[g5]) (by simp[g6]) (by simp[g7]) ?_ hk;rw[hf];simpa[follow]using gb
end Ln
namespace Ln
open Go.Sx Go
def RQ(l:List Ev)(h:T ah)(nx:Key)(m:Nat)(ay:T AV)(h':T ah)(nx':Key):Prop:=∃(i:Nat) (c:AV) (os:List Op),m=l.length-i∧i≤l.length∧os.length≤i∧ae (K 0) ay=some (.sl (ag eE l) l.length 8 .any)∧ae (K 5) ay=some c∧ae (K 6) ay=some (I i)∧App c (ag eO os) os.length 10 h' nx' nx∧cT 0 l=os++cT i (l.drop i)∧Ext h nx h' nx'
def arb(l:List Ev)(o:Out):Prop:=∃c,o=.ret (.tuple [c,I (gp (bu [] l))])∧gI 10 eO c (if bu [] l=0 then cT 0 l else [])
variable{C:bQ}{X:Kn}(S:Std C X)
include S
omit S in
theorem arH{c:AV}{l:List AV}{len sz:Nat}{h h':T ah}{nx nx' n0 b:Key}(ha:App c l len sz h nx n0)(hn:nx.toNat≤nx'.toNat)(hb:nx.toNat≤b.toNat)(hk:∀k:Key,k≠b→ae k h'=ae k h):App c l len sz h' nx' n0:=
 ha.cF hn fun k Qh _=>hk k (fun e=>by subst e;omega)
theorem ah8{ev:AV}{l:List Ev}(hv:gI 8 eE ev l)(hl:Wc l):YO C rh [ev] (arb l):=by
 intro h nx;have ajR:=hl.len;have rv:C.raw pT=false:=S.nr (by decide);have hz:aM 9999 ev h=(ev,h):=hv.r7 _ _;refine S.Qi.call ?_;simp[Pa];simp[M4];simp[M5,rv,hz];refine(ajS S hv hl _ _).mono ?_;rintro o h1 bS ⟨rfl,e1⟩;simp;by_cases Mw:bu [] l=0
 ·simp[ET,Mw,gp];simp[M6];simp[M7];have fin:∀(aJ:T AV) (c:AV) (h2:T ah) (aN:Key),ae (K 5) aJ=some c→App c (ag eO (cT 0 l)) (cT 0 l).length 10 h2 aN bS→Ext h1 bS h2 aN→gn C (.seq (.ops BM) .ret) (bZ [.tmp (K 2),.tmp (K 3)] fun o h' nx'=>arb l o∧Ext h nx h' nx') aJ h2 aN:=by
   intro aJ c h2 aN q5 A x;simp[BM,q5];obtain⟨f1,f2⟩:=A.xN fP 9998;refine⟨⟨_,by rw[Mw];rfl,?_⟩,?_⟩
   ·rw[if_pos Mw];exact f1
   ·have x2:=e1.trans x;exact⟨x2.n,fun b hb=>by rw[f2 b (by have:=e1.n;omega)];exact x2.g b hb⟩
  simp only[bM,cz]at fin;rcases hv with⟨rfl,rfl⟩|rfl
  ·refine W.LB (W.of ?_);simp[EU];simp[EV];refine fin _ .nils h1 bS ?_ (App.nil 10) (Ext.refl _ _);simp
  ·refine W.dy (n:=l.length) (RQ l h1 bS) ?_ ?_
   ·exact⟨0,.nils,[],by simp,by omega,by simp,by simp,by simp,by simp,App.nil 10,by simp,Ext.refl _ _⟩
   ·rintro m ef h2 aN ⟨i,c,os,rfl,hi,hol,g0,g5,g6,A,mg,xe⟩;refine W.of ?_;simp[EU];simp[EV,g0,g6];refine⟨fun cD=>?_,fun Wl=>?_⟩
    ·have Jx:i<l.length:=by omega
     have hlen:=cn.rows l;have h8:8≤l.length*8-i*8:=by omega
     have ec:=cn.at Jx;rw[zqt Jx]at mg;have ho:cT i (l[i] ::l.drop (i+1))=(if l[i].kind=0 then [follow (CW i l[i]) (i+1) (l.drop (i+1))]else [])++cT (i+1) (l.drop (i+1)):=rfl;rw[ho]at mg;clear ho;generalize l[i]=x at mg ec;by_cases k0:x.kind=0
     ·rw[if_pos k0]at mg;have s2:=kTSu aN;have ac1:=(bH x.args).1;have ac2:=(bH x.args).2;simp[EW,g0,g6,Jx,hlen,h8,ec,eE,k0];simp[M8,g0,g6,Jx,hlen,h8,ec,eE,ac1,ac2];simp[M9,g6];rw[aB (by omega) (by omega)];refine arI (o:=CW i x) (i:=i) (b:=aN) hl Jx (by omega) (by simp[CW]) (c5:=c) ?_ ?_ ?_ ?_ ?_ ?_ ?_
      ·simp[g0]
      ·simp[g5]
      ·simp[g6]
      ·simp
      ·simp
      ·simp[eO,CW]
      ·intro Pb h3 q0 q5 q6 q7 qb qk;have A2:=(A.ext (E0 h2 aN (.cells (eO (CW i x)) .fix)));have A3:App c (ag eO os) os.length 10 h3 aN.succ bS:=arH A (by omega) (fg _) (fun k hk=>by rw[qk k hk,aU _ _ _ _ hk]);generalize follow (CW i x) (i+1) (l.drop (i+1))=y at *;have A4:=A3.ext (E0 h3 aN.succ (.cells (eO y) .fix));obtain⟨c5,h5,r9,g,A5,m1,m2,_⟩:=A4.As fP (by have:=xe.n;have:=kTSu aN.succ;omega) (by omega) y;have yc1:=(bH y.args).1;have yc2:=(bH y.args).2;have ey:eO y=[I y.client,I y.b,I y.e,I y.lost,.str y.name.1 y.name.2,aL y.args,I y.res.k,I y.res.n,.str 0 0,.nils]:=rfl;rw[ey]at g qb;have yf:∀n H,aM n (aL y.args) H=(aL y.args,H):=dM _;simp[-appendTo,Kq,q5,q7,qb,yc1,yc2,yf,g];simp[BN,q6];rw[aB (by omega) (by omega)];refine⟨l.length-(i+1),by omega,i+1,c5,os ++ [y],rfl,by omega,by simp;omega,by simp[q0],by simp,by simp,A5,by rw[mg];simp,?_⟩;have x3:=xe.n;have:=kTSu aN.succ;exact⟨by omega,fun b hb=>by rw[m2 b hb,ax (by omega),qk b (fun e=>by subst e;omega),ax (by omega)];exact xe.g b hb⟩
     ·rw[if_neg k0]at mg;simp[EW,g0,g6,Jx,hlen,h8,ec,eE,bq k0];simp[BN,g6];rw[aB (by omega) (by omega)];exact⟨l.length-(i+1),by omega,i+1,c,os,rfl,by omega,by omega,by simp[g0],by simp[g5],by simp,A,by simpa using mg,xe⟩
    ·have:i=l.length:=by omega
     subst this;rw[List.drop_length]at mg;have aFl:cT 0 l=os:=by simpa[cT]using mg
     rw[←aFl]at A;exact fin _ c h2 aN (by simp[g5]) A xe
 ·have bX:gp (bu [] l)≠0:=by unfold gp;split<;>first|exact absurd ‹_› Mw|decide
  simp[ET,bq bX];simp[Na];exact⟨⟨_,rfl,.inl ⟨rfl,by rw[if_neg Mw]⟩⟩,e1⟩
end Ln
namespace Ln
open Go.Sx Go
theorem amO(u:U):jA ⟨u.k,u.n,[]⟩ ⟨0,0,[]⟩=0↔zU u=true:=by rw[vE];unfold zU;rw[decide_eq_true_eq];simp
variable{C:bQ}{X:Kn}(S:Std C X)
include S
theorem Zy{x:Ev}{R:Out→T ah→Key→Prop}{Q:dh}{tm:T AV}{h:T ah}{nx nx0:Key}(hlen:x.args.length≤1000)(h0:nx0.toNat<nx.toNat)(f1:ae (K 1) tm=some (.ptr nx0 0))(hb:ae nx0 h=some (.cells (eE x) .fix))
  (HE:∀h' nx',x.args.all pV=false→Ext h nx h' nx'→R (.ret (I 1)) h' nx') (fy:∀ay h' nx',ae (K 1) ay=some (.ptr nx0 0)→x.args.all pV=true→Ext h nx h' nx'→Q .norm ay h' nx')
  (hq:∀ay h' nx',bZ [.tmp (K 2)] R .ret ay h' nx'→Q .ret ay h' nx') :
  gn C (.seq (.ops gw) (.block 0 (.loop gx))) Q tm h nx:=by
 have rv:C.raw dX=false:=S.nr (by decide);obtain⟨kind,client,name,args,res⟩:=x;have dQ:aL args=.nils∧args=[]∨aL args=.sl (ag eU args) args.length 4 .any∧args≠[]:=by
  cases args with
  |nil=>exact .inl ⟨rfl,rfl⟩
  |cons a t=>exact .inr ⟨rfl,by simp⟩
 simp;have amP:args.length≤1000:=hlen;rcases dQ with⟨e,rfl⟩|⟨e,bX⟩
 ·simp[gw,f1,hb,eE,e];refine W.LB (W.of ?_);simp[gx];simp[sr];refine fy _ _ _ ?_ rfl (Ext.refl _ _);simp[f1]
 ·simp[gw,f1,hb,eE,e];refine W.dy (n:=args.length) (fun m ay h' nx'=>∃j:Nat,m=args.length-j∧j≤args.length∧ae (K 1) ay=some (.ptr nx0 0)∧ae (K 53) ay=some (.sl (ag eU args) args.length 4 .any)∧ae (K 54) ay=some (I args.length)∧ae (K 55) ay=some (I j)∧Ext h nx h' nx'∧(args.take j).all pV=true) ?_ ?_
  ·exact⟨0,by simp,by omega,by simp[f1],by simp,by simp,by simp,Ext.refl _ _,by simp⟩
  ·rintro m ef h1 bS ⟨j,rfl,hj,g1,g53,g54,g55,e1,ha⟩;refine W.of ?_;simp[gx];simp[sr,g54,g55];refine⟨fun cD=>?_,fun Wl=>?_⟩
   ·have bW:j<args.length:=by omega
    have hr:=qY.rows args;have h4:4≤args.length*4-j*4:=by omega
    have ec:=qY.at bW;have he:List.take 4 (eU args[j])=eU args[j]:=rfl;have hl4:(eU args[j]).length=4:=rfl;have hz:∀H,aM 9999 (.agg (eU args[j])) H=(.agg (eU args[j]),H):=fun H=>by simp[eU]
    have hpc:(eU args[j]).all AV.aT=true:=rfl;simp[AQ,g53,g55,bW,hr,h4,ec,he,hl4,hpc];simp[zh,rv,he,hl4,hz];refine aG.known (S.s_values_Valid _ _ _) ?_;have e2:=e1.trans (E0 h1 bS (.cells (eU args[j]) .fix));cases ho:pV args[j]with
    |false=>simp[qJ,zi];refine hq _ _ _ ?_;simp;refine HE _ _ ?_ e2;rw[List.all_eq_false];exact⟨_,OA bW,by simp[ho]⟩
    |true=>
     simp[qJ,zj,g55];refine⟨args.length-(j+1),by omega,j+1,rfl,by omega,by simp[g1],by simp[g53],by simp[g54],?_,e2,?_⟩
     ·rw[aB (by omega) (by omega)];simp
     ·intro x hx;rw[zqu bW,List.mem_append,List.mem_singleton]at hx;rcases hx with hx|rfl
      ·exact wG.1 ha x hx
      ·exact ho
   ·have bW:j=args.length:=by omega
    subst bW;rw[List.take_length]at ha;exact fy _ _ _ (by simp[g1]) ha e1
theorem ZA{x:Ev}{R:Out→T ah→Key→Prop}{tm:T AV}{h:T ah}{nx nx0:Key}(hlen:x.args.length≤1000)(h0:nx0.toNat<nx.toNat)(f1:ae (K 1) tm=some (.ptr nx0 0))(f3:ae (K 3) tm=some (.bool (zU x.res)))(hb:ae nx0 h=some (.cells (eE x) .fix))
  (hk:0≤x.kind∧x.kind≤2) (hc:0≤x.client∧x.client≤3) (hR:∀h' nx',Ext h nx h' nx'→R (.ret (I (if tG x=true then 0 else 1))) h' nx') :
  gn C (.seq (.seq (.ops jq) (.cond (.t (K 32)) (.seq (.seq (.ops dR) (.cond (.t (K 51)) (.seq (.ops gy) .ret) .skip)) (.seq (.seq (.ops gw) (.block 0 (.loop gx))) (.seq (.ops kJ) .ret))) .skip))
   (.seq (.seq (.ops cG) (.cond (.t (K 87)) (.seq (.ops dF) .ret) .skip)) (.seq (.ops kK) .ret))) (bZ [.tmp (K 2)] R) tm h nx:=by
 have rv:C.raw dX=false:=S.nr (by decide);have fail:tG x=false→R (.ret (I 1)) h nx:=fun e=>by simpa[e]using hR h nx (Ext.refl _ _)
 obtain⟨kind,client,⟨nl,nc⟩,args,res⟩:=x;have amP:args.length≤1000:=hlen;have c0:0≤client:=hc.1;have c3:client≤3:=hc.2;have dQ:aL args=.nils∧args=[]∨∃l,aL args=.sl l args.length 4 .any∧args≠[]:=by
  cases args with
  |nil=>exact .inl ⟨rfl,rfl⟩
  |cons a t=>exact .inr ⟨_,rfl,by simp⟩
 have yG:kind=0∨kind=1∨kind=2:=by have:=hk.1;have:=hk.2;simp at *;omega
 have last:∀aJ:T AV,ae (K 1) aJ=some (.ptr nx0 0)→tG ⟨kind,client,(nl,nc),args,res⟩=pV res→gn C (.seq (.ops kK) .ret) (bZ [.tmp (K 2)] R) aJ h nx:=by
  intro aJ q1 e;have hz:∀H,aM 9999 (.agg (eU res)) H=(.agg (eU res),H):=fun H=>by simp[eU]
  simp;simp[kK,q1,hb,eE,rv];refine aG.known (S.s_values_Valid res _ _) ?_;simp;have:=hR h nx (Ext.refl _ _);rw[e]at this;exact this
 simp only[bM,cz]at last;rcases yG with rfl|rfl|rfl
 ·simp[jq,f1,hb,eE];cases hz:zU res with
  |false=>rw[hz]at f3;simp[dR,f1,f3,hb,eE,gy];exact fail (by unfold tG;simp[hz])
  |true=>
   rw[hz]at f3;by_cases hn:nl=0∧nc=0
   ·simp[dR,f1,f3,hb,eE,hn,gy];exact fail (by unfold tG;simp[hn])
   ·by_cases hl:16<nl
    ·have QN:(16:Int)<nl:=by omega
     simp[dR,f1,f3,hb,eE,hn,hl,QN,gy];exact fail (by unfold tG;simp;omega)
    ·have QN:¬(16:Int)<nl:=by omega
     have go:∀(Q:dh) (aJ:T AV),args.length≤16→ae (K 1) aJ=some (.ptr nx0 0)→(∀ay h' nx',bZ [.tmp (K 2)] R .ret ay h' nx'→Q .ret ay h' nx')→gn C (.seq (.seq (.ops gw) (.block 0 (.loop gx))) (.seq (.ops kJ) .ret)) Q aJ h nx:=by
      intro Q aJ ha q1 hq;have eok:=amR (client:=client) hz hn (by omega) ha c0 c3;rw[bM];refine Zy S (x:=⟨0,client,(nl,nc),args,res⟩) (R:=R) hlen h0 q1 hb ?_ ?_ ?_
      ·intro h' nx' e1 e2;have:=hR h' nx' e2;rw[eok,e1]at this;exact this
      ·intro ay h' nx' q e1 e2;simp;simp[kJ];refine hq _ _ _ ?_;simp;have:=hR h' nx' e2;rw[eok,e1]at this;exact this
      ·intro ay h' nx' q;exact hq _ _ _ q
     simp only[bM,cz]at go;rcases dQ with⟨ea,rfl⟩|⟨l,ea,bX⟩
     ·simp[dR,f1,f3,hb,eE,hn,hl,QN,ea];refine go _ _ (by simp) ?_ (fun _ _ _ q=>q);simp[f1]
     ·by_cases ha:16<args.length
      ·have ha2:(16:Int)<args.length:=by omega
       simp[dR,f1,f3,hb,eE,hn,hl,QN,ea,ha,ha2,gy];exact fail (by unfold tG;simp;omega)
      ·have ha2:¬(16:Int)<args.length:=by omega
       simp[dR,f1,f3,hb,eE,hn,hl,QN,ea,ha,ha2];refine go _ _ (by omega) ?_ (fun _ _ _ q=>q);simp[f1]
 ·simp[jq,f1,hb,eE];by_cases hn:nl=0∧nc=0
  ·obtain⟨rfl,rfl⟩:=hn;rcases dQ with⟨ea,rfl⟩|⟨l,ea,bX⟩
   ·simp[cG,f1,f3,hb,eE,ea];refine last _ ?_ (aum c0 c3);simp[f1]
   ·simp[cG,f1,f3,hb,eE,ea,List.length_pos_iff.2 bX,dF];exact fail (by unfold tG;simp[bX])
  ·simp[cG,f1,f3,hb,eE,hn,dF];exact fail (by unfold tG;simp;intros;omega)
 ·simp[jq,f1,hb,eE];by_cases hn:nl=0∧nc=0
  ·obtain⟨rfl,rfl⟩:=hn;rcases dQ with⟨ea,rfl⟩|⟨l,ea,bX⟩
   ·by_cases Pm:client=0
    ·subst Pm;cases hz:zU res with
     |false=>rw[hz]at f3;simp[cG,f1,f3,hb,eE,ea,dF];exact fail (by rw[aif,hz])
     |true=>rw[hz]at f3;simp[cG,f1,f3,hb,eE,ea];refine last _ ?_ (by rw[aif,hz,amS hz]);simp[f1]
    ·simp[cG,f1,f3,hb,eE,ea,bq Pm,dF];exact fail (by unfold tG;simp[Pm])
   ·simp[cG,f1,f3,hb,eE,ea,List.length_pos_iff.2 bX,dF];exact fail (by unfold tG;simp[bX])
  ·simp[cG,f1,f3,hb,eE,hn,dF];exact fail (by unfold tG;simp;intros;omega)
theorem ae2(x:Ev)(hlen:x.args.length≤1000):YO C jX [.agg (eE x)] (·=.ret (I (if tG x=true then 0 else 1))):=by
 intro h nx;have s1:=kTSu nx;have rc:C.raw jY=false:=S.nr (by decide);have ac:=bH x.args;refine S.C0.call ?_;simp[zk];simp[AR,eE,ac.1];have hb1:ae nx (aw nx (some (.cells (eE x) .fix)) h)=some (.cells (eE x) .fix):=by simp
 have he:=E0 h nx (.cells (eE x) .fix);have hcz:(jA ⟨x.res.k,x.res.n,[]⟩ ⟨0,0,[]⟩==0)=zU x.res:=by rw[Bool.eq_iff_iff,beq_iff_eq];exact amO _
 unfold eE at hb1 he;simp[AS,rc];refine aG.known (S.s_values_Compare ⟨x.res.k,x.res.n,[]⟩ ⟨0,0,[]⟩ (by simp) (by simp) _ _) ?_;simp[hcz];by_cases hk:x.kind<0
 ·simp[gz,hk,jr,AT (x:=x) (by omega)];exact he
 by_cases RY:2<x.kind
 ·simp[gz,hk,RY,jr,AT (x:=x) (by omega)];exact he
 by_cases hc:x.client<0
 ·simp[gz,hk,RY,hc,jr,AT (x:=x) (by omega)];exact he
 by_cases hc2:3<x.client
 ·have hc3:¬x.client<4:=by omega
  simp[gz,hk,RY,hc,hc3,jr,AT (x:=x) (by omega)];exact he
 have hc3:x.client<4:=by omega
 simp[gz,hk,RY,hc,hc3];have key:=fun aJ g1 g3=>ZA S (x:=x) (nx0:=nx) (nx:=nx.succ) (h:=aw nx (some (.cells (eE x) .fix)) h) (tm:=aJ) (R:=fun o h' nx'=>o=.ret (I (if tG x=true then 0 else 1))∧Ext h nx h' nx') hlen (by omega) g1 g3 hb1 (by omega) (by omega) (fun h' nx' e=>⟨rfl,he.trans e⟩);simp only[bM,cz]at key;refine key _ ?_ ?_<;>simp
end Ln
namespace Go.Sx
open Go
section
variable{α:Type}{z:Nat}{enc:α→List AV}
theorem Flat.parts(F:Flat z enc){l:List α}{j:Nat}(hj:j<l.length):ag enc l=ag enc (l.take j)++(enc l[j]++ag enc (l.drop (j+1))):=by
 conv=>lhs;rw[←List.take_append_drop j l,zqt hj]
 rw[jg,dE]
theorem Flat.yU(F:Flat z enc){l:List α}{j off:Nat}{vs:List AV}{y:α}(hj:j<l.length)(ho:off+vs.length≤z)(hy:enc y=(enc l[j]).take off++(vs++(enc l[j]).drop (off+vs.length))) :
  (ag enc l).take (j*z+off)++(vs++(ag enc l).drop (j*z+off+vs.length))=ag enc (l.set j y):=by
 have ht:(l.take j).length=j:=by simp;omega
 have hr:(ag enc (l.take j)).length=j*z:=by rw[F.rows,ht]
 have hz:(enc l[j]).length=z:=F.len _;rw[List.set_eq_take_append_cons_drop,if_pos hj,jg,dE,hy,F.parts hj];have h1:List.take (j*z+off) (ag enc (l.take j))=ag enc (l.take j):=RL (by rw[hr];omega);have h2:List.drop (j*z+off+vs.length) (ag enc (l.take j))=[]:=List.drop_eq_nil_of_le (by rw[hr];omega);rw[zqw,zqq,hr,h1,h2];rw[show j*z+off-j*z=off by omega,show j*z+off+vs.length-j*z=off+vs.length by omega];rw[List.take_append_of_le_length (by omega),List.drop_append_of_le_length (by omega)];simp
theorem Flat.put(F:Flat z enc){l:List α}{j:Nat}(hj:j<l.length)(y:α):(ag enc l).take (j*z)++(enc y++(ag enc l).drop (j*z+z))=ag enc (l.set j y):=by have h1:=F.len y;have:=F.yU (off:=0) (vs:=enc y) (y:=y) hj (by omega) (by rw[List.take_zero,List.drop_eq_nil_of_le (by rw[F.len];omega)];simp);rw[h1]at this;exact this
end
end Go.Sx
namespace Ln
open Go.Sx Go
def QY(res:List RV)(R:Out→T ah→Key→Prop):dh:=fun e tm h nx=>match e with
 |.norm|.ret=>∃l,resultsA h tm res=some l∧R (.ret (pG l)) h nx
 |.pan a=>R (.pan a) h nx
 |.exit _=>False
@[simp] theorem azH(res:List RV)(R:Out→T ah→Key→Prop)(tm:T AV)(h:T ah)(nx:Key):QY res R .ret tm h nx=∃l,resultsA h tm res=some l∧R (.ret (pG l)) h nx:=yL Iff.rfl
@[simp] theorem axo(res:List RV)(R:Out→T ah→Key→Prop)(tm:T AV)(h:T ah)(nx:Key):QY res R .norm tm h nx=∃l,resultsA h tm res=some l∧R (.ret (pG l)) h nx:=yL Iff.rfl
theorem FnR.call{C:bQ}{f:Nat}{p:fe}(S:FnR C f p){l:List AV}{h:T ah}{nx:Key}{R:Out→T ah→Key→Prop}(hw:gn C p.body (QY p.res R) (iN l (K 0) .nil) h nx):aG C f l h nx R:=by
 refine aG.of_wp (S.off _ _ _) S.get ?_;have e:Dz C f p.res R=QY p.res R:=by funext e tm h nx;cases e<;>simp only[Dz,QY,S.mY]<;>rfl
 rw[e];exact hw
def Gro(c:AV)(os:List Op)(h:T ah)(nx n0:Key):Prop:=(c=.nils∧os=[])∨∃b:Key,c=.slice b 0 os.length 10∧ae b h=some (.cells (ag eO os) .part)∧n0.toNat≤b.toNat∧b.toNat<nx.toNat
theorem Gro.ext{c:AV}{os:List Op}{h h':T ah}{nx nx' n0:Key}(g:Gro c os h nx n0)(e:Ext h nx h' nx'):Gro c os h' nx' n0:=by
 rcases g with g|⟨b,h1,h2,h3,h4⟩
 ·exact .inl g
 ·exact .inr ⟨b,h1,by rw[e.g b h4];exact h2,h3,by have:=e.n;omega⟩
theorem Gro.ne{c:AV}{os:List Op}{h h':T ah}{nx nx' n0 k:Key}(g:Gro c os h nx n0)(hn:nx.toNat≤nx'.toNat)(hk:∀l,ae k h≠some (.cells l .part))(e:∀b:Key,b.toNat<nx.toNat→b≠k→ae b h'=ae b h):Gro c os h' nx' n0:=by
 rcases g with g|⟨b,h1,h2,h3,h4⟩
 ·exact .inl g
 ·exact .inr ⟨b,h1,by rw[e b h4 (fun q=>by subst q;exact hk _ h2)];exact h2,h3,by omega⟩
theorem Gro.add{c:AV}{os:List Op}{h:T ah}{nx n0:Key}(g:Gro c os h nx n0)(h0:n0.toNat≤nx.toNat)(hl:os.length≤1000)(y:Op) :
  ∃c' h' nx',appendTo 10 c (eO y) 1 h nx=.val c' h' nx'∧Gro c' (os ++ [y]) h' nx' n0∧nx.toNat≤nx'.toNat∧(∀b:Key,b.toNat<n0.toNat→ae b h'=ae b h)∧∀b:Key,b.toNat<nx.toNat→(∀l,ae b h≠some (.cells l .part))→ae b h'=ae b h:=by
 have s1:=kTSu nx;have hc:(eO y).all AV.aT=true:=wG.2 (fP.cell y);rcases g with⟨rfl,rfl⟩|⟨b,rfl,h2,h3,h4⟩
 ·exact⟨.slice nx 0 1 10,aw nx (some (.cells (eO y) .part)) h,nx.succ,by simp,.inr ⟨nx,rfl,by simp[je],h0,by omega⟩,by omega,fun b hb=>ax (by omega),fun b hb _=>ax hb⟩
 ·have hr:=fP.rows os;have QN:os.length+1≤1048576:=by omega
  refine⟨.slice nx 0 (os.length+1) 10,aw nx (some (.cells (ag eO os++eO y) .part)) (aw b none h),nx.succ,?_,.inr ⟨nx,by simp,by rw[jg,je];simp,h0,by omega⟩,by omega,fun x hx=>?_,fun x hx hk=>?_⟩
  ·simp[QN,hc,h2,hr,Ie]
  ·rw[ax (by omega),ax (by omega)]
  ·rw[ax hx,aU];rintro rfl;exact hk _ h2
def JP(s:Sc):List AV:=[I s.o0,I s.o1,I s.o2,I s.o3]
theorem NN(s:Sc):(JP s).length=4:=rfl
theorem Tg(s:Sc){c:Nat}(h:c<4):(JP s)[c]?=some (I (s.op c)):=by
 have:c=0∨c=1∨c=2∨c=3:=by omega
 rcases this with rfl|rfl|rfl|rfl<;>simp[JP,Sc.op]
theorem ZF(s:Sc){c:Nat}(h:c<4)(v:Int):List.take c (JP s)++I v ::List.drop (c+1) (JP s)=JP (s.set c v):=by
 have:c=0∨c=1∨c=2∨c=3:=by omega
 rcases this with rfl|rfl|rfl|rfl<;>simp[JP,Sc.set]
abbrev Pu:aI:=(.block 4 (.seq (.ops j5)
 (.cond (.t (K 53))
 (.seq (.seq (.ops oq)
 (.cond (.t (K 56))
 (.seq (.ops uP)
 .ret)
 .skip))
 (.seq (.ops ou)
 (.ops ov)))
 (.seq (.ops og)
 (.cond (.t (K 73))
 (.seq (.seq (.ops ox)
 (.cond (.t (K 76))
 (.seq (.ops uQ)
 .ret)
 .skip))
 (.seq (.staged uR ⟨[K 77,K 78,K 79,K 80,K 81,K 82,K 83,K 84,K 85,K 86,K 87],[]⟩)
 (.ops uT)))
 (.seq (.ops uF)
 (.cond (.t (K 91))
 (.seq (.ops uG)
 (.block 5 (.loop wX)))
 .skip)))))))
structure At(l:List Ev)(s:Sc)(i:Nat)(bo n0:Key)(tm:T AV)(h:T ah)(nx:Key):Prop where
 g8:ae (K 8) tm=some (.ptr bo 0)
 g35:ae (K 35) tm=some (.sl (ag eE l) l.length 8 .any)
 g36:ae (K 36) tm=some (I l.length)
 g37:ae (K 37) tm=some (I i)
 gro:∃c,ae (K 7) tm=some c∧Gro c s.ops h nx n0
 JP:ae bo h=some (.cells (JP s) .fix)
 bo0:n0.toNat≤bo.toNat
 bo1:bo.toNat<nx.toNat
variable{C:bQ}
theorem aox{l:List Ev}{s:Sc}{i:Nat}{bo n0 nb:Key}{x:Ev}{Q:dh}{tm:T AV}{h:T ah}{nx:Key}(A:At l s i bo n0 tm h nx)(hx:tG x=true)(hk:x.kind=0)(hl:s.ops.length≤1000)(bX:bo≠nb)(hnb:nb.toNat<nx.toNat)
  (g9:ae (K 9) tm=some (I i)) (g10:ae (K 10) tm=some (.ptr nb 0)) (gb:ae nb h=some (.cells (eE x) .fix)) (g12:ae (K 12) tm=some (I (s.op x.client))) (g52:ae (K 52) tm=some (I x.kind))
  (HE:∀ay,we s x=2→ae (K 2) ay=some .nils→ae (K 3) ay=some (I 20)→Q .ret ay h nx)
  (fy:∀ay h' nx',we s x=0→At l (lG i s x) i bo n0 ay h' nx'→(∀b:Key,b.toNat<n0.toNat→ae b h'=ae b h)→nx.toNat≤nx'.toNat→Q .norm ay h' nx') :
  gn C Pu Q tm h nx:=by
 have hx':=hx;unfold tG at hx';rw[decide_eq_true_eq]at hx';obtain⟨_,_,c0,c3,_⟩:=hx';obtain⟨g8,g35,g36,g37,⟨c7,g7,gro⟩,go,bo0,bo1⟩:=A;have hb:we s x=if 0≤s.op x.client then 2 else 0:=by unfold we;rw[hx];simp[hk]
 obtain⟨kind,client,⟨nl,nc⟩,args,res⟩:=x;have hk:kind=0:=hk;subst hk;obtain⟨c,rfl⟩:=Int.eq_ofNat_of_zero_le c0;have hc4:c<4:=by have:((c:Nat):Int)≤3:=c3;omega
 have hg:=Tg s hc4;have hp:=fun v=>ZF s hc4 v;have ol:=NN s;have hc3:c≤3:=by omega
 simp;simp[j5,g52];by_cases ho:s.op c<0
 ·have ON:we s ⟨0,c,(nl,nc),args,res⟩=0:=by rw[hb,if_neg];simpa using ho
  simp[oq,g12,ho];have hnp:∀ls,ae bo h≠some (.cells ls .part):=fun ls e=>by rw[go]at e;cases e
  have ac:=bH args;have af:∀n H,aM n (aL args) H=(aL args,H):=dM args;have s1:=kTSu nx;have aBI:Gro c7 s.ops (aw bo (some (.cells (JP (s.set c s.ops.length)) .fix)) h) nx n0:=gro.ne (fg _) hnp (fun b _ hb=>aU _ _ _ _ hb);have go1:ae bo (aw bo (some (.cells (JP (s.set c s.ops.length)) .fix)) h)=some (.cells (JP (s.set c s.ops.length)) .fix):=by simp
  have gb1:ae nb (aw bo (some (.cells (JP (s.set c s.ops.length)) .fix)) h)=some (.cells (eE ⟨0,c,(nl,nc),args,res⟩) .fix):=by rw[aU _ _ _ _ (Ne.symm bX)];exact gb
  have au1:∀b:Key,b.toNat<n0.toNat→ae b (aw bo (some (.cells (JP (s.set c s.ops.length)) .fix)) h)=ae b h:=fun b hb=>ax (by omega);have fin:∀aJ:T AV,(∀k:Key,k=K 7∨k=K 8∨k=K 9∨k=K 10∨k=K 35∨k=K 36∨k=K 37→ae k aJ=ae k tm)→lA C (aC 4 Q) ov aJ (aw bo (some (.cells (JP (s.set c s.ops.length)) .fix)) h) nx:=by
   intro aJ q;have q7:=(q (K 7) (by simp)).trans g7;have q8:=(q (K 8) (by simp)).trans g8;have q9:=(q (K 9) (by simp)).trans g9;have q10:=(q (K 10) (by simp)).trans g10;generalize aw bo (some (.cells (JP (s.set c s.ops.length)) .fix)) h=h1 at aBI go1 gb1 au1 ⊢;have an3:=aBI.ext (E0 h1 nx (.cells (eO (CW i ⟨0,c,(nl,nc),args,res⟩)) .fix));obtain⟨c',h',nx',ga,aI4,n3,aI5,aBJ⟩:=an3.add (by omega) hl (CW i ⟨0,c,(nl,nc),args,res⟩);have ey:eO (CW i ⟨0,c,(nl,nc),args,res⟩)=[I c,I i,I (-1),I (-1),.str nl nc,aL args,I 0,I 0,.str 0 0,.nils]:=rfl;rw[ey]at ga;simp[-appendTo,ov,q7,q9,q10,gb1,eE,ac.1,ac.2,af,ga];have hn:lG i s ⟨0,c,(nl,nc),args,res⟩={s.set c s.ops.length with ops:=s.ops ++ [CW i ⟨0,c,(nl,nc),args,res⟩]}:=by unfold lG;simp
   refine fy _ _ _ ON ⟨by simp[q8],?_,?_,?_,⟨c',by simp,?_⟩,?_,bo0,by omega⟩ ?_ (by omega)
   ·simp;exact(q (K 35) (by simp)).trans g35
   ·simp;exact(q (K 36) (by simp)).trans g36
   ·simp;exact(q (K 37) (by simp)).trans g37
   ·rw[hn];exact aI4
   ·rw[hn,aBJ bo (by omega) (fun ls e=>by rw[ax bo1,go1]at e;cases e),ax bo1,go1];rfl
   ·intro b iS;rw[aI5 b iS,ax (by omega),au1 b iS]
  rcases gro with⟨e7,eo⟩|⟨b7,e7,hb7,_,ar6⟩
  ·rw[e7]at g7;have e0:s.ops.length=0:=by simp[eo]
   rw[e0]at fin;have hp0:=hp 0;simp[ou,g7,g8,g10,gb,eE,go,ol,hc4,hp0,hg,hc3];refine fin _ ?_;rintro k (rfl|rfl|rfl|rfl|rfl|rfl|rfl)<;>simp[g7]
  ·rw[e7]at g7;have hp0:=hp s.ops.length;simp[ou,g7,g8,g10,gb,eE,go,ol,hc4,hp0,hg,hc3];refine fin _ ?_;rintro k (rfl|rfl|rfl|rfl|rfl|rfl|rfl)<;>simp[g7]
 ·have ON:we s ⟨0,c,(nl,nc),args,res⟩=2:=by rw[hb,if_pos];simpa using ho
  simp[oq,g12,ho];simp[uP];refine HE _ ON ?_ ?_<;>simp
theorem axp{l:List Ev}{s:Sc}{i:Nat}{bo n0 nb:Key}{x:Ev}{Q:dh}{tm:T AV}{h:T ah}{nx:Key}(A:At l s i bo n0 tm h nx)(hx:tG x=true)(hk:x.kind=1)(MB:s.op x.client<s.ops.length)(bX:bo≠nb)(hnb:nb.toNat<nx.toNat)
  (g9:ae (K 9) tm=some (I i)) (g10:ae (K 10) tm=some (.ptr nb 0)) (gb:ae nb h=some (.cells (eE x) .fix)) (g12:ae (K 12) tm=some (I (s.op x.client))) (g52:ae (K 52) tm=some (I x.kind))
  (HE:∀ay,we s x=3→ae (K 2) ay=some .nils→ae (K 3) ay=some (I 25)→Q .ret ay h nx)
  (fy:∀ay h' nx',we s x=0→At l (lG i s x) i bo n0 ay h' nx'→(∀b:Key,b.toNat<n0.toNat→ae b h'=ae b h)→nx.toNat≤nx'.toNat→Q .norm ay h' nx') :
  gn C Pu Q tm h nx:=by
 have hx':=hx;unfold tG at hx';rw[decide_eq_true_eq]at hx';obtain⟨_,_,c0,c3,_⟩:=hx';obtain⟨g8,g35,g36,g37,⟨c7,g7,gro⟩,go,bo0,bo1⟩:=A;have hb:we s x=if s.op x.client<0 then 3 else 0:=by unfold we;rw[hx];simp[hk]
 obtain⟨kind,client,⟨nl,nc⟩,args,res⟩:=x;have hk:kind=1:=hk;subst hk;obtain⟨c,rfl⟩:=Int.eq_ofNat_of_zero_le c0;have hc4:c<4:=by have:((c:Nat):Int)≤3:=c3;omega
 have hg:=Tg s hc4;have hp:=fun v=>ZF s hc4 v;have ol:=NN s;have hc3:c≤3:=by omega
 simp;simp[j5,g52];simp[og,g52];by_cases ho:s.op c<0
 ·have ON:we s ⟨1,c,(nl,nc),args,res⟩=3:=by rw[hb,if_pos];simpa using ho
  simp[ox,g12,ho];simp[uQ];refine HE _ ON ?_ ?_<;>simp
 ·have ON:we s ⟨1,c,(nl,nc),args,res⟩=0:=by rw[hb,if_neg];simpa using ho
  simp[ox,g12,ho];have MB:s.op c<s.ops.length:=MB;obtain⟨a,ha⟩:=Int.eq_ofNat_of_zero_le (show 0≤s.op c by omega);have hal:a<s.ops.length:=by omega
  rcases gro with⟨e7,eo⟩|⟨b7,e7,hb7,awB,ar6⟩
  ·rw[eo]at hal;simp at hal
  ·rw[e7]at g7;have ar7:b7≠bo:=by rintro rfl;rw[go]at hb7;simp at hb7
   have aI6:b7≠nb:=by rintro rfl;rw[gb]at hb7;simp at hb7
   have hr:=fP.rows s.ops;have p1:=fP.yU (l:=s.ops) (j:=a) (off:=2) (vs:=[I i]) (y:={s.ops[a]with e:=i}) hal (by simp) rfl;have aI7:a<(s.ops.set a {s.ops[a]with e:=i}).length:=by simpa using hal
   have QM:=fP.rows (s.ops.set a {s.ops[a]with e:=i});have p2:=fP.yU (l:=s.ops.set a {s.ops[a]with e:=i}) (j:=a) (off:=6) (vs:=eU res) (y:={s.ops[a]with e:=i,res:=res}) aI7 (by simp[eU]) (by simp[eO,eU]);simp[eU]at p1 p2 QM;rw[ha]at g12;have hb1:a*10+2<s.ops.length*10:=by omega
   have Ii:a*10+2+1≤s.ops.length*10:=by omega
   have hb3:a*10+6+4≤s.ops.length*10:=by omega
   have gnb:∀B,ae nb (aw b7 B h)=some (.cells (eE ⟨1,c,(nl,nc),args,res⟩) .fix):=fun B=>by rw[aU _ _ _ _ (Ne.symm aI6)];exact gb
   have gbo:∀B,ae bo (aw b7 B h)=some (.cells (JP s) .fix):=fun B=>by rw[aU _ _ _ _ (Ne.symm ar7)];exact go
   have hbr:AV.beq (.agg [I res.k,I res.n,.str 0 0,.nils]) (.agg [I res.k,I res.n,.str 0 0,.nils])=true:=beq_refl _ rfl;simp[uR,g7,g9,g10,g12,gb,eE,hal,hb7,hr,QM,Ii,hb3,p1,p2,gnb,hbr];have hp1:=hp (-1);simp[uT,g8,g10,gnb,gbo,eE,ol,hc4,hp1,hc3];have hn:lG i s ⟨1,c,(nl,nc),args,res⟩={s.set c (-1)with ops:=s.ops.modify a fun o=>{o with e:=i,res:=res}}:=by unfold lG;simp[ha]
   have hm:s.ops.modify a (fun o=>{o with e:=(i:Int),res:=res})=s.ops.set a {s.ops[a]with e:=i,res:=res}:=by
    apply List.ext_getElem?;intro q;rw[List.getElem?_modify,List.getElem?_set];by_cases hq:a=q
    ·subst hq;simp[hal]
    ·simp[hq]
   refine fy _ _ _ ON ⟨by simp[g8],by simp[g35],by simp[g36],by simp[g37],⟨.slice b7 0 s.ops.length 10,by simp[g7],.inr ⟨b7,?_,?_,awB,ar6⟩⟩,?_,bo0,bo1⟩ ?_ (fg _)
   ·rw[hn];simp
   ·rw[hn];show ae b7 _=some (ah.cells (ag eO (s.ops.modify a _)) CK.part);rw[hm,aU _ _ _ _ ar7];simp
   ·rw[hn];simp;rfl
   ·intro b iS;rw[ax (by omega),ax (by omega)]
end Ln
namespace Ln
open Go.Sx Go
def zA(i:Nat)(s:Sc):Nat→List Op
 |0=>s.ops
 |j+1=>pJ i (s.op j) (zA i s j)
def clr(s:Sc):Nat→Sc
 |0=>s
 |j+1=>(clr s j).set j (-1)
theorem abU(i:Nat)(v:Int)(l:List Op):(pJ i v l).length=l.length:=by unfold pJ;split<;>simp
theorem Yj(i:Nat)(s:Sc):∀j,(zA i s j).length=s.ops.length
 |0=>rfl
 |j+1=>by show(pJ i (s.op j) (zA i s j)).length=_;rw[abU,Yj i s j]
theorem an0{i a:Nat}{v:Int}{l:List Op}(hv:v=a)(ha:a<l.length):pJ i v l=l.set a {l[a]with lost:=i}:=by
 subst hv;unfold pJ;rw[if_pos (by omega)];apply List.ext_getElem?;intro q;rw[List.getElem?_modify,List.getElem?_set];by_cases hq:a=q
 ·subst hq;simp[ha]
 ·simp[hq]
theorem ar4{i:Nat}{v:Int}{l:List Op}(hv:v<0):pJ i v l=l:=by unfold pJ;rw[if_neg (by omega)]
def SwI(l:List Ev)(s:Sc)(i:Nat)(bo n0:Key)(h:T ah)(nx:Key)(c7:AV)(m:Nat)(ay:T AV)(h':T ah)(nx':Key):Prop:=∃j:Nat,m=4-j∧j≤4∧nx'=nx∧
 ae (K 7) ay=some c7∧ae (K 8) ay=some (.ptr bo 0)∧ae (K 9) ay=some (I i)∧ae (K 35) ay=some (.sl (ag eE l) l.length 8 .any)∧ae (K 36) ay=some (I l.length)∧ae (K 37) ay=some (I i)∧
 ae (K 93) ay=some (.agg (JP s))∧ae (K 94) ay=some (I j)∧Gro c7 (zA i s j) h' nx n0∧ae bo h'=some (.cells (JP (clr s j)) .fix)∧(∀b:Key,b.toNat<n0.toNat→ae b h'=ae b h)
variable{C:bQ}
theorem an1{l:List Ev}{s:Sc}{i:Nat}{bo n0:Key}{x:Ev}{Q:dh}{tm:T AV}{h:T ah}{nx:Key}(A:At l s i bo n0 tm h nx)(hx:tG x=true)(hk:x.kind=2)(MB:∀c,0≤c→c≤3→s.op c<s.ops.length)(hl:s.ops.length≤1000)
  (g9:ae (K 9) tm=some (I i)) (g52:ae (K 52) tm=some (I x.kind))
  (fy:∀ay h' nx',we s x=0→At l (lG i s x) i bo n0 ay h' nx'→(∀b:Key,b.toNat<n0.toNat→ae b h'=ae b h)→nx.toNat≤nx'.toNat→Q .norm ay h' nx') :
  gn C Pu Q tm h nx:=by
 obtain⟨g8,g35,g36,g37,⟨c7,g7,gro⟩,go,bo0,bo1⟩:=A;have ON:we s x=0:=by unfold we;rw[hx];simp[hk]
 have hn:lG i s x=⟨pJ i s.o3 (pJ i s.o2 (pJ i s.o1 (pJ i s.o0 s.ops))),-1,-1,-1,-1⟩:=by unfold lG;simp[hk]
 rw[hk]at g52;simp;simp[j5,g52];simp[og,g52];simp[uF,g52];have ol:=NN s;have ot:List.take 4 (JP s)=JP s:=rfl;have oz:∀H,aM 9999 (.agg (JP s)) H=(.agg (JP s),H):=fun H=>by simp[JP]
 simp[uG,g8,go,ol,ot,oz];refine W.dy (n:=4) (SwI l s i bo n0 h nx c7) ?_ ?_
 ·refine⟨0,rfl,by omega,rfl,?_,?_,?_,?_,?_,?_,?_,?_,gro,go,fun _ _=>rfl⟩<;>simp[*]
 ·rintro m ef h1 bS ⟨j,rfl,hj,rfl,g7,g8,g9,g35,g36,g37,g93,g94,gro,go,akn⟩;refine W.of ?_;simp[wX];simp[Dh,g94];refine⟨fun cD=>?_,fun Wl=>?_⟩
  ·have hj4:j<4:=by omega
   have hj3:j≤3:=by omega
   have hg:=Tg s hj4;have hp:=ZF (clr s j) hj4 (-1);have ol2:=NN (clr s j);have hjb:=MB j (by omega) (by omega);have hlen:=Yj i s j;simp[Di,g93,g94,hj4,hg];have fin:∀(aJ:T AV) (h2:T ah),(∀k:Key,k=K 7∨k=K 8∨k=K 9∨k=K 35∨k=K 36∨k=K 37∨k=K 93∨k=K 94→ae k aJ=ae k ef)→ae (K 13) aJ=some (I j)→Gro c7 (zA i s (j+1)) h2 bS n0→ae bo h2=some (.cells (JP (clr s j)) .fix)→(∀b:Key,b.toNat<n0.toNat→ae b h2=ae b h)→
     lA C (aC 6 (aQ (gn C (.ops uH) (aQ (fun tm h' nx=>∃m,m<4-j∧SwI l s i bo n0 h bS c7 m tm h' nx) (aC 5 (aC 4 Q)))) (aQ (fun tm h' nx=>∃m,m<4-j∧SwI l s i bo n0 h bS c7 m tm h' nx) (aC 5 (aC 4 Q))))) uI aJ h2 bS:=by
    intro aJ h2 q q13 an3 go2 aHn;have q7:=(q (K 7) (by simp)).trans g7;have q8:=(q (K 8) (by simp)).trans g8;have q9:=(q (K 9) (by simp)).trans g9;have q35:=(q (K 35) (by simp)).trans g35;have q36:=(q (K 36) (by simp)).trans g36;have q37:=(q (K 37) (by simp)).trans g37;have q93:=(q (K 93) (by simp)).trans g93;have q94:=(q (K 94) (by simp)).trans g94;simp[uI,q13,q8,go2,hj4,hj3,ol2,hp];simp[uH,q94];rw[aB (by omega) (by omega)];refine⟨4-(j+1),by omega,j+1,rfl,by omega,rfl,by simp[q7],by simp[q8],by simp[q9],by simp[q35],by simp[q36],by simp[q37],by simp[q93],by simp,?_,by simp[clr],fun b hb=>?_⟩
    ·exact an3.ne (fg _) (fun ls e=>by rw[go2]at e;simp at e) (fun b _ hb=>aU _ _ _ _ hb)
    ·rw[ax (by omega)];exact aHn b hb
   by_cases ho:s.op j<0
   ·simp[uJ,ho];refine fin _ h1 ?_ ?_ ?_ go akn
    ·rintro k (rfl|rfl|rfl|rfl|rfl|rfl|rfl|rfl)<;>simp
    ·simp
    ·show Gro c7 (pJ i (s.op j) (zA i s j)) h1 bS n0;rw[ar4 ho];exact gro
   ·obtain⟨a,ha⟩:=Int.eq_ofNat_of_zero_le (show 0≤s.op j by omega);have hal:a<(zA i s j).length:=by omega
    have ho2:¬(a:Int)<0:=by omega
    rcases gro with⟨e7,eo⟩|⟨b7,e7,hb7,awB,ar6⟩
    ·rw[eo]at hal;simp at hal
    ·have g7':=g7;rw[e7]at g7;have ar7:b7≠bo:=by rintro rfl;rw[go]at hb7;simp at hb7
     have hr:=fP.rows (zA i s j);have p1:=fP.yU (l:=zA i s j) (j:=a) (off:=3) (vs:=[I i]) (y:={(zA i s j)[a]with lost:=i}) hal (by simp) rfl;simp at p1;have Ii:a*10+3+1≤(zA i s j).length*10:=by omega
     simp[uJ,ha,ho2];simp[Dj,g7,g9,hal,hb7,hr,Ii,p1];refine fin _ _ ?_ ?_ ?_ ?_ ?_
     ·rintro k (rfl|rfl|rfl|rfl|rfl|rfl|rfl|rfl)<;>simp[g7]
     ·simp
     ·refine .inr ⟨b7,by rw[e7];simp[zA,abU],?_,awB,ar6⟩;show _=some (ah.cells (ag eO (pJ i (s.op j) (zA i s j))) CK.part);rw[an0 ha hal];simp
     ·rw[aU _ _ _ _ (Ne.symm ar7)];exact go
     ·intro b hb;rw[ax (by omega)];exact akn b hb
  ·have:j=4:=by omega
   subst this;refine fy _ _ _ ON ⟨by simp[g8],by simp[g35],by simp[g36],by simp[g37],⟨c7,by simp[g7],?_⟩,?_,bo0,bo1⟩ akn (fg _)
   ·rw[hn];have:zA i s 4=pJ i s.o3 (pJ i s.o2 (pJ i s.o1 (pJ i s.o0 s.ops))):=by simp[zA,Sc.op]
    rw[this]at gro;exact gro
   ·rw[hn,go];simp[clr,Sc.set,JP]
end Ln
namespace Ln
open Go.Sx Go
def sc0:Sc:=⟨[],-1,-1,-1,-1⟩
theorem kp0:Kp [] sc0:=by
 refine⟨rfl,?_,?_,?_,?_⟩
 ·intro c a b;unfold sc0 Sc.op iM;repeat' split<;>simp
 ·intro c _;unfold sc0 Sc.op;simp
 ·intro c a b h;unfold sc0 Sc.op at h;simp at h
 ·intro j o h;simp[sc0]at h
theorem Kp.lt{p:List Ev}{s:Sc}(h:Kp p s):∀c,0≤c→c≤3→s.op c<s.ops.length:=by
 intro c a b;by_cases h0:0≤s.op c
 ·obtain⟨o,h1,_⟩:=h.here c a b h0;have:=(List.getElem?_eq_some_iff.1 h1).1;omega
 ·omega
def ScI(l:List Ev)(bo:Key)(h:T ah)(nx:Key)(m:Nat)(ay:T AV)(h':T ah)(nx':Key):Prop:=∃(i:Nat) (s:Sc),m=l.length-i∧i≤l.length∧At l s i bo nx ay h' nx'∧Kp (l.take i).reverse s∧scan 0 sc0 l=scan i s (l.drop i)∧Ext h nx h' nx'
def avq(l:List Ev)(h:T ah)(nx:Key)(o:Out)(h':T ah)(nx':Key):Prop:=(∃c,o=.ret (.tuple [c,I (gp (bu [] l))])∧Gro c (if bu [] l=0 then cT 0 l else []) h' nx' nx)∧Ext h nx h' nx'
variable{C:bQ}{X:Kn}(S:Std C X)
include S
omit S in
theorem VP{l:List Ev}{s:Sc}{i:Nat}{x:Ev}{t:List Ev}{n:Nat}(hs:scan 0 sc0 l=scan i s (x ::t))(hb:we s x=n+1):bu [] l=n+1:=by
 have h1:=ac7 l;have h2:scan i s (x ::t)=(n+1,[]):=by show(match we s x with|0=>scan (i+1) (lG i s x) t|n=>(n,[]))=_;rw[hb];rfl
 have:(⟨[],-1,-1,-1,-1⟩:Sc)=sc0:=rfl;rw[this,hs,h2]at h1;exact(congrArg Prod.fst h1).symm
omit S in
theorem aqj{l:List Ev}{s:Sc}{i:Nat}(hs:scan 0 sc0 l=scan i s []):bu [] l=0∧cT 0 l=s.ops:=by have h1:=ac7 l;have:(⟨[],-1,-1,-1,-1⟩:Sc)=sc0:=rfl;have h2:scan i s []=(0,s.ops):=rfl;rw[this,hs,h2]at h1;have h3:=(congrArg Prod.fst h1).symm;have h4:=(congrArg Prod.snd h1).symm;simp only at h3 h4;rw[if_pos h3]at h4;exact⟨h3,h4⟩
theorem ahA{l:List Ev}(hl:Wc l){ef:T AV}{h h1:T ah}{nx bS bo:Key}{s:Sc}{i:Nat}{Q:dh}(hi:i<l.length)(A:At l s i bo nx ef h1 bS)(kp:Kp (l.take i).reverse s)(hs:scan 0 sc0 l=scan i s (l.drop i))(e1:Ext h nx h1 bS)
  (Cq:∀ay h' nx',ae (K 2) ay=some .nils→ae (K 3) ay=some (I (gp (bu [] l)))→bu [] l≠0→Ext h nx h' nx'→Q .ret ay h' nx')
  (ad7:∀ay h' nx' m,m<l.length-i→ScI l bo h nx m ay h' nx'→Q .norm ay h' nx') :
  gn C lQ Q ef h1 bS:=by
 have ajR:=hl.len;have rf:C.raw jX=false:=S.nr (by decide);have s1:=kTSu bS;have A':=A;obtain⟨g8,g35,g36,g37,⟨c7,g7,gro⟩,go,bo0,bo1⟩:=A';have hii:(i:Int)<l.length:=by omega
 have hlen:=cn.rows l;have h8:8≤l.length*8-i*8:=by omega
 have ec:=cn.at hi;have L7:=hl.args _ (OA hi);have hz:∀H,aM 9999 (.agg (eE l[i])) H=(.agg (eE l[i]),H):=fun H=>by have:=bT (n:=9998) (l:=eE l[i]) (h:=H) (cn.r7 _);simp only[Yq];rw[this]
 have he:List.take 8 (eE l[i])=eE l[i]:=rfl;have hl8:(eE l[i]).length=8:=rfl;have WT:(eE l[i]).all AV.aT=true:=wG.2 (cn.cell _);rw[zqt hi]at hs;have HO:(l.take (i+1)).reverse=l[i] ::(l.take i).reverse:=by rw[zqu hi];simp
 have ud:(l.take i).reverse.length=i:=by simp;omega
 generalize l[i]=x at *;simp[lQ];simp[oH,g36,g37,hii];simp[En,g35,g37,hi,hlen,h8,ec,he,hl8,WT];simp[Eo,rf,he,hl8,hz];have Cu:=e1.trans (E0 h1 bS (.cells (eE x) .fix));refine(ae2 S x L7 _ _).mono ?_;rintro o h2 aN ⟨rfl,e2⟩;have Wm:=Cu.trans e2;have gb2:ae bS h2=some (.cells (eE x) .fix):=by rw[e2.g bS (by omega)];simp
 have go2:ae bo h2=some (.cells (JP s) .fix):=by rw[e2.g bo (by omega),ax bo1];exact go
 have an3:Gro c7 s.ops h2 aN nx:=(gro.ext (E0 h1 bS (.cells (eE x) .fix))).ext e2;have n2:=e2.n;simp;cases vH:tG x with
 |false=>
  simp[vk];simp[Ep];have hv:=VP hs (n:=0) (by unfold we;rw[vH];rfl);refine Cq _ _ _ ?_ ?_ (by omega) Wm
  ·simp
  ·simp[hv,gp]
 |true=>
  simp[vk];have hx2:0≤x.client∧x.client≤3:=by have h0:=vH;unfold tG at h0;rw[decide_eq_true_eq]at h0;exact⟨h0.2.2.1,h0.2.2.2.1⟩
  obtain⟨c,hc⟩:=Int.eq_ofNat_of_zero_le hx2.1;have hc4:c<4:=by omega
  have hc3:c≤3:=by omega
  have hg:=Tg s hc4;have ol:=NN s;simp[Er,g8,gb2,eE,hc,hc4,hc3,go2,hg,ol];simp[Et,gb2,eE];have yG:x.kind=0∨x.kind=1∨x.kind=2:=by unfold tG at vH;rw[decide_eq_true_eq]at vH;omega
  have bX:bo≠bS:=by rintro rfl;omega
  have sol:s.ops.length≤1000:=by have:=yO (l.take i) 0;have h3:=kp.ops;rw[List.reverse_reverse]at h3;rw[h3];simp at this;omega
  have hcx:x.client=(c:Int):=hc;have fin:∀(Pb:T AV) (h3:T ah) (bY:Key),we s x=0→At l (lG i s x) i bo nx Pb h3 bY→(∀b:Key,b.toNat<nx.toNat→ae b h3=ae b h2)→aN.toNat≤bY.toNat→
    (aC 3 (aQ (gn C (.ops iu) Q) Q)) .norm Pb h3 bY:=by
   intro Pb h3 bY hb A3 low n3;obtain⟨a8,a35,a36,a37,⟨d7,a7,ayj⟩,ao,ab0,ab1⟩:=A3;simp;simp[iu,a37];rw[aB (by omega) (by omega)];refine ad7 _ _ _ (l.length-(i+1)) (by omega) ⟨i+1,lG i s x,rfl,by omega,⟨by simp[a8],by simp[a35],by simp[a36],by simp,⟨d7,by simp[a7],ayj⟩,ao,ab0,ab1⟩,?_,?_,?_⟩
   ·have:=aje kp vH hb;rw[ud]at this;rw[HO];exact this
   ·rw[hs];show(match we s x with|0=>scan (i+1) (lG i s x) _|n=>(n,[]))=_;rw[hb];rfl
   ·exact⟨by have:=Wm.n;omega,fun b hb=>by rw[low b hb];exact Wm.g b hb⟩
  have hg2:∀hh,(JP s)[c]'hh=I (s.op c):=fun hh=>by have:=yT hh;rw[hg]at this;exact(Option.some.inj this).symm
  simp only[hg2];have A2:∀Pb:T AV,(∀k:Key,k=K 7∨k=K 8∨k=K 35∨k=K 36∨k=K 37→ae k Pb=ae k ef)→At l s i bo nx Pb h2 aN:=fun Pb q=>
   ⟨(q (K 8) (by simp)).trans g8,(q (K 35) (by simp)).trans g35,(q (K 36) (by simp)).trans g36,(q (K 37) (by simp)).trans g37,⟨c7,(q (K 7) (by simp)).trans g7,an3⟩,go2,bo0,by omega⟩
  rcases yG with k0|k0|k0
  ·have key:=fun Pb A g9 g10 g12 g52=>aox (C:=C) (Q:=aC 3 (aQ (gn C (.ops iu) Q) Q)) (tm:=Pb) A vH k0 sol bX (by omega) g9 g10 gb2 g12 g52 (fun ay hb e2 e3=>by simp;have hv:=VP hs (n:=1) hb;exact Cq _ _ _ e2 (by rw[hv];exact e3) (by omega) Wm) (fun ay h' nx' hb A' low n=>fin ay h' nx' hb A' low n)
   simp only[Pu,Dy,bM,cz]at key;refine key _ (A2 _ ?_) ?_ ?_ ?_ ?_
   ·rintro k (rfl|rfl|rfl|rfl|rfl)<;>simp
   all_goals simp[hcx]
  ·have key:=fun Pb A g9 g10 g12 g52=>axp (C:=C) (Q:=aC 3 (aQ (gn C (.ops iu) Q) Q)) (tm:=Pb) A vH k0 (kp.lt _ hx2.1 hx2.2) bX (by omega) g9 g10 gb2 g12 g52 (fun ay hb e2 e3=>by simp;have hv:=VP hs (n:=2) hb;exact Cq _ _ _ e2 (by rw[hv];exact e3) (by omega) Wm) (fun ay h' nx' hb A' low n=>fin ay h' nx' hb A' low n)
   simp only[Pu,Dy,bM,cz]at key;refine key _ (A2 _ ?_) ?_ ?_ ?_ ?_
   ·rintro k (rfl|rfl|rfl|rfl|rfl)<;>simp
   all_goals simp[hcx]
  ·have key:=fun Pb A g9 g52=>an1 (C:=C) (Q:=aC 3 (aQ (gn C (.ops iu) Q) Q)) (tm:=Pb) A vH k0 kp.lt sol g9 g52 (fun ay h' nx' hb A' low n=>fin ay h' nx' hb A' low n);simp only[Pu,Dy,bM,cz]at key;refine key _ (A2 _ ?_) ?_ ?_
   ·rintro k (rfl|rfl|rfl|rfl|rfl)<;>simp
   all_goals simp
theorem arc{ev:AV}{l:List Ev}(hv:gI 8 eE ev l)(hl:Wc l)(h:T ah)(nx:Key):aG C mU [ev] h nx (avq l h nx):=by
 have ajR:=hl.len;have s1:=kTSu nx;refine S.I5.call ?_;simp[Fp];simp[Hf];simp[Hg];simp[Hh];have CU:∀{c:AV} {h':T ah} {nx':Key} {s:Sc} {i:Nat},scan 0 sc0 l=scan i s []→Gro c s.ops h' nx' nx→Ext h nx h' nx'→avq l h nx (.ret (.tuple [c,I 0])) h' nx':=by intro c h' nx' s i hs g e;obtain⟨h1,h2⟩:=aqj hs;refine⟨⟨c,by rw[h1];rfl,?_⟩,e⟩;rw[if_pos h1,h2];exact g
 rcases hv with⟨rfl,rfl⟩|rfl
 ·simp;refine W.LB (W.of ?_);simp[xr];simp[xu];simp[xw];simp[vl];simp[vm];simp[vo];refine W.LB (W.of ?_);simp[lQ];simp[oH];simp[vp];exact CU (s:=sc0) (i:=0) rfl (.inl ⟨rfl,rfl⟩) (E0 h nx _)
 ·simp;refine W.dy (n:=l.length) (fun m ay h' nx'=>∃j b:Nat,m=l.length-j∧j≤l.length∧b≤j∧ae (K 0) ay=some (.sl (ag eE l) l.length 8 .any)∧ae (K 15) ay=some (.sl (ag eE l) l.length 8 .any)∧ae (K 16) ay=some (I l.length)∧ae (K 17) ay=some (I j)∧ae (K 4) ay=some (I b)∧Ext h nx h' nx') ?_ ?_
  ·exact⟨0,0,by simp,by omega,by omega,by simp,by simp,by simp,by simp,by simp,Ext.refl _ _⟩
  ·rintro m ef h1 bS ⟨j,b,rfl,hj,hb,g0,g15,g16,g17,g4,e1⟩;have s11:=kTSu bS;refine W.of ?_;simp[xr];simp[xu,g16,g17];refine⟨fun cD=>?_,fun Wl=>?_⟩
   ·have bW:j<l.length:=by omega
    have hlen:=cn.rows l;have h8:8≤l.length*8-j*8:=by omega
    have ec:=cn.at bW;have WT:(eE l[j]).all AV.aT=true:=wG.2 (cn.cell _);have he:List.take 8 (eE l[j])=eE l[j]:=rfl;have hl8:(eE l[j]).length=8:=rfl;have hk0:(eE l[j])[0]?=some (I l[j].kind):=rfl;have e2:=e1.trans (E0 h1 bS (.cells (eE l[j]) .fix));simp[Hi,g15,g17,bW,hlen,h8,ec,he,hl8,WT];by_cases k0:l[j].kind=0
    ·simp[xy,hl8,k0,eE];simp[Hj,g4];simp[xz,g17];rw[aB (by omega) (by omega),aB (by omega) (by omega)];exact⟨l.length-(j+1),by omega,j+1,rfl,by omega,b+1,by omega,g0,g15,g16,by omega,by omega,by simpa[eE,k0]using e2⟩
    ·simp[xy,hl8,bq k0,eE];simp[xz,g17];rw[aB (by omega) (by omega)];exact⟨l.length-(j+1),by omega,j+1,rfl,by omega,b,by omega,g0,g15,g16,by omega,g4,by simpa[eE]using e2⟩
   ·have ax1:¬(64:Int)<l.length:=by omega
    have ax2:¬(16:Int)<b:=by omega
    simp[xw,g0,g4,ax1,ax2];simp[vl];simp[vm];simp[vo,g0];have n1:=e1.n;refine W.dy (n:=l.length) (ScI l bS h nx) ?_ ?_
    ·refine⟨0,sc0,by simp,by omega,⟨by simp,by simp,by simp,by simp,⟨.nils,by simp,.inl ⟨rfl,rfl⟩⟩,by simp[JP,sc0],by omega,by omega⟩,kp0,rfl,e1.trans (E0 h1 bS _)⟩
    ·rintro m aJ h2 aN ⟨i,s,rfl,hi,A,kp,hs,e2⟩;by_cases Jx:i<l.length
     ·refine W.of (ahA S hl Jx A kp hs e2 ?_ ?_)
      ·intro ay h' nx' q2 q3 hv e';simp[q2,q3];exact⟨⟨.nils,rfl,.inl ⟨rfl,by rw[if_neg hv]⟩⟩,e'⟩
      ·intro ay h' nx' m hm hI;simp;exact⟨m,hm,hI⟩
     ·have LJ:i=l.length:=by omega
      subst LJ;obtain⟨a8,a35,a36,a37,⟨d7,a7,ayj⟩,ao,ab0,ab1⟩:=A;refine W.of ?_;simp[lQ];simp[oH,a36,a37];simp[vp,a7];rw[List.drop_length]at hs;exact CU hs ayj e2
end Ln
namespace Ln
open Go.Sx Go
variable{C:bQ}{X:Kn}(S:Std C X)
include S
def ClI(l:List U)(b:Key)(h:T ah)(nx:Key)(m:Nat)(ay:T AV)(h':T ah)(nx':Key):Prop:=∃(j:Nat) (ls:List U),m=l.length-j∧j≤l.length∧ls.length=l.length∧ls.take j=l.take j∧
 ae (K 0) ay=some (.sl (ag eU l) l.length 4 .any)∧ae (K 1) ay=some (.fn gh [] [])∧ae (K 5) ay=some (.slice b 0 l.length 4)∧ae (K 14) ay=some (I l.length)∧ae (K 15) ay=some (I j)∧ae b h'=some (.cells (ag eU ls) .fix)∧(∀k:Key,k.toNat<b.toNat→ae k h'=ae k h)∧nx'=nx
theorem akt(l:List U)(hl:l.length≤1000):YO C iK [aL l,.fn gh [] []] (·=.ret (aL l)):=by
 intro h nx;have s1:=kTSu nx;have rc:C.raw gh=false:=S.nr (by decide);refine S.zG.call ?_;simp[uN];simp[xU];have dQ:aL l=.nils∧l=[]∨aL l=.sl (ag eU l) l.length 4 .any∧l≠[]:=by
  cases l with
  |nil=>exact .inl ⟨rfl,rfl⟩
  |cons a t=>exact .inr ⟨rfl,by simp⟩
 rcases dQ with⟨e,rfl⟩|⟨e,bX⟩
 ·simp[pM,e];simp[xV];exact Ext.refl _ _
 ·have h0:l.length≠0:=by simpa using bX
  have ON:((l.length:Int)==0)=false:=bq (by omega);have hm:l.length≤1048576:=by omega
  simp[pM,e,ON,h0];have hz:(List.replicate l.length [I 0,I 0,.str 0 0,.nils]).flatten=ag eU (List.replicate l.length ⟨0,0⟩):=by unfold ag;rw[List.flatMap_def,List.map_replicate];rfl
  simp[xW,hm,hz];simp[xX];refine W.dy (n:=l.length) (ClI l nx h nx.succ) ?_ ?_
  ·exact⟨0,List.replicate l.length ⟨0,0⟩,by simp,by omega,by simp,by simp,by simp,by simp,by simp,by simp,by simp,by simp,fun k hk=>ax hk,rfl⟩
  ·rintro m ef h1 bS ⟨j,ls,rfl,hj,hls,HO,g0,g1,g5,g14,g15,gb,akn,rfl⟩;refine W.of ?_;simp[xY];simp[xZ,g14,g15];refine⟨fun cD=>?_,fun Wl=>?_⟩
   ·have bW:j<l.length:=by omega
    have hr:=qY.rows l;have QM:=qY.rows ls;have h4:4≤l.length*4-j*4:=by omega
    have ec:=qY.at bW;have he:List.take 4 (eU l[j])=eU l[j]:=rfl;have hl4:(eU l[j]).length=4:=rfl;have hz:∀H,aM 9999 (.agg (eU l[j])) H=(.agg (eU l[j]),H):=fun H=>by simp[eU]
    have hjs:j<ls.length:=by omega
    have hp:=qY.put hjs l[j];have h44:j*4+4≤l.length*4:=by omega
    simp[x0,g15];simp[x4,g0,g1,g5,bW,hr,h4,ec,he,hl4,rc,hz];refine aG.known (v:=.agg (eU l[j])) (S.s_Clone ⟨l[j].k,l[j].n,[]⟩ (by simp) _ _) ?_;simp[g0,g1,g5,bW,gb,QM,hls,h44,hl4,hp];simp[x8,g15];rw[aB (by omega) (by omega)];refine⟨l.length-(j+1),by omega,j+1,ls.set j l[j],rfl,by omega,by simpa using hls,?_,by simp[g0],by simp[g1],by simp[g5],by simp[g14],by simp,by simp,fun k hk=>?_,rfl⟩
    ·have q:(ls.set j l[j]).take j=ls.take j:=by rw[List.take_set];exact List.set_eq_of_length_le (by simp;omega)
     rw[zqu bW,zqu (by simpa using hjs),q,HO,List.getElem_set_self]
    ·rw[ax hk];exact akn k hk
   ·have bW:j=l.length:=by omega
    subst bW;rw[List.take_length,RL (by omega)]at HO;subst HO;simp[x9,g5];have hf:=AP (n:=9998) gb (qY.rows ls) (qY.yo ls);simp only[hf];refine⟨trivial,?_⟩;exact⟨by omega,fun k hk=>by rw[ax hk];exact akn k hk⟩
theorem ajA(l:List U)(hl:l.length≤1000):YO C mV [aL l] (·=.ret (aL l)):=by intro h nx;have rc:C.raw iK=false:=S.nr (by decide);have hf:∀n H,aM n (aL l) H=(aL l,H):=dM l;refine S.IN.call ?_;simp[Ff];simp[Gt];simp[Gu,rc,hf];refine(akt S l hl _ _).mono ?_;rintro o h1 bS ⟨rfl,e1⟩;simp[hf];exact e1
end Ln
namespace Ln
open Go.Sx Go
variable{C:bQ}{X:Kn}(S:Std C X)
omit S in
theorem Qa:∀(l:List Ev) (o:Op) (i:Nat),(follow o i l).args=o.args
 | [],o,i=>rfl
 |x ::l,o,i=>by show(follow (pQ i x o) (i+1) l).args=_;rw[Qa l];unfold pQ;(repeat' split)<;>rfl
theorem XT{n:Nat}:∀{l:List Ev} {i:Nat},(∀x∈l,x.args.length≤n)→∀o∈cT i l,o.args.length≤n
 | [],i,_,o,ho=>by simp[cT]at ho
 |x ::l,i,h,o,ho=>by
  simp only[cT,List.mem_append]at ho;rcases ho with ho|ho
  ·split at ho
   ·simp at ho;subst ho;rw[Qa];exact h x (by simp)
   ·simp at ho
  ·exact XT (fun x hx=>h x (by simp[hx])) o ho
def OpI(os:List Op)(code:Int)(b n0:Key)(h:T ah)(nx:Key)(m:Nat)(ay:T AV)(h':T ah)(nx':Key):Prop:=∃j:Nat,m=os.length-j∧j≤os.length∧ae (K 4) ay=some (.slice b 0 os.length 10)∧ae (K 5) ay=some (I code)∧ae (K 13) ay=some (I os.length)∧ae (K 14) ay=some (I j)∧
 ae b h'=some (.cells (ag eO os) .part)∧b.toNat<nx'.toNat∧Ext h nx h' nx'
include S
theorem ahL{ev:AV}{l:List Ev}(hv:gI 8 eE ev l)(hl:Wc l):YO C lR [ev] (arb l):=by
 intro h nx;have s1:=kTSu nx;have rs:C.raw mU=false:=S.nr (by decide);have rc:C.raw mV=false:=S.nr (by decide);have rv:C.raw gh=false:=S.nr (by decide);have hz:aM 9999 ev h=(ev,h):=hv.r7 _ _;refine S.Ka.call ?_;simp[HU];simp[HV];simp[HW,rs,hz];refine(arc S hv hl _ _).mono ?_;rintro o h1 bS ⟨⟨c,rfl,gro⟩,e1⟩;have dQ:∀o∈(if bu [] l=0 then cT 0 l else []),o.args.length≤1000:=by
  intro o ho;split at ho
  ·exact XT hl.args o ho
  ·simp at ho
 simp;unfold arb;have yN:(if bu [] l=0 then cT 0 l else []).length≤16:=by
  split
  ·have:=yO l 0;have:=hl.len;omega
  ·simp
 generalize (if bu [] l=0 then cT 0 l else [])=os at *;generalize gp (bu [] l)=code at *;rcases gro with⟨rfl,rfl⟩|⟨b,rfl,hb,ON,EJ⟩
 ·simp[yP];refine W.LB (W.of ?_);simp[yQ];simp[yR];simp[yS];exact⟨.inl ⟨rfl,rfl⟩,e1⟩
 ·simp[yP];refine W.dy (n:=os.length) (OpI os code b nx h1 bS) ?_ ?_
  ·exact⟨0,by simp,by omega,by simp,by simp,by simp,by simp,hb,EJ,Ext.refl _ _⟩
  ·rintro m ef h2 aN ⟨j,rfl,hj,g4,g5,g13,g14,gb,aE1,e2⟩;refine W.of ?_;simp[yQ];simp[yR,g13,g14];refine⟨fun cD=>?_,fun Wl=>?_⟩
   ·have bW:j<os.length:=by omega
    have hr:=fP.rows os;have ec:=fP.at bW;have hax:=dQ _ (OA bW);have ha:((ag eO os))[j*10+5]?=some (aL os[j].args):=by have:=congrArg (fun l=>l[5]?) ec;rw[List.getElem?_take,List.getElem?_drop]at this;simpa[eO]using this
    have ha2:∀hh,(ag eO os)[j*10+5]'hh=aL os[j].args:=fun hh=>by have q:=yT hh;rw[ha]at q;exact(Option.some.inj q).symm
    have RF:List.take 4 (List.drop (j*10+6) (ag eO os))=eU os[j].res:=by have:=congrArg (fun l=>List.take 4 (List.drop 6 l)) ec;simp only[List.drop_take,List.drop_drop,List.take_take]at this;simpa[eO,eU]using this
    have hz1:∀n H,aM n (aL os[j].args) H=(aL os[j].args,H):=dM _;have hz2:∀H,aM 9999 (.agg (eU os[j].res)) H=(.agg (eU os[j].res),H):=fun H=>by simp[eU]
    have p1:=fP.yU (l:=os) (j:=j) (off:=5) (vs:=[aL os[j].args]) (y:=os[j]) bW (by simp) rfl;have p2:=fP.yU (l:=os) (j:=j) (off:=6) (vs:=eU os[j].res) (y:=os[j]) bW (by simp[eU]) rfl;have Tr:os.set j os[j]=os:=List.set_getElem_self bW;rw[Tr]at p1 p2;simp[eU]at p1 p2;have CB:j*10+5<os.length*10:=by omega
    have SU:j*10+5+1≤os.length*10:=by omega
    have Wd:j*10+6+4≤os.length*10:=by omega
    have h4':4≤os.length*10-(j*10+6):=by omega
    have ac:=bH os[j].args;simp[HX,g14];simp[HY,g4,bW,gb,hr,ha2,CB,rc,hz1];refine(ajA S _ hax _ _).mono ?_;rintro o h3 bY ⟨rfl,e3⟩;have gb3:ae b h3=some (.cells (ag eO os) .part):=by rw[e3.g b aE1];exact gb
    simp[g4,bW,gb3,hr,SU,ac.1,ac.2,p1];simp[HZ,g4,bW,gb3,hr,RF,h4',rv,hz2];refine aG.known (v:=.agg (eU os[j].res)) (S.s_Clone ⟨os[j].res.k,os[j].res.n,[]⟩ (by simp) _ _) ?_;simp[g4,bW,gb3,hr,Wd,eU,p2];simp[H0,g14];rw[aB (by omega) (by omega)];have n3:=e3.n;have n2:=e2.n;refine⟨os.length-(j+1),by omega,j+1,rfl,by omega,by simp[g4],by simp[g5],by simp[g13],by simp,by simp,by omega,?_⟩;refine⟨by omega,fun k hk=>?_⟩;by_cases hkb:k=b
    ·subst hkb;simp[hb]
    ·rw[aU _ _ _ _ hkb,e3.g k (by omega)];exact e2.g k hk
   ·simp[yS,g4,g5];have hf:=CC (n:=9998) gb (fP.rows os) (fP.yo os);simp only[hf];refine⟨.inr rfl,?_⟩;have Wm:=e1.trans e2;exact⟨Wm.n,fun k hk=>by rw[ax (by omega)];exact Wm.g k hk⟩
end Ln
namespace Ln
open Go.Sx Go
def eI(n:Int):List AV:=[I n]
theorem FO:Flat 1 eI where
 len _:=rfl
 r7 x y hy:=by simp[eI]at hy;subst hy;exact dA _ _
 cell x y hy:=by simp[eI]at hy;subst hy;rfl
 lits x:=by simp[eI,AV.iA,AV.lits,I]
theorem mX(l:List Int):(ag eI l).length=l.length:=by rw[FO.rows];omega
theorem aed:∀l:List Int,ag eI l=l.map I
 | []=>rfl
 |a ::t=>by rw[dE,aed t];rfl
theorem abF{l:List Int}{i:Nat}(hi:i<l.length):(ag eI l)[i]?=some (I l[i]):=by rw[aed];simp[hi]
@[simp] theorem az4{l:List Int}{i:Nat}(hh:i<(ag eI l).length):(ag eI l)[i]=I (l[i]'(by rw[mX]at hh;exact hh)):=by
 have h1:i<l.length:=by rw[mX]at hh;exact hh
 have:=yT hh;rw[abF h1]at this;exact(Option.some.inj this).symm
theorem Jy{l:List Int}{i:Nat}(hi:i<l.length):List.take 1 (List.drop i (ag eI l))=[I l[i]]:=by have:=FO.at hi;rw[Nat.mul_one]at this;exact this
def Ord(c:AV)(l:List Int)(n:Nat)(h:T ah)(nx:Key):Prop:=n≤l.length∧((c=.nils∧n=0)∨(∃f,c=.sl (ag eI (l.take n)) n 1 f)∨∃(b:Key) (k:CK),c=.slice b 0 n 1∧ae b h=some (.cells (ag eI l) k)∧b.toNat<nx.toNat)
theorem Ord.ext{c:AV}{l:List Int}{n:Nat}{h h':T ah}{nx nx':Key}(o:Ord c l n h nx)(e:Ext h nx h' nx'):Ord c l n h' nx':=by
 obtain⟨h0,o⟩:=o;refine⟨h0,?_⟩;rcases o with o|o|⟨b,k,h1,h2,h3⟩
 ·exact .inl o
 ·exact .inr (.inl o)
 ·exact .inr (.inr ⟨b,k,h1,by rw[e.g b h3];exact h2,by have:=e.n;omega⟩)
variable{C:bQ}{X:Kn}(S:Std C X)
include S
theorem VQ(a b:Op):YO C kg [.agg (eO a),.agg (eO b)] (·=.ret (.bool (before a b))):=by
 intro h nx;have s1:=kTSu nx;have s2:=kTSu nx.succ;have ac1:=bH a.args;have ac2:=bH b.args;refine S.I7.call ?_;simp[Fv];simp[HB,eO,ac1.1,ac2.1];have e1:=(E0 h nx (.cells (eO a) .fix)).trans (E0 _ nx.succ (.cells (eO b) .fix));simp[eO]at e1;have qx:before a b=(decide (0≤a.e)&&decide (a.e<b.b)||decide (0≤a.lost)&&decide (a.lost<b.b)):=by unfold before;rw[Bool.eq_iff_iff];simp
 by_cases h1:a.e<0
 ·by_cases h2:a.lost<0
  ·simp[fN,h1,h2];exact⟨by rw[qx];simp;omega,e1⟩
  ·by_cases h3:a.lost<b.b
   ·simp[fN,h1,h2,h3];exact⟨by rw[qx];simp;omega,e1⟩
   ·simp[fN,h1,h2,h3];exact⟨by rw[qx];simp;omega,e1⟩
 ·by_cases h4:a.e<b.b
  ·simp[fN,h1,h4];exact⟨by rw[qx];simp;omega,e1⟩
  ·by_cases h2:a.lost<0
   ·simp[fN,h1,h4,h2];exact⟨by rw[qx];simp;omega,e1⟩
   ·by_cases h3:a.lost<b.b
    ·simp[fN,h1,h4,h2,h3];exact⟨by rw[qx];simp;omega,e1⟩
    ·simp[fN,h1,h4,h2,h3];exact⟨by rw[qx];simp;omega,e1⟩
theorem Vv(a b:Op):YO C ic [.agg (eO a),.agg (eO b)] (·=.ret (.bool (before a b))):=by
 intro h nx;have s1:=kTSu nx;have s2:=kTSu nx.succ;have ac1:=bH a.args;have ac2:=bH b.args;refine S.DN.call ?_;simp[zK];simp[BG,eO,ac1.1,ac2.1];have e1:=(E0 h nx (.cells (eO a) .fix)).trans (E0 _ nx.succ (.cells (eO b) .fix));simp[eO]at e1;have qx:before a b=(decide (0≤a.e)&&decide (a.e<b.b)||decide (0≤a.lost)&&decide (a.lost<b.b)):=by unfold before;rw[Bool.eq_iff_iff];simp
 by_cases h1:a.e<0
 ·by_cases h2:a.lost<0
  ·simp[dT,h1,h2];exact⟨by rw[qx];simp;omega,e1⟩
  ·by_cases h3:a.lost<b.b
   ·simp[dT,h1,h2,h3];exact⟨by rw[qx];simp;omega,e1⟩
   ·simp[dT,h1,h2,h3];exact⟨by rw[qx];simp;omega,e1⟩
 ·by_cases h4:a.e<b.b
  ·simp[dT,h1,h4];exact⟨by rw[qx];simp;omega,e1⟩
  ·by_cases h2:a.lost<0
   ·simp[dT,h1,h4,h2];exact⟨by rw[qx];simp;omega,e1⟩
   ·by_cases h3:a.lost<b.b
    ·simp[dT,h1,h4,h2,h3];exact⟨by rw[qx];simp;omega,e1⟩
    ·simp[dT,h1,h4,h2,h3];exact⟨by rw[qx];simp;omega,e1⟩
end Ln
namespace Ln
open Go.Sx Go
variable{C:bQ}{X:Kn}(S:Std C X)
include S
end Ln
namespace Ln
open Go.Sx Go
variable{C:bQ}{X:Kn}(S:Std C X)
include S
end Ln
namespace Ln
open Go.Sx Go
variable{C:bQ}{X:Kn}(S:Std C X)
include S
end Ln
namespace Ln
open Go.Sx Go
variable{C:bQ}{X:Kn}(S:Std C X)
include S
end Ln
namespace Ln
open Go.Sx Go
theorem Ord.cases{c:AV}{l:List Int}{h:T ah}{nx:Key}(o:Ord c l l.length h nx):(c=.nils∧l=[])∨(∃f,c=.sl (ag eI l) l.length 1 f)∨∃(b:Key) (k:CK),c=.slice b 0 l.length 1∧ae b h=some (.cells (ag eI l) k)∧b.toNat<nx.toNat:=by
 obtain⟨_,oc⟩:=o;rcases oc with⟨e,h0⟩|⟨f,e⟩|e
 ·exact .inl ⟨e,zqr h0⟩
 ·rw[List.take_length]at e;exact .inr (.inl ⟨f,e⟩)
 ·exact .inr (.inr e)
variable{C:bQ}{X:Kn}(S:Std C X)
include S
end Ln
namespace Ln
open Go.Sx Go
theorem ait(z:Op)(H:T ah):bG (aM 9998) (eO z) H=(eO z,H):=bT (fP.r7 _)
theorem QS(z:Op):List.take 10 (eO z)=eO z:=rfl
theorem ZE(z:Op):(eO z).length=10:=rfl
variable{C:bQ}{X:Kn}(S:Std C X)
include S
end Ln
namespace Ln
open Go.Sx Go
variable{C:bQ}{X:Kn}(S:Std C X)
include S
end Ln
namespace Ln
open Go.Sx Go
variable{C:bQ}{X:Kn}(S:Std C X)
include S
end Ln
namespace Ln
open Go.Sx Go
def GL(i:Nat)(name:Nat×Nat):Int:=match (aK i).findIdx? fun c=>c.name==name with
 |some t=>t
 |none=>-1
theorem Yx(i:Nat):(aK i).length≤3:=by unfold aK;split<;>simp
theorem aiR{i:Nat}{name:Nat×Nat}(h:∀(t:Nat) (ht:t<(aK i).length),(aK i)[t].name≠name):GL i name=-1∧nv i name=none:=by
 have h1:(aK i).findIdx? (fun c=>c.name==name)=none:=by rw[List.findIdx?_eq_none_iff];intro c hc;obtain⟨t,ht,rfl⟩:=List.getElem_of_mem hc;simpa using h t ht
 have h2:(aK i).find? (fun c=>c.name==name)=none:=by rw[List.find?_eq_none];intro c hc;obtain⟨t,ht,rfl⟩:=List.getElem_of_mem hc;simpa using h t ht
 exact⟨by unfold GL;rw[h1],h2⟩
theorem aiQ{i t:Nat}{name:Nat×Nat}(ht:t<(aK i).length)(h:∀(s:Nat) (hs:s<(aK i).length),s<t→(aK i)[s].name≠name)(he:(aK i)[t].name=name):GL i name=t∧nv i name=some (aK i)[t]:=by
 have h1:(aK i).findIdx? (fun c=>c.name==name)=some t:=by rw[List.findIdx?_eq_some_iff_getElem];exact⟨ht,by simpa using he,fun s hs=>by simpa using h s (by omega) hs⟩
 have h2:(aK i).find? (fun c=>c.name==name)=some (aK i)[t]:=by rw[List.find?_eq_some_iff_getElem];refine⟨by simpa using he,t,ht,rfl,fun s hs=>?_⟩;simpa using h s (by omega) hs
 exact⟨by unfold GL;rw[h1],h2⟩
def lY(i:Nat):List Op→Int
 | []=>0
 |o ::l=>match nv i o.name with
  |none=>6
  |some c=>if o.args.length=c.ar then lY i l else 1
theorem Z2{i:Nat}:∀{l:List Op},lY i l=0→∀o∈l,∃c,nv i o.name=some c∧o.args.length=c.ar
 | [],_,o,ho=>by simp at ho
 |x ::l,h,o,ho=>by
  unfold lY at h;cases hc:nv i x.name with
  |none=>rw[hc]at h;simp at h
  |some c=>
   rw[hc]at h;simp only at h;by_cases ha:x.args.length=c.ar
   ·rw[if_pos ha]at h;rcases OG.1 ho with rfl|ho
    ·exact⟨c,hc,ha⟩
    ·exact Z2 h o ho
   ·rw[if_neg ha]at h;simp at h
variable{C:bQ}{X:Kn}(S:Std C X)
include S
theorem Ti{i t:Nat}(ht:t<(aK i).length):List.take 23 (List.drop (t*23) (ag (X.cmd i) (List.range (aK i).length)))=X.cmd i t:=by have:=(S.ok.Xa i).at (l:=List.range (aK i).length) (i:=t) (by simpa using ht);simpa using this
theorem Tj{i:Nat}:(ag (X.cmd i) (List.range (aK i).length)).length=(aK i).length*23:=by have:=(S.ok.Xa i).rows (List.range (aK i).length);simpa using this
theorem aB7{i t:Nat}(hi:i<3)(ht:t<(aK i).length)(o:Op){h:T ah}{nx b:Key}{k:CK}(hb:ae b h=some (.cells (eO o) k))(EJ:b.toNat<nx.toNat):aG C fD [.agg (X.cmd i t),.ptr b 0] h nx (fun out h' nx'=>out=.ret (.bool (decide ((aK i)[t].name=o.name)))∧Ext h nx h' nx'):=by
 have s1:=kTSu nx;have h0:=S.ok.aBG i hi t _ (yT ht);have hl:=(S.ok.Xa i).len t;have hc:(X.cmd i t).all AV.aT=true:=wG.2 ((S.ok.Xa i).cell t);have Ii:ae b (aw nx (some (.cells (X.cmd i t) .fix)) h)=some (.cells (eO o) k):=by rw[ax EJ];exact hb
 refine S.Bt.call ?_;simp[xc];simp[zQ,hc];generalize (aK i)[t]=c at *;rcases hn:c.name with⟨n1,n2⟩
 rcases hm:o.name with⟨m1,m2⟩
 rw[hn]at h0;have h0':∀hh,(X.cmd i t)[0]'hh=.str n1 n2:=fun hh=>by have q:=yT hh;rw[h0]at q;exact(Option.some.inj q).symm
 simp[zR,h0',hl,Ii,eO,hm];exact E0 h nx _
end Ln
namespace Ln
open Go.Sx Go
variable{C:bQ}{X:Kn}(S:Std C X)
include S
abbrev aoS(X:Kn)(i:Nat):AV:=.sl (ag (X.cmd i) (List.range (aK i).length)) (aK i).length 23 .any
theorem axG(i t:Nat)(H:T ah):bG (aM 9998) (X.cmd i t) H=(X.cmd i t,H):=bT ((S.ok.Xa i).r7 t)
omit S in
theorem aiP{i j:Nat}{name:Nat×Nat}(hj:j<(aK i).length)(h:∀(s:Nat) (hs:s<(aK i).length),s<j→(aK i)[s].name≠name)(hn:(aK i)[j].name≠name):∀(s:Nat) (hs:s<(aK i).length),s<j+1→(aK i)[s].name≠name:=by
 intro s hs Yh;by_cases e:s=j
 ·subst e;exact hn
 ·exact h s hs (by omega)
def IxI(i:Nat)(o:Op)(b:Key)(X:Kn)(h:T ah)(nx:Key)(m:Nat)(ay:T AV)(h':T ah)(nx':Key):Prop:=∃j:Nat,m=(aK i).length-j∧j≤(aK i).length∧ae (K 0) ay=some (aoS X i)∧ae (K 1) ay=some (.fn fD [] [.ptr b 0])∧ae (K 7) ay=some (I (aK i).length)∧ae (K 8) ay=some (I j)∧Ext h nx h' nx'∧∀(s:Nat) (hs:s<(aK i).length),s<j→(aK i)[s].name≠o.name
theorem aoT{i:Nat}(hi:i<3)(o:Op){h:T ah}{nx b:Key}{k:CK}(hb:ae b h=some (.cells (eO o) k))(EJ:b.toNat<nx.toNat):aG C cd [aoS X i,.fn fD [] [.ptr b 0]] h nx (fun out h' nx'=>out=.ret (I (GL i o.name))∧Ext h nx h' nx'):=by
 have hn3:=Yx i;have rc:C.raw fD=false:=S.nr (by decide);refine S.iL.call ?_;simp[fE];simp[gW];simp[gX];refine W.dy (n:=(aK i).length) (IxI i o b X h nx) ⟨0,by simp,by omega,by simp,by simp,by simp,by simp,Ext.refl _ _,fun s _ hs=>absurd hs (by omega)⟩ ?_;rintro m ef h1 bS ⟨j,rfl,hj,g0,g1,g7,g8,e1,sx⟩;refine W.of ?_;simp[gY];by_cases bW:j<(aK i).length
 ·have v7:(j:Int)<(aK i).length:=by omega
  have ec:=Ti S bW;have hr:=Tj S (i:=i);have hl:=(S.ok.Xa i).len j;have t23:23≤(aK i).length*23-j*23:=by omega
  have ht:List.take 23 (X.cmd i j)=X.cmd i j:=RL (by omega);simp[dY,g7,g8,v7];simp[gZ,g8];simp[hJ,g0,g1,bW,hr,t23,ec,hl,ht,rc,axG S];refine(aB7 S hi bW o (by rw[e1.g b EJ];exact hb) (by have:=e1.n;omega)).mono ?_;rintro out h2 aN ⟨rfl,e2⟩;by_cases hn:(aK i)[j].name=o.name
  ·simp[hn];simp[hN];exact⟨(aiQ bW sx hn).1.symm,e1.trans e2⟩
  ·simp[hn];simp[hU,g8];rw[aB (by omega) (by omega)];exact⟨(aK i).length-(j+1),by omega,j+1,rfl,by omega,by simp[g0],by simp[g1],by simp[g7],by simp,e1.trans e2,aiP bW sx hn⟩
 ·have xM:j=(aK i).length:=by omega
  subst xM;simp[dY,g7,g8];simp[ia];exact⟨(aiR (fun s hs=>sx s hs hs)).1.symm,e1⟩
def CmI(i:Nat)(name:Nat×Nat)(X:Kn)(b:Key)(h:T ah)(nx:Key)(m:Nat)(ay:T AV)(h':T ah)(nx':Key):Prop:=∃j:Nat,m=(aK i).length-j∧j≤(aK i).length∧ae (K 1) ay=some (.str name.1 name.2)∧ae (K 2) ay=some (.ptr b 0)∧ae (K 5) ay=some (I j)∧h'=h∧nx'=nx∧∀(s:Nat) (hs:s<(aK i).length),s<j→(aK i)[s].name≠name
theorem afz{i:Nat}(hi:i<3)(name:Nat×Nat):YO C lI [.agg (X.dec i),.str name.1 name.2] (·=.ret (I (GL i name))):=by
 intro h nx;have hn3:=Yx i;have d45:=S.ok.acf i hi;have dC:(X.dec i).all AV.aT=true:=wG.2 (S.ok.asp i hi);have d36:=S.ok.aot i hi;have DF:∀hh,(X.dec i)[36]'hh=aoS X i:=fun hh=>by have q:=yT hh;rw[d36]at q;exact(Option.some.inj q).symm
 refine S.GM.call ?_;simp[Cc];simp[DG,dC];simp[DH];have hb:ae nx (aw nx (some (.cells (X.dec i) .fix)) h)=some (.cells (X.dec i) .fix):=by simp
 have he:=E0 h nx (.cells (X.dec i) .fix);generalize aw nx (some (.cells (X.dec i) .fix)) h=H at hb he ⊢;refine W.dy (n:=(aK i).length) (CmI i name X nx H nx.succ) ⟨0,by simp,by omega,by simp,by simp,by simp,rfl,rfl,fun s _ hs=>absurd hs (by omega)⟩ ?_;rintro m ef h1 bS ⟨j,rfl,hj,g1,g2,g5,rfl,rfl,sx⟩;refine W.of ?_;simp[DI];by_cases bW:j<(aK i).length
 ·have v7:(j:Int)<(aK i).length:=by omega
  have ec:=Ti S bW;have hr:=Tj S (i:=i);have hl:=(S.ok.Xa i).len j;have t23:23≤(aK i).length*23-j*23:=by omega
  have h0:=S.ok.aBG i hi j _ (yT bW);have hnm:=fun h=>aiQ bW sx h;have ei:=fun h=>aiP bW sx h;generalize (aK i)[j]=c at *;obtain⟨m1,m2⟩:=name;rcases hcn:c.name with⟨n1,n2⟩
  rw[hcn]at h0 hnm ei;have h0':∀hh,(X.cmd i j)[0]'hh=.str n1 n2:=fun hh=>by have q:=yT hh;rw[h0]at q;exact(Option.some.inj q).symm
  simp[uZ,g2,g5,hb,DF,d45,v7];by_cases hn:n1=m1∧n2=m2
  ·obtain⟨rfl,rfl⟩:=hn;simp[u5,g1,g2,g5,hb,DF,d45,bW,hr,t23,ec,hl,h0'];simp[DJ,g5];exact⟨(hnm rfl).1.symm,he⟩
  ·simp[u5,g1,g2,g5,hb,DF,d45,bW,hr,t23,ec,hl,h0',hn];simp[DK,g5];rw[aB (by omega) (by omega)];exact⟨(aK i).length-(j+1),by omega,j+1,rfl,by omega,by simp[g1],by simp[g2],by simp,rfl,rfl,ei (by simpa using hn)⟩
 ·have xM:j=(aK i).length:=by omega
  subst xM;simp[uZ,g2,g5,hb,DF,d45];simp[DL];exact⟨(aiR (fun s hs=>sx s hs hs)).1.symm,he⟩
end Ln
