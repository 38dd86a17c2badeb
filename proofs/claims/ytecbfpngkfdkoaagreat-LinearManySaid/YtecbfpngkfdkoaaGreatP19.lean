/- A part of the proof. No condition. -/
import Derived.Test.YtecbfpngkfdkoaaGreatP9
import Derived.Test.YtecbfpngkfdkoaaGreatP11
import Derived.Test.YtecbfpngkfdkoaaGreatP6
set_option linter.unusedSimpArgs false
set_option linter.unusedVariables false
set_option linter.unusedSectionVars false
namespace Ln
open Go.Sx Go
structure FnR(C:bK)(f:Nat)(p:ej):Prop where
 get:Fl C f=some p
 off:∀l h nx,C.sum f l h nx=none
 kY:C.kY f=true
def Tw(f:Nat):Bool:=Nat.beq f 75||Nat.beq f 67||Nat.beq f 63
structure Std(C:bK)(X:Kn):Prop where
 orc:C.orc=[]
 raw:∀f,C.raw f=Tw f
 ok:X.Ok
 w7:Fn C gn r8
 lu:FnR C cX ir
 Fk:Fn C kV B7
 yJ:Fn C hZ tY
 Kv:Fn C pY IW
 Dc:Fn C gP cmp_isNaN_int
 AP:Fn C fV xb
 Hc:Fn C mO Ei
 z8:Fn C iO wJ
 FD:FnR C kU Cc
 wy:Fn C nP rh
 Dd:Fn C jP zj
 FE:Fn C lx Cd
 JB:Fn C pw IE
 HG:Fn C jZ E6
 Ap:Fn C eM wS
 AQ:Fn C eP xc
 FG:Fn C lp Ce
 yK:Fn C ed tZ
 AR:Fn C eN xd
 ov:Fn C bX j7
 oD:Fn C dM j9
 qF:Fn C eH mI
 qH:Fn C eJ mL
 iv:Fn C bS jC
 qg:Fn C eb ly
 tv:Fn C cV nX
 Fo:Fn C gh B8
 zO:Fn C iN wu
 Db:Fn C jQ zm
 Kw:Fn C pZ IY
 FH:Fn C iV Cj
 Ku:Fn C qa IZ
 Mo:Fn C ta Lp
 HZ:Fn C mR Fx
 Kx:Fn C qc I0
 FI:Fn C lz Ck
 J9:Fn C lQ IL
 Qj:Fn C jD P9
 Ky:Fn C js I1
 H0:Fn C mU Fy
 yL:Fn C ia ua
 FJ:Fn C gj Cl
 CZ:Fn C jN zh
 Fw:Fn C gk Cb
 De:FnR C ft zn
 CU:Fn C jK zg
 MW:Fn C gZ LX
 MF:Fn C lj Ly
 Kz:Fn C qd I3
 gp:Fn C bH ef
 ei:Fn C aX cw
 s_InitP:∀i,i=2→∀h nx,C.sum Co [X.m,fE i,X.lim] h nx=some (.tuple [.agg (eS (bZ i)),I X.TZ],h,nx)
 s_CanP:∀c s o,onC c o→gV c.x8 s→∀h nx,C.sum Fj [X.m,fE c.x8,.str c.name.1 c.name.2,.agg (eS s),aK o.args,X.lim] h nx=some (.tuple [.bool (X.OL c s o.args),I (X.OM c s o.args)],h,nx)
 s_NextP:∀c s o,onC c o→gV c.x8 s→∀h nx,C.sum B0 [X.m,fE c.x8,.str c.name.1 c.name.2,.agg (eS s),aK o.args,.agg (eU o.res),X.lim] h nx=some (.tuple [.agg (eS (X.qB c s o.args o.res)),I (X.we c s o.args o.res)],h,nx)
 s_InitR:∀i,i=2→∀h nx,C.sum Cp [X.m,fE i,X.lim] h nx=some (.tuple [.agg (eS (bZ i)),I X.TZ],h,nx)
 s_CanR:∀c s o,onC c o→gV c.x8 s→∀h nx,C.sum Fv [X.m,fE c.x8,.str c.name.1 c.name.2,.agg (eS s),aK o.args,X.lim] h nx=some (.tuple [.bool (X.OL c s o.args),I (X.OM c s o.args)],h,nx)
 s_NextR:∀c s o,onC c o→gV c.x8 s→∀h nx,C.sum Ca [X.m,fE c.x8,.str c.name.1 c.name.2,.agg (eS s),aK o.args,.agg (eU o.res),X.lim] h nx=some (.tuple [.agg (eS (X.qB c s o.args o.res)),I (X.we c s o.args o.res)],h,nx)
 s_parser_Decl:∀i,i=2→∀h nx,C.sum zq [X.m,I 4,fE i] h nx=some (.tuple [.agg (X.dec i),.bool true],h,nx)
 s_ref09_Decl:∀i,i=2→∀h nx,C.sum qh [X.m,I 4,fE i] h nx=some (.tuple [.agg (X.dec i),.bool true],h,nx)
 s_values_Valid:∀u,∀h nx,C.sum dq [.agg (eU u)] h nx=some (I (if oi u=true then 0 else 1),h,nx)
 s_values_Compare:∀s t:St,s.kids.length≤3→t.kids.length≤3→∀h nx,C.sum iP [.agg (eS s),.agg (eS t)] h nx=some (I (ig s t),h,nx)
 s_ref10_Valid:∀u,∀h nx,C.sum sR [.agg (eU u)] h nx=some (I (if oi u=true then 0 else 1),h,nx)
 s_ref10_Compare:∀s t:St,s.kids.length≤3→t.kids.length≤3→∀h nx,C.sum ub [.agg (eS s),.agg (eS t)] h nx=some (I (ig s t),h,nx)
 s_Equal:∀s t:St,s.kids.length≤3→t.kids.length≤3→∀h nx,C.sum zr [.agg (eS s),.agg (eS t)] h nx=some (.bool (decide (s=t)),h,nx)
 s_Clone:∀s:St,s.kids.length≤3→∀h nx,C.sum eR [.agg (eS s)] h nx=some (.agg (eS s),h,nx)
 s_Module:∀h nx,C.sum wx [] h nx=some (X.m,h,nx)
 s_lives:∀h nx,C.sum zt [] h nx=some (.bool true,h,nx)
theorem Std.rw{C:bK}{X:Kn}(S:Std C X){f:Nat}(h:Tw f=true):C.raw f=true:=by rw[S.raw,h]
theorem Std.nr{C:bK}{X:Kn}(S:Std C X){f:Nat}(h:Tw f=false):C.raw f=false:=by rw[S.raw,h]
theorem Std.r{C:bK}{X:Kn}(S:Std C X)(f:Nat)(h:Tw f=false:=by decide):C.raw f=false:=S.nr h
theorem aH.known{C:bK}{f:Nat}{l:List AV}{h:T ah}{nx:Key}{v:AV}{R:Out→T ah→Key→Prop}(hs:C.sum f l h nx=some (v,h,nx))(hR:R (.ret v) h nx):aH C f l h nx R:=.inl ⟨v,h,nx,hs,hR⟩
theorem bq{a b:Int}(h:a≠b):(a==b)=false:=by simpa using h
theorem bt{a b:Int}(h:a=b):(a==b)=true:=by simpa using h
variable{C:bK}{X:Kn}(S:Std C X)
include S
theorem anu(u:U):TN C qc [.agg (eU u)] (·=.ret (.bool (zU u))):=by
 intro h nx;obtain⟨k,n⟩:=u;have s1:=kTSu nx;refine S.Kx.call ?_;simp[I0];simp[Ia,eU];by_cases h1:k=0
 ·subst h1;by_cases h2:n=0
  ·subst h2;simp[sS,zU];exact E0 _ _ _
  ·simp[sS,bq h2,zU,h2];exact E0 _ _ _
 ·simp[sS,bq h1,zU,h1];exact E0 _ _ _
end Ln
namespace Ln
open Go.Sx Go
variable{C:bK}{X:Kn}(S:Std C X)
include S
theorem Vj{x:Ev}{R:Out→T ah→Key→Prop}{tm:T AV}{h:T ah}{nx nx0:Key}(hlen:x.args.length≤1000)(f1:ae (K 1) tm=some (.ptr nx0 0))(hb:ae nx0 h=Vv (eE x))
  (hR:R (.ret (I (if (x.args.all oi&&oi x.res)=true then 0 else 1))) h nx) :
  iH C (.seq (.seq (.ops jS) (.block 0 (.loop jT))) (.seq (.ops fW) .ret)) (dF [.tmp (K 2)] R) tm h nx:=by
 have rv:=S.r sR;obtain⟨kind,client,name,args,res⟩:=x;simp;simp[jS];have fin:∀tm:T AV,ae (K 1) tm=some (.ptr nx0 0)→args.all oi=true→iH C (.seq (.ops fW) .ret) (dF [.tmp (K 2)] R) tm h nx:=by intro tm g1 ha;simp;simp[fW,g1,hb,eE,rv];refine aH.known (S.s_ref10_Valid res _ _) ?_;simp;simpa[ha]using hR
 refine W.cM (n:=args.length) (fun m aw h' nx'=>∃j:Nat,m=args.length-j∧j≤args.length∧ae (K 1) aw=some (.ptr nx0 0)∧ae (K 4) aw=some (I j)∧h'=h∧nx'=nx∧(args.take j).all oi=true) ?_ ?_
 ·exact⟨0,by simp,by omega,by simp[f1],by simp,rfl,rfl,by simp⟩
 ·rintro m dD h1 bF ⟨j,rfl,hj,g1,g4,rfl,rfl,ha⟩;refine W.of ?_;simp[jT];cases args with
  |nil=>
   simp[ug,g1,g4,hb,eE,aK];have:j=0:=by simpa using hj
   subst this;simp;exact fin _ (by simp[g1]) (by simp)
  |cons a t=>
   simp[ug,g1,g4,hb,eE,aK];have ahH:t.length+1≤1000:=by simpa using hlen
   refine⟨fun bY=>?_,fun Rg=>?_⟩
   ·have bG:j<(a ::t).length:=by simp;omega
    have aEw:j<t.length+1:=by simpa using bG
    have hr:=wA.rows (a ::t);have ec:=wA.at bG;simp at hr;have h4:4≤(ag eU (a ::t)).length-j*4:=by omega
    simp[Ba,g1,g4,hb,eE,aK,ec,rv,aEw,h4];have hz:aN 9999 (.agg (eU (a ::t)[j])) h1=(.agg (eU (a ::t)[j]),h1):=by simp[eU]
    have he:List.take 4 (eU (a ::t)[j])=eU (a ::t)[j]:=rfl;have hl4:(eU (a ::t)[j]).length=4:=rfl;simp[he,hl4,hz];refine aH.known (S.s_ref10_Valid _ _ _) ?_;cases ho:oi (a ::t)[j]with
    |false=>
     simp[su,Bb];have z6:(a ::t).all oi=false:=by rw[List.all_eq_false];exact⟨_,Mg bG,by simp[ho]⟩
     simpa[z6]using hR
    |true=>
     simp[su,Bc,g4];refine⟨t.length+1-(j+1),by omega,j+1,rfl,by omega,by simp[g1],?_,?_⟩
     ·simp;rw[aC (by omega) (by omega)]
     ·intro x hx;rw[Zz bG,List.mem_append,List.mem_singleton]at hx;rcases hx with hx|rfl
      ·exact vJ.1 ha x hx
      ·exact ho
   ·have bG:j=(a ::t).length:=by simp at hj ⊢;omega
    subst bG;rw[List.take_length]at ha;exact fin _ (by simp[g1]) ha
omit S in
theorem ahJ{client:Int}{nl nc:Nat}{args:List U}{res:U}(hz:zU res=true)(hn:¬(nl=0∧nc=0))(hl:nl≤16)(ha:args.length≤16)(c0:0≤client)(c3:client≤3):tc ⟨0,client,(nl,nc),args,res⟩=args.all oi:=by
 rw[Bool.eq_iff_iff];unfold tc;rw[decide_eq_true_eq];constructor
 ·rintro⟨_,_,_,_,h|h|h⟩
  ·exact h.2.2.2.2.2
  ·exact absurd h.1 (by simp)
  ·exact absurd h.1 (by simp)
 ·intro h;exact⟨by simp,by simp,c0,c3,.inl ⟨rfl,hz,by simpa using hn,hl,ha,h⟩⟩
omit S in
theorem aon{client:Int}{res:U}(c0:0≤client)(c3:client≤3):tc ⟨1,client,(0,0),[],res⟩=oi res:=by
 rw[Bool.eq_iff_iff];unfold tc;rw[decide_eq_true_eq];constructor
 ·rintro⟨_,_,_,_,h|h|h⟩
  ·exact absurd h.1 (by simp)
  ·exact h.2.2.2
  ·exact absurd h.1 (by simp)
 ·intro h;exact⟨by simp,by simp,c0,c3,.inr (.inl ⟨rfl,rfl,rfl,h⟩)⟩
omit S in
theorem acT{res:U}:tc ⟨2,0,(0,0),[],res⟩=zU res:=by
 rw[Bool.eq_iff_iff];unfold tc;rw[decide_eq_true_eq];constructor
 ·rintro⟨_,_,_,_,h|h|h⟩
  ·exact absurd h.1 (by simp)
  ·exact absurd h.1 (by simp)
  ·exact h.2.2.2.2
 ·intro h;exact⟨by simp,by simp,by simp,by simp,.inr (.inr ⟨rfl,rfl,rfl,rfl,h⟩)⟩
omit S in
theorem ahK{res:U}(hz:zU res=true):oi res=true:=by unfold zU at hz;unfold oi;simp at hz ⊢;exact .inl hz.1
theorem Vk{x:Ev}{R:Out→T ah→Key→Prop}{tm:T AV}{h:T ah}{nx nx0:Key}(hlen:x.args.length≤1000)(f1:ae (K 1) tm=some (.ptr nx0 0))(f3:ae (K 3) tm=some (.bool (zU x.res)))(hb:ae nx0 h=Vv (eE x))
  (hk:0≤x.kind∧x.kind≤2) (hc:0≤x.client∧x.client≤3) (hR:R (.ret (I (if tc x=true then 0 else 1))) h nx) :
  iH C (.seq (.seq (.ops bW) (.cond (.t (K 59)) (.seq (.ops dA) .ret) .skip))
   (.seq (.seq (.ops dB) (.cond (.t (K 79)) (.seq (.ops jU) .ret) .skip))
    (.seq (.seq (.ops jS) (.block 0 (.loop jT))) (.seq (.ops fW) .ret)))) (dF [.tmp (K 2)] R) tm h nx:=by
 have fail:tc x=false→R (.ret (I 1)) h nx:=fun e=>by simpa[e]using hR
 have zY:∀tm:T AV,ae (K 1) tm=some (.ptr nx0 0)→(tc x=(x.args.all oi&&oi x.res))→iH C (.seq (.seq (.ops jS) (.block 0 (.loop jT))) (.seq (.ops fW) .ret)) (dF [.tmp (K 2)] R) tm h nx:=
  fun tm g1 e=>Vj S hlen g1 hb (by rw[←e];exact hR)
 obtain⟨kind,client,⟨nl,nc⟩,args,res⟩:=x;have ahH:args.length≤1000:=hlen;have c0:0≤client:=hc.1;have c3:client≤3:=hc.2;have df:aK args=.nils∧args=[]∨∃l,aK args=.sl l args.length 4 .any∧args≠[]:=by
  cases args with
  |nil=>exact .inl ⟨rfl,rfl⟩
  |cons a t=>exact .inr ⟨_,rfl,by simp⟩
 have BT:kind=0∨kind=1∨kind=2:=by have:=hk.1;have:=hk.2;simp at *;omega
 rcases BT with rfl|rfl|rfl
 ·cases hz:zU res with
  |false=>rw[hz]at f3;simp[bW,f1,f3,hb,eE,dA];exact fail (by unfold tc;simp[hz])
  |true=>
   rw[hz]at f3;have sO:=ahK hz;simp[bW,f1,f3,hb,eE];by_cases hn:nl=0∧nc=0
   ·simp[dB,f1,hb,eE,hn,jU];exact fail (by unfold tc;simp[hn])
   ·by_cases hl:16<nl
    ·have MD:(16:Int)<nl:=by omega
     simp[dB,f1,hb,eE,hn,hl,MD,jU];exact fail (by unfold tc;simp;omega)
    ·have MD:¬(16:Int)<nl:=by omega
     rcases df with⟨ea,rfl⟩|⟨l,ea,bU⟩
     ·simp[dB,f1,hb,eE,hn,hl,MD,ea];refine zY _ (by simp[f1]) ?_;rw[ahJ hz (by simpa using hn) (by omega) (by simp) c0 c3,sO,Bool.and_true]
     ·by_cases ha:16<args.length
      ·have ha2:(16:Int)<args.length:=by omega
       simp[dB,f1,hb,eE,hn,hl,MD,ea,ha,ha2,jU];exact fail (by unfold tc;simp;omega)
      ·have ha2:¬(16:Int)<args.length:=by omega
       simp[dB,f1,hb,eE,hn,hl,MD,ea,ha,ha2];refine zY _ (by simp[f1]) ?_;rw[ahJ hz (by simpa using hn) (by omega) (by omega) c0 c3,sO,Bool.and_true]
 ·by_cases hn:nl=0∧nc=0
  ·obtain⟨rfl,rfl⟩:=hn;rcases df with⟨ea,rfl⟩|⟨l,ea,bU⟩
   ·simp[bW,f1,f3,hb,eE,ea];simp[dB,f1,hb,eE];exact zY _ (by simp[f1]) (by rw[aon c0 c3];simp)
   ·simp[bW,f1,f3,hb,eE,ea,List.length_pos_iff.2 bU,dA];exact fail (by unfold tc;simp[bU])
  ·simp[bW,f1,f3,hb,eE,hn,dA];exact fail (by unfold tc;simp;intros;omega)
 ·by_cases NJ:client=0
  ·subst NJ;by_cases hn:nl=0∧nc=0
   ·obtain⟨rfl,rfl⟩:=hn;rcases df with⟨ea,rfl⟩|⟨l,ea,bU⟩
    ·cases hz:zU res with
     |false=>rw[hz]at f3;simp[bW,f1,f3,hb,eE,ea,dA];exact fail (by rw[acT,hz])
     |true=>rw[hz]at f3;simp[bW,f1,f3,hb,eE,ea];simp[dB,f1,hb,eE];exact zY _ (by simp[f1]) (by rw[acT,hz,ahK hz];simp)
    ·simp[bW,f1,f3,hb,eE,ea,List.length_pos_iff.2 bU,dA];exact fail (by unfold tc;simp[bU])
   ·simp[bW,f1,f3,hb,eE,hn,dA];exact fail (by unfold tc;simp;intros;omega)
  ·simp[bW,f1,f3,hb,eE,bq NJ,dA];exact fail (by unfold tc;simp[NJ])
omit S in
theorem yg{x:Ev}(h:¬(0≤x.kind∧x.kind≤2∧0≤x.client∧x.client≤3)):tc x=false:=by unfold tc;rw[decide_eq_false_iff_not];rintro⟨a,b,c,d,_⟩;exact h ⟨a,b,c,d⟩
theorem abX(x:Ev)(hlen:x.args.length≤1000):TN C lz [.agg (eE x)] (·=.ret (I (if tc x=true then 0 else 1))):=by
 intro h nx;have s1:=kTSu nx;have rz:=S.r qc;refine S.FI.call ?_;simp[Ck];simp[Dk];by_cases hk:x.kind<0
 ·simp[gR,eE,hk,jV,yg (x:=x) (by omega)];exact E0 _ _ _
 by_cases Pr:2<x.kind
 ·simp[gR,eE,hk,Pr,jV,yg (x:=x) (by omega)];exact E0 _ _ _
 by_cases hc:x.client<0
 ·simp[gR,eE,hk,Pr,hc,jV,yg (x:=x) (by omega)];exact E0 _ _ _
 by_cases hc2:3<x.client
 ·simp[gR,eE,hk,Pr,hc,hc2,jV,yg (x:=x) (by omega)];exact E0 _ _ _
 simp[gR,eE,hk,Pr,hc,hc2];simp[Dl,rz];refine(anu S x.res _ _).mono ?_;rintro o h1 bF ⟨rfl,e1⟩;simp;have hb1:ae nx h1=Vv (eE x):=by rw[e1.g nx (by omega)];simp[eE]
 have key:=fun aW g1 g3=>Vk S (x:=x) (nx0:=nx) (tm:=aW) (R:=fun o h' nx'=>o=.ret (I (if tc x=true then 0 else 1))∧Ext h nx h' nx') hlen g1 g3 hb1 (by omega) (by omega) ⟨rfl,(E0 h nx _).trans e1⟩;simp at key;refine key _ ?_ ?_<;>simp
end Ln
namespace Ln
open Go.Sx Go
structure YY(l:List Ev):Prop where
 len:l.length≤16
 args:∀x∈l,x.args.length≤1000
 rd:∀x∈l,x.kind≠1∧x.args=[]∧(x.kind=0→x.name=(4,1684104562))
variable{C:bK}{X:Kn}(S:Std C X)
include S
theorem amU{ev:AV}{l:List Ev}(hv:iB 8 eE ev l)(hl:l.length≤16)(c:Int)(a:Nat)(ha:a≤l.length):TN C qa [ev,I c,I a] (·=.ret (I (kH c (l.take a).reverse))):=by
 intro h nx;refine S.Ku.call ?_;simp[IZ];simp[HU];simp[HV];rw[aC (by omega) (by omega)];refine W.cM (n:=a) (fun m aw h' nx'=>ae (K 0) aw=some ev∧ae (K 1) aw=some (I c)∧ae (K 7) aw=some (I ((m:Int)-1))∧m≤a∧h'=h∧nx'=nx∧kH c (l.take a).reverse=kH c (l.take m).reverse) ?_ ?_
 ·exact⟨by simp,by simp,by simp,by omega,rfl,rfl,rfl⟩
 ·rintro m dD h1 bF ⟨g0,g1,g7,hm,rfl,rfl,he⟩;refine W.of ?_;simp[HW];cases m with
  |zero=>simp[zo,g7];simp[HX];exact⟨by rw[he];simp[kH],Ext.refl _ _⟩
  |succ m=>
   have hml:m<l.length:=by omega
   have hlen:=jo.rows l;have h8:8≤l.length*8-m*8:=by omega
   have ec:=jo.at hml;rw[Zz hml,List.reverse_append,List.reverse_singleton,List.singleton_append]at he;have T8:(l.take m).reverse.length=m:=by simp;omega
   rcases hv with⟨e,rfl⟩|e
   ·simp at hml
   have Q6:=g0;rw[e]at g0;have Mp:¬(m:Int)<0:=by omega
   have g7:ae (K 7) dD=some (I (m:Int)):=by simpa using g7
   simp[zo,g7,Mp];generalize l[m]=x at he ec;obtain⟨kind,client,name,args,res⟩:=x;have C4:kH c (⟨kind,client,name,args,res⟩ ::(l.take m).reverse)=if kind=2∨kind=1∧client=c then -1 else if kind=0∧client=c then((l.take m).reverse.length:Int)else kH c (l.take m).reverse:=rfl
   rw[C4,T8]at he;by_cases k2:kind=2
   ·subst k2;simp[iw,g0,g1,g7,hml,hlen,h8,ec,eE];simp[zp];exact⟨by rw[he];simp,Ext.refl _ _⟩
   by_cases k1:kind=1
   ·subst k1;by_cases hc:client=c
    ·subst hc;simp[iw,g0,g1,g7,hml,hlen,h8,ec,eE];simp[zp];exact⟨by rw[he];simp,Ext.refl _ _⟩
    ·simp[iw,g0,g1,g7,hml,hlen,h8,ec,eE,bq hc];simp[nh,g0,g1,g7,hml,hlen,h8,ec,eE,bq hc];simp[sQ,g7];refine⟨m,by omega,Q6,g1,aC (by omega) (by omega),by omega,?_⟩;rw[he];simp[hc]
   by_cases k0:kind=0
   ·subst k0;by_cases hc:client=c
    ·subst hc;simp[iw,g0,g1,g7,hml,hlen,h8,ec,eE];simp[nh,g0,g1,g7,hml,hlen,h8,ec,eE];simp[HY,g7];exact⟨by rw[he];simp,Ext.refl _ _⟩
    ·simp[iw,g0,g1,g7,hml,hlen,h8,ec,eE,bq hc];simp[nh,g0,g1,g7,hml,hlen,h8,ec,eE,bq hc];simp[sQ,g7];refine⟨m,by omega,Q6,g1,aC (by omega) (by omega),by omega,?_⟩;rw[he];simp[hc]
   ·simp[iw,g0,g1,g7,hml,hlen,h8,ec,eE,bq k2,bq k1];simp[nh,g0,g1,g7,hml,hlen,h8,ec,eE,bq k0];simp[sQ,g7];refine⟨m,by omega,Q6,g1,aC (by omega) (by omega),by omega,?_⟩;rw[he];simp[k0,k1,k2]
end Ln
namespace Ln
open Go.Sx Go
def jn:Nat→Int
 |0=>0|1=>1|2=>20|_=>25
variable{C:bK}{X:Kn}(S:Std C X)
include S
theorem YF{l:List Ev}(hl:YY l){R:Out→T ah→Key→Prop}{tm:T AV}{h:T ah}{nx:Key}(g0:ae (K 0) tm=some (.sl (ag eE l) l.length 8 .any))(g5:ae (K 5) tm=some (I 0))
  (hR:∀h' nx',Ext h nx h' nx'→R (.ret (I (jn (bI [] l)))) h' nx') :
  W C (.loop ql) (aA 2 (aM (iH C (.seq (.ops nK) .ret) (dF [.tmp (K 2)] R)) (dF [.tmp (K 2)] R))) tm h nx:=by
 have aew:=hl.len;have rf:=S.r lz;have ro:=S.r qa;refine W.cM (n:=l.length) (fun m aw h' nx'=>∃j:Nat,m=l.length-j∧j≤l.length∧ae (K 0) aw=some (.sl (ag eE l) l.length 8 .any)∧ae (K 5) aw=some (I j)∧Ext h nx h' nx'∧bI [] l=bI (l.take j).reverse (l.drop j)) ?_ ?_
 ·exact⟨0,by simp,by omega,g0,by simpa using g5,Ext.refl _ _,rfl⟩
 ·rintro m dD h1 bF ⟨j,rfl,hj,g0,g5,e1,hv⟩;refine W.of ?_;simp[ql];simp[ud,g0,g5];refine⟨fun bY=>?_,fun Rg=>?_⟩
  ·have bG:j<l.length:=by omega
   have hlen:=jo.rows l;have h8:8≤l.length*8-j*8:=by omega
   have ec:=jo.at bG;have hx:=hl.args _ (Mg bG);have hz:aN 9999 (.agg (eE l[j])) h1=(.agg (eE l[j]),h1):=by have:=cn (n:=9998) (l:=eE l[j]) (h:=h1) (jo.vV _);simp only[Tn];rw[this]
   have he:List.take 8 (eE l[j])=eE l[j]:=rfl;have hl8:(eE l[j]).length=8:=rfl;rw[zqt bG]at hv;simp[Df,g0,g5,bG,hlen,h8,ec,he,hl8,rf,hz];refine(abX S l[j] hx _ _).mono ?_;rintro o h2 aU ⟨rfl,e2⟩;simp;have VJ:=e1.trans e2;generalize hxe:l[j]=x at *;cases sO:tc x with
   |false=>
    simp[ue,Dg];have e0:bI [] l=1:=by rw[hv];unfold bI Qn;rw[sO];rfl
    have:=hR h2 aU VJ;rw[e0]at this;exact this
   |true=>
    simp[ue];have hzs:aN 9999 (AV.sl (ag eE l) l.length 8 .any) h2=(.sl (ag eE l) l.length 8 .any,h2):=Ub _ _ _ _ _;simp[Dh,g0,g5,bG,hlen,h8,ec,eE,ro,hzs];have ki:=amU S (ev:=.sl (ag eE l) l.length 8 .any) (.inr rfl) aew x.client j hj;refine(ki h2 aU).mono ?_;rintro o h3 cF ⟨rfl,e3⟩;simp;have Sd:=VJ.trans e3;have hv2:bI (l.take j).reverse (x ::l.drop (j+1))=match Qn (l.take j).reverse x with|0=>bI (x ::(l.take j).reverse) (l.drop (j+1))|n=>n:=rfl
    have hb:Qn (l.take j).reverse x=if x.kind=0∧0≤kH x.client (l.take j).reverse then 2 else if x.kind=1∧kH x.client (l.take j).reverse<0 then 3 else 0:=by unfold Qn;rw[sO];rfl
    have Hr:x ::(l.take j).reverse=(l.take (j+1)).reverse:=by rw[Zz bG,hxe];simp
    generalize kH x.client (l.take j).reverse=ob at *;have fin:∀n:Nat,Qn (l.take j).reverse x=n+1→jn (bI [] l)=jn (n+1):=fun n e=>by rw[hv,hv2,e];rfl
    have go:∀aW:T AV,ae (K 0) aW=some (.sl (ag eE l) l.length 8 .any)→ae (K 5) aW=some (I j)→Qn (l.take j).reverse x=0→∃m,m<l.length-j∧∃j':Nat,m=l.length-j'∧j'≤l.length∧ae (K 0) aW=some (.sl (ag eE l) l.length 8 .any)∧(j:Int)+1=(j':Int)∧Ext h nx h3 cF∧bI [] l=bI (l.take j').reverse (l.drop j'):=fun aW q0 q5 e=>⟨l.length-(j+1),by omega,j+1,rfl,by omega,q0,by omega,Sd,by rw[hv,hv2,e];exact congrArg (fun p=>bI p _) Hr⟩;by_cases k0:x.kind=0
    ·by_cases ho:ob<0
     ·simp[gQ,g0,g5,bG,hlen,h8,ec,eE,k0,ho];simp[jR,g0,g5,bG,hlen,h8,ec,eE,k0,ho];simp[nL,g5];rw[aC (by omega) (by omega)];have:=go dD g0 g5 (by rw[hb,if_neg (by omega),if_neg (by omega)]);simpa[g0]using this
     ·simp[gQ,g0,g5,bG,hlen,h8,ec,eE,k0,ho];simp[Di];have:=hR h3 cF Sd;rw[fin 1 (by rw[hb,if_pos ⟨k0,by omega⟩])]at this;simpa[jn]using this
    ·by_cases k1:x.kind=1
     ·by_cases ho:ob<0
      ·simp[gQ,g0,g5,bG,hlen,h8,ec,eE,bq k0,ho];simp[jR,g0,g5,bG,hlen,h8,ec,eE,k1,ho];simp[Dj];have:=hR h3 cF Sd;rw[fin 2 (by rw[hb,if_neg (by omega),if_pos ⟨k1,by omega⟩])]at this;simpa[jn]using this
      ·simp[gQ,g0,g5,bG,hlen,h8,ec,eE,bq k0,ho];simp[jR,g0,g5,bG,hlen,h8,ec,eE,k1,ho];simp[nL,g5];rw[aC (by omega) (by omega)];have:=go dD g0 g5 (by rw[hb,if_neg (by omega),if_neg (by omega)]);simpa[g0]using this
     ·simp[gQ,g0,g5,bG,hlen,h8,ec,eE,bq k0];simp[jR,g0,g5,bG,hlen,h8,ec,eE,bq k1];simp[nL,g5];rw[aC (by omega) (by omega)];have:=go dD g0 g5 (by rw[hb,if_neg (by omega),if_neg (by omega)]);simpa[g0]using this
  ·have bG:j=l.length:=by omega
   subst bG;simp[nK];have:=hR h1 bF e1;rw[hv]at this;simpa[bI,jn]using this
theorem aex{ev:AV}{l:List Ev}(hv:iB 8 eE ev l)(hl:YY l):TN C mR [ev] (·=.ret (I (jn (bI [] l)))):=by
 intro h nx;have aew:=hl.len;refine S.HZ.call ?_;simp[Fx];simp[FP];simp[FQ];simp[FR];rcases hv with⟨rfl,rfl⟩|rfl
 ·refine W.Iy (W.of ?_);simp[xh];simp[xi];simp[xj];simp[xk];refine W.Iy (W.of ?_);simp[ql];simp[ud];simp[nK];exact⟨rfl,Ext.refl _ _⟩
 ·refine W.cM (n:=l.length) (fun m aw h' nx'=>∃j b:Nat,m=l.length-j∧j≤l.length∧b≤j∧ae (K 0) aw=some (.sl (ag eE l) l.length 8 .any)∧ae (K 4) aw=some (I j)∧ae (K 3) aw=some (I b)∧h'=h∧nx'=nx) ?_ ?_
  ·exact⟨0,0,by simp,by omega,by omega,by simp,by simp,by simp,rfl,rfl⟩
  ·rintro m dD h1 bF ⟨j,b,rfl,hj,hb,g0,g4,g3,rfl,rfl⟩;refine W.of ?_;simp[xh];simp[xi,g0,g4];refine⟨fun bY=>?_,fun Rg=>?_⟩
   ·have bG:j<l.length:=by omega
    have hlen:=jo.rows l;have h8:8≤l.length*8-j*8:=by omega
    have ec:=jo.at bG;by_cases k0:l[j].kind=0
    ·simp[xl,g0,g4,bG,hlen,h8,ec,eE,k0];simp[FU,g3];simp[xm,g4];rw[aC (by omega) (by omega),aC (by omega) (by omega)];exact⟨l.length-(j+1),by omega,j+1,rfl,by omega,b+1,by omega,g0,by omega,by omega⟩
    ·simp[xl,g0,g4,bG,hlen,h8,ec,eE,bq k0];simp[xm,g4];rw[aC (by omega) (by omega)];exact⟨l.length-(j+1),by omega,j+1,rfl,by omega,b,by omega,g0,by omega,g3⟩
   ·have asJ:¬(64:Int)<l.length:=by omega
    have asK:¬(16:Int)<b:=by omega
    simp[xj,g0,g3,asJ,asK];simp[xk];have key:=fun aW q0 q5=>YF S hl (tm:=aW) (h:=h1) (nx:=bF) (R:=fun o h' nx'=>o=.ret (I (jn (bI [] l)))∧Ext h1 bF h' nx') q0 q5 (fun h' nx' e=>⟨rfl,e⟩);refine key _ ?_ ?_<;>simp[g0]
end Ln
namespace Ln
open Go.Sx Go
theorem MJ{o:Op}(h:¬(o.e<0∧o.lost<0)):∀(l:List Ev) (i:Nat),follow o i l=o
 | [],i=>rfl
 |x ::l,i=>by show follow (lF i x o) (i+1) l=o;rw[WG h];exact MJ h l (i+1)
theorem vX:∀(l:List Ev) (i:Nat),(bO i l).length≤l.length
 | [],i=>by simp[bO]
 |x ::l,i=>by have:=vX l (i+1);simp only[bO,Ho,zqi];split<;>simp<;>omega
def RIn(l:List Ev)(o:Op)(i:Nat)(c5:AV)(b:Key)(h:T ah)(nx:Key)(m:Nat)(aw:T AV)(h':T ah)(nx':Key):Prop:=∃(j:Nat) (o':Op),m=l.length-j∧i+1≤j∧j≤l.length∧o'.client=o.client∧ae (K 0) aw=some (.sl (ag eE l) l.length 8 .any)∧ae (K 5) aw=some c5∧ae (K 6) aw=some (I i)∧ae (K 7) aw=some (.ptr b 0)∧ae (K 8) aw=some (I j)∧ae b h'=Vv (eO o')∧follow o (i+1) (l.drop (i+1))=follow o' j (l.drop j)∧(∀k:Key,k≠b→ae k h'=ae k h)∧nx'=nx
variable{C:bK}{X:Kn}(S:Std C X)
include S
omit S in
theorem alK{l:List Ev}(hl:YY l){Q:cH}{tm:T AV}{h:T ah}{nx b:Key}{o:Op}{i:Nat}{c5:AV}(hi:i<l.length)(hb:b.toNat<nx.toNat)(ho:o.e<0∧o.lost<0)
  (g0:ae (K 0) tm=some (.sl (ag eE l) l.length 8 .any)) (g5:ae (K 5) tm=some c5) (g6:ae (K 6) tm=some (I i)) (g7:ae (K 7) tm=some (.ptr b 0)) (g8:ae (K 8) tm=some (I ((i:Int)+1))) (gb:ae b h=Vv (eO o))
  (hQ:∀aw h',ae (K 0) aw=some (.sl (ag eE l) l.length 8 .any)→ae (K 5) aw=some c5→ae (K 6) aw=some (I i)→ae (K 7) aw=some (.ptr b 0)→ae b h'=Vv (eO (follow o (i+1) (l.drop (i+1))))→(∀k:Key,k≠b→ae k h'=ae k h)→Q .norm aw h' nx) :
  W C (.loop BY) (aA 2 Q) tm h nx:=by
 have aew:=hl.len;refine W.cM (n:=l.length-(i+1)) (RIn l o i c5 b h nx) ?_ ?_
 ·exact⟨i+1,o,rfl,by omega,by omega,rfl,g0,g5,g6,g7,by simpa using g8,gb,rfl,fun _ _=>rfl,rfl⟩
 ·rintro m dD h1 bF ⟨j,o',rfl,hj1,hj,hc,g0,g5,g6,g7,g8,gb,hf,hk,rfl⟩;refine W.of ?_;simp[BY];by_cases bY:j<l.length
  ·have aqA:(j:Int)<l.length:=by omega
   by_cases hoo:o'.e<0∧o'.lost<0
   ·simp[mV,g0,g7,g8,gb,eO,bY,aqA,hoo.1,hoo.2];have hlen:=jo.rows l;have h8:8≤l.length*8-j*8:=by omega
    have ec:=jo.at bY;rw[zqt bY]at hf;have hu:follow o' j (l[j] ::l.drop (j+1))=follow (lF j l[j] o') (j+1) (l.drop (j+1)):=rfl;rw[hu]at hf;generalize l[j]=x at hf ec hu;have hu2:lF j x o'=if x.kind=2 then {o' with lost:=j}else if x.kind=1∧x.client=o'.client then {o' with e:=j,res:=x.res}else o':=by unfold lF;rw[if_pos hoo]
    by_cases k2:x.kind=2
    ·rw[if_pos k2]at hu2;simp[sP,g0,g8,bY,hlen,h8,ec,eE,k2];simp[HI,g7,g8,gb,eO];simp[mW,g0,g7,g8,gb,eO,bY,hlen,h8,ec,eE,k2];simp[mX,g8];rw[aC (by omega) (by omega)];refine⟨l.length-(j+1),by omega,j+1,{o' with lost:=j},rfl,by omega,by omega,hc,by simp[g0],by simp[g5],by simp[g6],by simp[g7],by simp,by simp[eO],by rw[hf,hu2],fun k Pr=>?_,rfl⟩;rw[aR _ _ _ _ Pr];exact hk k Pr
    ·rw[if_neg k2]at hu2;by_cases k1:x.kind=1∧x.client=o'.client
     ·rw[if_pos k1]at hu2;simp[sP,g0,g8,bY,hlen,h8,ec,eE,k1.1];simp[mW,g0,g7,g8,gb,eO,bY,hlen,h8,ec,eE,k1.1,k1.2];simp[HJ,g7,g8,gb,eO];simp[HK,g0,g7,g8,gb,eO,bY,hlen,h8,ec,eE];simp[mX,g8];rw[aC (by omega) (by omega)];refine⟨l.length-(j+1),by omega,j+1,{o' with e:=j,res:=x.res},rfl,by omega,by omega,hc,by simp[g0],by simp[g5],by simp[g6],by simp[g7],by simp,by simp[eO],by rw[hf,hu2],fun k Pr=>?_,rfl⟩;rw[aR _ _ _ _ Pr];exact hk k Pr
     ·rw[if_neg k1]at hu2;simp[sP,g0,g8,bY,hlen,h8,ec,eE,bq k2];have fin:∀aW:T AV,ae (K 0) aW=some (.sl (ag eE l) l.length 8 .any)→ae (K 5) aW=some c5→ae (K 6) aW=some (I i)→ae (K 7) aW=some (.ptr b 0)→ae (K 8) aW=some (I ((j+1:Nat):Int))→∃m,m<l.length-j∧RIn l o i c5 b h bF m aW h1 bF:=fun aW q0 q5 q6 q7 q8=>
       ⟨l.length-(j+1),by omega,j+1,o',rfl,by omega,by omega,hc,q0,q5,q6,q7,q8,gb,by rw[hf,hu2],hk,rfl⟩
      by_cases k1':x.kind=1
      ·have bU:x.client≠o'.client:=fun e=>k1 ⟨k1',e⟩;simp[mW,g0,g7,g8,gb,eO,bY,hlen,h8,ec,eE,k1',bq bU];simp[mX,g8];rw[aC (by omega) (by omega)];refine fin _ ?_ ?_ ?_ ?_ ?_<;>simp[g0,g5,g6,g7]
      ·simp[mW,g0,g7,g8,gb,eO,bY,hlen,h8,ec,eE,bq k1'];simp[mX,g8];rw[aC (by omega) (by omega)];refine fin _ ?_ ?_ ?_ ?_ ?_<;>simp[g0,g5,g6,g7]
   ·have fin:∀aw:T AV,ae (K 0) aw=some (.sl (ag eE l) l.length 8 .any)→ae (K 5) aw=some c5→ae (K 6) aw=some (I i)→ae (K 7) aw=some (.ptr b 0)→Q .norm aw h1 bF:=fun aw q0 q5 q6 q7=>hQ aw h1 q0 q5 q6 q7 (by rw[hf,MJ hoo];exact gb) hk;by_cases he:o'.e<0
    ·have xH:¬o'.lost<0:=fun q=>hoo ⟨he,q⟩;simp[mV,g0,g7,g8,gb,eO,bY,aqA,he,xH];exact fin _ (by simp[g0]) (by simp[g5]) (by simp[g6]) (by simp[g7])
    ·simp[mV,g0,g7,g8,gb,eO,bY,aqA,he];exact fin _ (by simp[g0]) (by simp[g5]) (by simp[g6]) (by simp[g7])
  ·have vK:j=l.length:=by omega
   subst vK;simp[mV,g0,g7,g8,gb,eO];refine hQ _ h1 (by simp[g0]) (by simp[g5]) (by simp[g6]) (by simp[g7]) ?_ hk;rw[hf];simpa[follow]using gb
end Ln
namespace Ln
open Go.Sx Go
def RQ(l:List Ev)(h:T ah)(nx:Key)(m:Nat)(aw:T AV)(h':T ah)(nx':Key):Prop:=∃(i:Nat) (c:AV) (os:List Op),m=l.length-i∧i≤l.length∧os.length≤i∧ae (K 0) aw=some (.sl (ag eE l) l.length 8 .any)∧ae (K 5) aw=some c∧ae (K 6) aw=some (I i)∧App c (ag eO os) os.length 10 h' nx' nx∧bO 0 l=os++bO i (l.drop i)∧Ext h nx h' nx'
def ald(l:List Ev)(o:Out):Prop:=∃c,o=.ret (.tuple [c,I (jn (bI [] l))])∧iB 10 eO c (if bI [] l=0 then bO 0 l else [])
variable{C:bK}{X:Kn}(S:Std C X)
include S
omit S in
theorem alI{c:AV}{l:List AV}{len sz:Nat}{h h':T ah}{nx nx' n0 b:Key}(ha:App c l len sz h nx n0)(hn:nx.toNat≤nx'.toNat)(hb:nx.toNat≤b.toNat)(hk:∀k:Key,k≠b→ae k h'=ae k h):App c l len sz h' nx' n0:=
 ha.cy hn fun k Mn _=>hk k (fun e=>by subst e;omega)
theorem alJ{ev:AV}{l:List Ev}(hv:iB 8 eE ev l)(hl:YY l):TN C ta [ev] (ald l):=by
 intro h nx;have aew:=hl.len;have rv:=S.r mR;have hz:aN 9999 ev h=(ev,h):=hv.vV _ _;refine S.Mo.call ?_;simp[Lp];simp[JH];simp[JI,rv,hz];refine(aex S hv hl _ _).mono ?_;rintro o h1 bF ⟨rfl,e1⟩;simp;by_cases SQ:bI [] l=0
 ·simp[BJ,SQ,jn];simp[JJ];simp[JK];have fin:∀(aW:T AV) (c:AV) (h2:T ah) (aU:Key),ae (K 5) aW=some c→App c (ag eO (bO 0 l)) (bO 0 l).length 10 h2 aU bF→Ext h1 bF h2 aU→iH C (.seq (.ops y9) .ret) (dF [.tmp (K 2),.tmp (K 3)] fun o h' nx'=>ald l o∧Ext h nx h' nx') aW h2 aU:=by
   intro aW c h2 aU q5 A x;simp[y9,q5];obtain⟨f1,f2⟩:=A.EN ez 9998;refine⟨⟨_,by rw[SQ];rfl,?_⟩,?_⟩
   ·rw[if_pos SQ];exact f1
   ·have x2:=e1.trans x;exact⟨x2.n,fun b hb=>by rw[f2 b (by have:=e1.n;omega)];exact x2.g b hb⟩
  simp only[fH,kj]at fin;rcases hv with⟨rfl,rfl⟩|rfl
  ·refine W.Iy (W.of ?_);simp[BK];simp[BL];refine fin _ .nils h1 bF ?_ (App.nil 10) (Ext.refl _ _);simp
  ·refine W.cM (n:=l.length) (RQ l h1 bF) ?_ ?_
   ·exact⟨0,.nils,[],by simp,by omega,by simp,by simp,by simp,by simp,App.nil 10,by simp,Ext.refl _ _⟩
   ·rintro m dD h2 aU ⟨i,c,os,rfl,hi,hol,g0,g5,g6,A,ki,xe⟩;refine W.of ?_;simp[BK];simp[BL,g0,g6];refine⟨fun bY=>?_,fun Rg=>?_⟩
    ·have Gp:i<l.length:=by omega
     have hlen:=jo.rows l;have h8:8≤l.length*8-i*8:=by omega
     have ec:=jo.at Gp;rw[zqt Gp]at ki;have ho:bO i (l[i] ::l.drop (i+1))=(if l[i].kind=0 then [follow (za i l[i]) (i+1) (l.drop (i+1))]else [])++bO (i+1) (l.drop (i+1)):=rfl;rw[ho]at ki;clear ho;generalize l[i]=x at ki ec;by_cases k0:x.kind=0
     ·rw[if_pos k0]at ki;have s2:=kTSu aU;have ac1:=(bA x.args).1;have ac2:=(bA x.args).2;simp[BM,g0,g6,Gp,hlen,h8,ec,eE,k0];simp[JL,g0,g6,Gp,hlen,h8,ec,eE,ac1,ac2];simp[JM,g6];rw[aC (by omega) (by omega)];refine alK (o:=za i x) (i:=i) (b:=aU) hl Gp (by omega) (by simp[za]) (c5:=c) ?_ ?_ ?_ ?_ ?_ ?_ ?_
      ·simp[g0]
      ·simp[g5]
      ·simp[g6]
      ·simp
      ·simp
      ·simp[eO,za]
      ·intro SS h3 q0 q5 q6 q7 qb qk;have A2:=(A.ext (E0 h2 aU (.cells (eO (za i x)) .fix)));have A3:App c (ag eO os) os.length 10 h3 aU.succ bF:=alI A (by omega) (fa _) (fun k hk=>by rw[qk k hk,aR _ _ _ _ hk]);generalize follow (za i x) (i+1) (l.drop (i+1))=y at *;have A4:=A3.ext (E0 h3 aU.succ (.cells (eO y) .fix));obtain⟨c5,h5,Gv,g,A5,m1,m2,_⟩:=A4.IJ ez (by have:=xe.n;have:=kTSu aU.succ;omega) (by omega) y;have yc1:=(bA y.args).1;have yc2:=(bA y.args).2;have ey:eO y=[I y.client,I y.b,I y.e,I y.lost,.str y.name.1 y.name.2,aK y.args,I y.res.k,I y.res.n,.str 0 0,.nils]:=rfl;rw[ey]at g qb;have yf:∀n H,aN n (aK y.args) H=(aK y.args,H):=dn _;simp[-appendTo,Hp,q5,q7,qb,yc1,yc2,yf,g];simp[zb,q6];rw[aC (by omega) (by omega)];refine⟨l.length-(i+1),by omega,i+1,c5,os ++ [y],rfl,by omega,by simp;omega,by simp[q0],by simp,by simp,A5,by rw[ki];simp,?_⟩;have x3:=xe.n;have:=kTSu aU.succ;exact⟨by omega,fun b hb=>by rw[m2 b hb,az (by omega),qk b (fun e=>by subst e;omega),az (by omega)];exact xe.g b hb⟩
     ·rw[if_neg k0]at ki;simp[BM,g0,g6,Gp,hlen,h8,ec,eE,bq k0];simp[zb,g6];rw[aC (by omega) (by omega)];exact⟨l.length-(i+1),by omega,i+1,c,os,rfl,by omega,by omega,by simp[g0],by simp[g5],by simp,A,by simpa using ki,xe⟩
    ·have:i=l.length:=by omega
     subst this;rw[List.drop_length]at ki;have azP:bO 0 l=os:=by simpa[bO]using ki
     rw[←azP]at A;exact fin _ c h2 aU (by simp[g5]) A xe
 ·have bU:jn (bI [] l)≠0:=by unfold jn;split<;>first|exact absurd ‹_› SQ|decide
  simp[BJ,bq bU];simp[JN];exact⟨⟨_,rfl,.inl ⟨rfl,by rw[if_neg SQ]⟩⟩,e1⟩
end Ln
namespace Ln
open Go.Sx Go
theorem ahG(u:U):ig ⟨u.k,u.n,[]⟩ ⟨0,0,[]⟩=0↔zU u=true:=by rw[sM];unfold zU;rw[decide_eq_true_eq];simp
variable{C:bK}{X:Kn}(S:Std C X)
include S
theorem Uw{x:Ev}{R:Out→T ah→Key→Prop}{Q:cH}{tm:T AV}{h:T ah}{nx nx0:Key}(hlen:x.args.length≤1000)(h0:nx0.toNat<nx.toNat)(f1:ae (K 1) tm=some (.ptr nx0 0))(hb:ae nx0 h=Vv (eE x))
  (DU:∀h' nx',x.args.all oi=false→Ext h nx h' nx'→R (.ret (I 1)) h' nx') (fg:∀aw h' nx',ae (K 1) aw=some (.ptr nx0 0)→x.args.all oi=true→Ext h nx h' nx'→Q .norm aw h' nx')
  (hq:∀aw h' nx',dF [.tmp (K 2)] R .ret aw h' nx'→Q .ret aw h' nx') :
  iH C (.seq (.ops fk) (.block 0 (.loop fm))) Q tm h nx:=by
 have rv:=S.r dq;obtain⟨kind,client,name,args,res⟩:=x;have df:aK args=.nils∧args=[]∨aK args=.sl (ag eU args) args.length 4 .any∧args≠[]:=by
  cases args with
  |nil=>exact .inl ⟨rfl,rfl⟩
  |cons a t=>exact .inr ⟨rfl,by simp⟩
 simp;have ahH:args.length≤1000:=hlen;rcases df with⟨e,rfl⟩|⟨e,bU⟩
 ·simp[fk,f1,hb,eE,e];refine W.Iy (W.of ?_);simp[fm];simp[pD];refine fg _ _ _ ?_ rfl (Ext.refl _ _);simp[f1]
 ·simp[fk,f1,hb,eE,e];refine W.cM (n:=args.length) (fun m aw h' nx'=>∃j:Nat,m=args.length-j∧j≤args.length∧ae (K 1) aw=some (.ptr nx0 0)∧ae (K 53) aw=some (.sl (ag eU args) args.length 4 .any)∧ae (K 54) aw=some (I args.length)∧ae (K 55) aw=some (I j)∧Ext h nx h' nx'∧(args.take j).all oi=true) ?_ ?_
  ·exact⟨0,by simp,by omega,by simp[f1],by simp,by simp,by simp,Ext.refl _ _,by simp⟩
  ·rintro m dD h1 bF ⟨j,rfl,hj,g1,g53,g54,g55,e1,ha⟩;refine W.of ?_;simp[fm];simp[pD,g54,g55];refine⟨fun bY=>?_,fun Rg=>?_⟩
   ·have bG:j<args.length:=by omega
    have hr:=wA.rows args;have h4:4≤args.length*4-j*4:=by omega
    have ec:=wA.at bG;have he:List.take 4 (eU args[j])=eU args[j]:=rfl;have hl4:(eU args[j]).length=4:=rfl;have hz:∀H,aN 9999 (.agg (eU args[j])) H=(.agg (eU args[j]),H):=fun H=>by simp[eU]
    have hpc:(eU args[j]).all AV.aP=true:=rfl;simp[yc,g53,g55,bG,hr,h4,ec,he,hl4,hpc];simp[wG,rv,he,hl4,hz];refine aH.known (S.s_values_Valid _ _ _) ?_;have e2:=e1.trans (E0 h1 bF (.cells (eU args[j]) .fix));cases ho:oi args[j]with
    |false=>simp[nQ,wH];refine hq _ _ _ ?_;simp;refine DU _ _ ?_ e2;rw[List.all_eq_false];exact⟨_,Mg bG,by simp[ho]⟩
    |true=>
     simp[nQ,wI,g55];refine⟨args.length-(j+1),by omega,j+1,rfl,by omega,by simp[g1],by simp[g53],by simp[g54],?_,e2,?_⟩
     ·rw[aC (by omega) (by omega)];simp
     ·intro x hx;rw[Zz bG,List.mem_append,List.mem_singleton]at hx;rcases hx with hx|rfl
      ·exact vJ.1 ha x hx
      ·exact ho
   ·have bG:j=args.length:=by omega
    subst bG;rw[List.take_length]at ha;exact fg _ _ _ (by simp[g1]) ha e1
theorem Ux{x:Ev}{R:Out→T ah→Key→Prop}{tm:T AV}{h:T ah}{nx nx0:Key}(hlen:x.args.length≤1000)(h0:nx0.toNat<nx.toNat)(f1:ae (K 1) tm=some (.ptr nx0 0))(f3:ae (K 3) tm=some (.bool (zU x.res)))(hb:ae nx0 h=Vv (eE x))
  (hk:0≤x.kind∧x.kind≤2) (hc:0≤x.client∧x.client≤3) (hR:∀h' nx',Ext h nx h' nx'→R (.ret (I (if tc x=true then 0 else 1))) h' nx') :
  iH C (.seq (.seq (.ops gX) (.cond (.t (K 32)) (.seq (.seq (.ops dg) (.cond (.t (K 51)) (.seq (.ops fo) .ret) .skip)) (.seq (.seq (.ops fk) (.block 0 (.loop fm))) (.seq (.ops ju) .ret))) .skip))
   (.seq (.seq (.ops bQ) (.cond (.t (K 87)) (.seq (.ops cU) .ret) .skip)) (.seq (.ops jv) .ret))) (dF [.tmp (K 2)] R) tm h nx:=by
 have rv:=S.r dq;have fail:tc x=false→R (.ret (I 1)) h nx:=fun e=>by simpa[e]using hR h nx (Ext.refl _ _)
 obtain⟨kind,client,⟨nl,nc⟩,args,res⟩:=x;have ahH:args.length≤1000:=hlen;have c0:0≤client:=hc.1;have c3:client≤3:=hc.2;have df:aK args=.nils∧args=[]∨∃l,aK args=.sl l args.length 4 .any∧args≠[]:=by
  cases args with
  |nil=>exact .inl ⟨rfl,rfl⟩
  |cons a t=>exact .inr ⟨_,rfl,by simp⟩
 have BT:kind=0∨kind=1∨kind=2:=by have:=hk.1;have:=hk.2;simp at *;omega
 have last:∀aW:T AV,ae (K 1) aW=some (.ptr nx0 0)→tc ⟨kind,client,(nl,nc),args,res⟩=oi res→iH C (.seq (.ops jv) .ret) (dF [.tmp (K 2)] R) aW h nx:=by
  intro aW q1 e;have hz:∀H,aN 9999 (.agg (eU res)) H=(.agg (eU res),H):=fun H=>by simp[eU]
  simp;simp[jv,q1,hb,eE,rv];refine aH.known (S.s_values_Valid res _ _) ?_;simp;have:=hR h nx (Ext.refl _ _);rw[e]at this;exact this
 simp only[fH,kj]at last;rcases BT with rfl|rfl|rfl
 ·simp[gX,f1,hb,eE];cases hz:zU res with
  |false=>rw[hz]at f3;simp[dg,f1,f3,hb,eE,fo];exact fail (by unfold tc;simp[hz])
  |true=>
   rw[hz]at f3;by_cases hn:nl=0∧nc=0
   ·simp[dg,f1,f3,hb,eE,hn,fo];exact fail (by unfold tc;simp[hn])
   ·by_cases hl:16<nl
    ·have MD:(16:Int)<nl:=by omega
     simp[dg,f1,f3,hb,eE,hn,hl,MD,fo];exact fail (by unfold tc;simp;omega)
    ·have MD:¬(16:Int)<nl:=by omega
     have go:∀(Q:cH) (aW:T AV),args.length≤16→ae (K 1) aW=some (.ptr nx0 0)→(∀aw h' nx',dF [.tmp (K 2)] R .ret aw h' nx'→Q .ret aw h' nx')→iH C (.seq (.seq (.ops fk) (.block 0 (.loop fm))) (.seq (.ops ju) .ret)) Q aW h nx:=by
      intro Q aW ha q1 hq;have eok:=ahJ (client:=client) hz hn (by omega) ha c0 c3;rw[fH];refine Uw S (x:=⟨0,client,(nl,nc),args,res⟩) (R:=R) hlen h0 q1 hb ?_ ?_ ?_
      ·intro h' nx' e1 e2;have:=hR h' nx' e2;rw[eok,e1]at this;exact this
      ·intro aw h' nx' q e1 e2;simp;simp[ju];refine hq _ _ _ ?_;simp;have:=hR h' nx' e2;rw[eok,e1]at this;exact this
      ·intro aw h' nx' q;exact hq _ _ _ q
     simp only[fH,kj]at go;rcases df with⟨ea,rfl⟩|⟨l,ea,bU⟩
     ·simp[dg,f1,f3,hb,eE,hn,hl,MD,ea];refine go _ _ (by simp) ?_ (fun _ _ _ q=>q);simp[f1]
     ·by_cases ha:16<args.length
      ·have ha2:(16:Int)<args.length:=by omega
       simp[dg,f1,f3,hb,eE,hn,hl,MD,ea,ha,ha2,fo];exact fail (by unfold tc;simp;omega)
      ·have ha2:¬(16:Int)<args.length:=by omega
       simp[dg,f1,f3,hb,eE,hn,hl,MD,ea,ha,ha2];refine go _ _ (by omega) ?_ (fun _ _ _ q=>q);simp[f1]
 ·simp[gX,f1,hb,eE];by_cases hn:nl=0∧nc=0
  ·obtain⟨rfl,rfl⟩:=hn;rcases df with⟨ea,rfl⟩|⟨l,ea,bU⟩
   ·simp[bQ,f1,f3,hb,eE,ea];refine last _ ?_ (aon c0 c3);simp[f1]
   ·simp[bQ,f1,f3,hb,eE,ea,List.length_pos_iff.2 bU,cU];exact fail (by unfold tc;simp[bU])
  ·simp[bQ,f1,f3,hb,eE,hn,cU];exact fail (by unfold tc;simp;intros;omega)
 ·simp[gX,f1,hb,eE];by_cases hn:nl=0∧nc=0
  ·obtain⟨rfl,rfl⟩:=hn;rcases df with⟨ea,rfl⟩|⟨l,ea,bU⟩
   ·by_cases NJ:client=0
    ·subst NJ;cases hz:zU res with
     |false=>rw[hz]at f3;simp[bQ,f1,f3,hb,eE,ea,cU];exact fail (by rw[acT,hz])
     |true=>rw[hz]at f3;simp[bQ,f1,f3,hb,eE,ea];refine last _ ?_ (by rw[acT,hz,ahK hz]);simp[f1]
    ·simp[bQ,f1,f3,hb,eE,ea,bq NJ,cU];exact fail (by unfold tc;simp[NJ])
   ·simp[bQ,f1,f3,hb,eE,ea,List.length_pos_iff.2 bU,cU];exact fail (by unfold tc;simp[bU])
  ·simp[bQ,f1,f3,hb,eE,hn,cU];exact fail (by unfold tc;simp;intros;omega)
theorem ZI(x:Ev)(hlen:x.args.length≤1000):TN C iO [.agg (eE x)] (·=.ret (I (if tc x=true then 0 else 1))):=by
 intro h nx;have s1:=kTSu nx;have rc:=S.r iP;have ac:=bA x.args;refine S.z8.call ?_;simp[wJ];simp[yd,eE,ac.1];have hb1:ae nx (av nx (Vv (eE x)) h)=Vv (eE x):=by simp
 have he:=E0 h nx (.cells (eE x) .fix);have hcz:(ig ⟨x.res.k,x.res.n,[]⟩ ⟨0,0,[]⟩==0)=zU x.res:=by rw[Bool.eq_iff_iff,beq_iff_eq];exact ahG _
 unfold eE at hb1 he;simp[ye,rc];refine aH.known (S.s_values_Compare ⟨x.res.k,x.res.n,[]⟩ ⟨0,0,[]⟩ (by simp) (by simp) _ _) ?_;simp[hcz];by_cases hk:x.kind<0
 ·simp[fp,hk,gY,yg (x:=x) (by omega)];exact he
 by_cases Pr:2<x.kind
 ·simp[fp,hk,Pr,gY,yg (x:=x) (by omega)];exact he
 by_cases hc:x.client<0
 ·simp[fp,hk,Pr,hc,gY,yg (x:=x) (by omega)];exact he
 by_cases hc2:3<x.client
 ·have hc3:¬x.client<4:=by omega
  simp[fp,hk,Pr,hc,hc3,gY,yg (x:=x) (by omega)];exact he
 have hc3:x.client<4:=by omega
 simp[fp,hk,Pr,hc,hc3];have key:=fun aW g1 g3=>Ux S (x:=x) (nx0:=nx) (nx:=nx.succ) (h:=av nx (Vv (eE x)) h) (tm:=aW) (R:=fun o h' nx'=>o=.ret (I (if tc x=true then 0 else 1))∧Ext h nx h' nx') hlen (by omega) g1 g3 hb1 (by omega) (by omega) (fun h' nx' e=>⟨rfl,he.trans e⟩);simp only[fH,kj]at key;refine key _ ?_ ?_<;>simp
end Ln
namespace Go.Sx
open Go
section
variable{α:Type}{z:Nat}{enc:α→List AV}
theorem Flat.parts(F:Flat z enc){l:List α}{j:Nat}(hj:j<l.length):ag enc l=ag enc (l.take j)++(enc l[j]++ag enc (l.drop (j+1))):=by
 conv=>lhs;rw[←List.take_append_drop j l,zqt hj]
 rw[fU,dd]
theorem Flat.K8(F:Flat z enc){l:List α}{j off:Nat}{vs:List AV}{y:α}(hj:j<l.length)(ho:off+vs.length≤z)(hy:enc y=(enc l[j]).take off++(vs++(enc l[j]).drop (off+vs.length))) :
  (ag enc l).take (j*z+off)++(vs++(ag enc l).drop (j*z+off+vs.length))=ag enc (l.set j y):=by
 have ht:(l.take j).length=j:=by simp;omega
 have hr:(ag enc (l.take j)).length=j*z:=by rw[F.rows,ht]
 have hz:(enc l[j]).length=z:=F.len _;rw[List.set_eq_take_append_cons_drop,if_pos hj,fU,dd,hy,F.parts hj];have h1:List.take (j*z+off) (ag enc (l.take j))=ag enc (l.take j):=OV (by rw[hr];omega);have h2:List.drop (j*z+off+vs.length) (ag enc (l.take j))=[]:=List.drop_eq_nil_of_le (by rw[hr];omega);rw[zqw,zqq,hr,h1,h2];rw[show j*z+off-j*z=off by omega,show j*z+off+vs.length-j*z=off+vs.length by omega];rw[List.take_append_of_le_length (by omega),List.drop_append_of_le_length (by omega)];simp
theorem Flat.put(F:Flat z enc){l:List α}{j:Nat}(hj:j<l.length)(y:α):(ag enc l).take (j*z)++(enc y++(ag enc l).drop (j*z+z))=ag enc (l.set j y):=by have h1:=F.len y;have:=F.K8 (off:=0) (vs:=enc y) (y:=y) hj (by omega) (by rw[List.take_zero,List.drop_eq_nil_of_le (by rw[F.len];omega)];simp);rw[h1]at this;exact this
end
end Go.Sx
namespace Ln
open Go.Sx Go
def MQ(res:List RV)(R:Out→T ah→Key→Prop):cH:=fun e tm h nx=>match e with
 |.norm|.ret=>∃l,resultsA h tm res=some l∧R (.ret (mz l)) h nx
 |.pan a=>R (.pan a) h nx
 |.exit _=>False
@[simp] theorem auv(res:List RV)(R:Out→T ah→Key→Prop)(tm:T AV)(h:T ah)(nx:Key):MQ res R .ret tm h nx=∃l,resultsA h tm res=some l∧R (.ret (mz l)) h nx:=vT Iff.rfl
@[simp] theorem asc(res:List RV)(R:Out→T ah→Key→Prop)(tm:T AV)(h:T ah)(nx:Key):MQ res R .norm tm h nx=∃l,resultsA h tm res=some l∧R (.ret (mz l)) h nx:=vT Iff.rfl
theorem FnR.call{C:bK}{f:Nat}{p:ej}(S:FnR C f p){l:List AV}{h:T ah}{nx:Key}{R:Out→T ah→Key→Prop}(hw:iH C p.body (MQ p.res R) (gw l (K 0) .nil) h nx):aH C f l h nx R:=by
 refine aH.of_wp (S.off _ _ _) S.get ?_;have e:Az C f p.res R=MQ p.res R:=by funext e tm h nx;cases e<;>simp only[Az,MQ,S.kY]<;>rfl
 rw[e];exact hw
def WJ(c:AV)(os:List Op)(h:T ah)(nx n0:Key):Prop:=(c=.nils∧os=[])∨∃b:Key,c=.slice b 0 os.length 10∧ae b h=some (.cells (ag eO os) .part)∧n0.toNat≤b.toNat∧b.toNat<nx.toNat
theorem WJ.ext{c:AV}{os:List Op}{h h':T ah}{nx nx' n0:Key}(g:WJ c os h nx n0)(e:Ext h nx h' nx'):WJ c os h' nx' n0:=by
 rcases g with g|⟨b,h1,h2,h3,h4⟩
 ·exact .inl g
 ·exact .inr ⟨b,h1,by rw[e.g b h4];exact h2,h3,by have:=e.n;omega⟩
theorem WJ.ne{c:AV}{os:List Op}{h h':T ah}{nx nx' n0 k:Key}(g:WJ c os h nx n0)(hn:nx.toNat≤nx'.toNat)(hk:∀l,ae k h≠some (.cells l .part))(e:∀b:Key,b.toNat<nx.toNat→b≠k→ae b h'=ae b h):WJ c os h' nx' n0:=by
 rcases g with g|⟨b,h1,h2,h3,h4⟩
 ·exact .inl g
 ·exact .inr ⟨b,h1,by rw[e b h4 (fun q=>by subst q;exact hk _ h2)];exact h2,h3,by omega⟩
theorem WJ.add{c:AV}{os:List Op}{h:T ah}{nx n0:Key}(g:WJ c os h nx n0)(h0:n0.toNat≤nx.toNat)(hl:os.length≤1000)(y:Op) :
  ∃c' h' nx',appendTo 10 c (eO y) 1 h nx=.val c' h' nx'∧WJ c' (os ++ [y]) h' nx' n0∧nx.toNat≤nx'.toNat∧(∀b:Key,b.toNat<n0.toNat→ae b h'=ae b h)∧∀b:Key,b.toNat<nx.toNat→(∀l,ae b h≠some (.cells l .part))→ae b h'=ae b h:=by
 have s1:=kTSu nx;have hc:(eO y).all AV.aP=true:=vJ.2 (ez.cell y);rcases g with⟨rfl,rfl⟩|⟨b,rfl,h2,h3,h4⟩
 ·exact⟨.slice nx 0 1 10,av nx (some (.cells (eO y) .part)) h,nx.succ,by simp,.inr ⟨nx,rfl,by simp[fj],h0,by omega⟩,by omega,fun b hb=>az (by omega),fun b hb _=>az hb⟩
 ·have hr:=ez.rows os;have MD:os.length+1≤1048576:=by omega
  refine⟨.slice nx 0 (os.length+1) 10,av nx (some (.cells (ag eO os++eO y) .part)) (av b none h),nx.succ,?_,.inr ⟨nx,by simp,by rw[fU,fj];simp,h0,by omega⟩,by omega,fun x hx=>?_,fun x hx hk=>?_⟩
  ·simp[MD,hc,h2,hr,Cx]
  ·rw[az (by omega),az (by omega)]
  ·rw[az hx,aR];rintro rfl;exact hk _ h2
def GJ(s:Sc):List AV:=[I s.o0,I s.o1,I s.o2,I s.o3]
theorem Kc(s:Sc):(GJ s).length=4:=rfl
theorem Ou(s:Sc){c:Nat}(h:c<4):(GJ s)[c]?=some (I (s.op c)):=by
 have:c=0∨c=1∨c=2∨c=3:=by omega
 rcases this with rfl|rfl|rfl|rfl<;>simp[GJ,Sc.op]
theorem UF(s:Sc){c:Nat}(h:c<4)(v:Int):List.take c (GJ s)++I v ::List.drop (c+1) (GJ s)=GJ (s.set c v):=by
 have:c=0∨c=1∨c=2∨c=3:=by omega
 rcases this with rfl|rfl|rfl|rfl<;>simp[GJ,Sc.set]
abbrev LG:aG:=(.block 4 (.seq (.ops iS)
 (.cond (.t (K 53))
 (.seq (.seq (.ops lY)
 (.cond (.t (K 56))
 (.seq (.ops sb)
 .ret)
 .skip))
 (.seq (.ops lZ)
 (.ops l3)))
 (.seq (.ops lV)
 (.cond (.t (K 73))
 (.seq (.seq (.ops l5)
 (.cond (.t (K 76))
 (.seq (.ops sc)
 .ret)
 .skip))
 (.seq (.staged se ⟨[K 77,K 78,K 79,K 80,K 81,K 82,K 83,K 84,K 85,K 86,K 87],[]⟩)
 (.ops sf)))
 (.seq (.ops rQ)
 (.cond (.t (K 91))
 (.seq (.ops rW)
 (.block 5 (.loop tT)))
 .skip)))))))
structure At(l:List Ev)(s:Sc)(i:Nat)(bo n0:Key)(tm:T AV)(h:T ah)(nx:Key):Prop where
 g8:ae (K 8) tm=some (.ptr bo 0)
 g35:ae (K 35) tm=some (.sl (ag eE l) l.length 8 .any)
 g36:ae (K 36) tm=some (I l.length)
 g37:ae (K 37) tm=some (I i)
 YZ:∃c,ae (K 7) tm=some c∧WJ c s.ops h nx n0
 GJ:ae bo h=Vv (GJ s)
 bo0:n0.toNat≤bo.toNat
 bo1:bo.toNat<nx.toNat
variable{C:bK}
theorem aiK{l:List Ev}{s:Sc}{i:Nat}{bo n0 nb:Key}{x:Ev}{Q:cH}{tm:T AV}{h:T ah}{nx:Key}(A:At l s i bo n0 tm h nx)(hx:tc x=true)(hk:x.kind=0)(hl:s.ops.length≤1000)(bU:bo≠nb)(hnb:nb.toNat<nx.toNat)
  (g9:ae (K 9) tm=some (I i)) (g10:ae (K 10) tm=some (.ptr nb 0)) (gb:ae nb h=Vv (eE x)) (g12:ae (K 12) tm=some (I (s.op x.client))) (ZX:ae (K 52) tm=some (I x.kind))
  (DU:∀aw,th s x=2→ae (K 2) aw=some .nils→ae (K 3) aw=some (I 20)→Q .ret aw h nx)
  (fg:∀aw h' nx',th s x=0→At l (jO i s x) i bo n0 aw h' nx'→(∀b:Key,b.toNat<n0.toNat→ae b h'=ae b h)→nx.toNat≤nx'.toNat→Q .norm aw h' nx') :
  iH C LG Q tm h nx:=by
 have VL:=hx;unfold tc at VL;rw[decide_eq_true_eq]at VL;obtain⟨_,_,c0,c3,_⟩:=VL;obtain⟨g8,g35,g36,g37,⟨c7,g7,YZ⟩,go,bo0,bo1⟩:=A;have hb:th s x=if 0≤s.op x.client then 2 else 0:=by unfold th;rw[hx];simp[hk]
 obtain⟨kind,client,⟨nl,nc⟩,args,res⟩:=x;have hk:kind=0:=hk;subst hk;obtain⟨c,rfl⟩:=Int.eq_ofNat_of_zero_le c0;have hc4:c<4:=by have:((c:Nat):Int)≤3:=c3;omega
 have hg:=Ou s hc4;have hp:=fun v=>UF s hc4 v;have ol:=Kc s;have hc3:c≤3:=by omega
 simp;simp[iS,ZX];by_cases ho:s.op c<0
 ·have Ix:th s ⟨0,c,(nl,nc),args,res⟩=0:=by rw[hb,if_neg];simpa using ho
  simp[lY,g12,ho];have VN:∀ls,ae bo h≠some (.cells ls .part):=fun ls e=>by rw[go]at e;cases e
  have ac:=bA args;have af:∀n H,aN n (aK args) H=(aK args,H):=dn args;have s1:=kTSu nx;have aws:WJ c7 s.ops (av bo (Vv (GJ (s.set c s.ops.length))) h) nx n0:=YZ.ne (fa _) VN (fun b _ hb=>aR _ _ _ _ hb);have go1:ae bo (av bo (Vv (GJ (s.set c s.ops.length))) h)=Vv (GJ (s.set c s.ops.length)):=by simp
  have gb1:ae nb (av bo (Vv (GJ (s.set c s.ops.length))) h)=Vv (eE ⟨0,c,(nl,nc),args,res⟩):=by rw[aR _ _ _ _ (Ne.symm bU)];exact gb
  have ao1:∀b:Key,b.toNat<n0.toNat→ae b (av bo (Vv (GJ (s.set c s.ops.length))) h)=ae b h:=fun b hb=>az (by omega);have fin:∀aW:T AV,(∀k:Key,k=K 7∨k=K 8∨k=K 9∨k=K 10∨k=K 35∨k=K 36∨k=K 37→ae k aW=ae k tm)→lH C (aA 4 Q) l3 aW (av bo (Vv (GJ (s.set c s.ops.length))) h) nx:=by
   intro aW q;have q7:=(q (K 7) (by simp)).trans g7;have q8:=(q (K 8) (by simp)).trans g8;have q9:=(q (K 9) (by simp)).trans g9;have q10:=(q (K 10) (by simp)).trans g10;generalize av bo (Vv (GJ (s.set c s.ops.length))) h=h1 at aws go1 gb1 ao1 ⊢;have aik:=aws.ext (E0 h1 nx (.cells (eO (za i ⟨0,c,(nl,nc),args,res⟩)) .fix));obtain⟨c',h',nx',ga,aDh,n3,aDi,awt⟩:=aik.add (by omega) hl (za i ⟨0,c,(nl,nc),args,res⟩);have ey:eO (za i ⟨0,c,(nl,nc),args,res⟩)=[I c,I i,I (-1),I (-1),.str nl nc,aK args,I 0,I 0,.str 0 0,.nils]:=rfl;rw[ey]at ga;simp[-appendTo,l3,q7,q9,q10,gb1,eE,ac.1,ac.2,af,ga];have hn:jO i s ⟨0,c,(nl,nc),args,res⟩={s.set c s.ops.length with ops:=s.ops ++ [za i ⟨0,c,(nl,nc),args,res⟩]}:=by unfold jO;simp
   refine fg _ _ _ Ix ⟨by simp[q8],?_,?_,?_,⟨c',by simp,?_⟩,?_,bo0,by omega⟩ ?_ (by omega)
   ·simp;exact(q (K 35) (by simp)).trans g35
   ·simp;exact(q (K 36) (by simp)).trans g36
   ·simp;exact(q (K 37) (by simp)).trans g37
   ·rw[hn];exact aDh
   ·rw[hn,awt bo (by omega) (fun ls e=>by rw[az bo1,go1]at e;cases e),az bo1,go1];rfl
   ·intro b gx;rw[aDi b gx,az (by omega),ao1 b gx]
  rcases YZ with⟨e7,eo⟩|⟨b7,e7,hb7,_,amb⟩
  ·rw[e7]at g7;have e0:s.ops.length=0:=by simp[eo]
   rw[e0]at fin;have hp0:=hp 0;simp[lZ,g7,g8,g10,gb,eE,go,ol,hc4,hp0,hg,hc3];refine fin _ ?_;rintro k (rfl|rfl|rfl|rfl|rfl|rfl|rfl)<;>simp[g7]
  ·rw[e7]at g7;have hp0:=hp s.ops.length;simp[lZ,g7,g8,g10,gb,eE,go,ol,hc4,hp0,hg,hc3];refine fin _ ?_;rintro k (rfl|rfl|rfl|rfl|rfl|rfl|rfl)<;>simp[g7]
 ·have Ix:th s ⟨0,c,(nl,nc),args,res⟩=2:=by rw[hb,if_pos];simpa using ho
  simp[lY,g12,ho];simp[sb];refine DU _ Ix ?_ ?_<;>simp
theorem asd{l:List Ev}{s:Sc}{i:Nat}{bo n0 nb:Key}{x:Ev}{Q:cH}{tm:T AV}{h:T ah}{nx:Key}(A:At l s i bo n0 tm h nx)(hx:tc x=true)(hk:x.kind=1)(Jg:s.op x.client<s.ops.length)(bU:bo≠nb)(hnb:nb.toNat<nx.toNat)
  (g9:ae (K 9) tm=some (I i)) (g10:ae (K 10) tm=some (.ptr nb 0)) (gb:ae nb h=Vv (eE x)) (g12:ae (K 12) tm=some (I (s.op x.client))) (ZX:ae (K 52) tm=some (I x.kind))
  (DU:∀aw,th s x=3→ae (K 2) aw=some .nils→ae (K 3) aw=some (I 25)→Q .ret aw h nx)
  (fg:∀aw h' nx',th s x=0→At l (jO i s x) i bo n0 aw h' nx'→(∀b:Key,b.toNat<n0.toNat→ae b h'=ae b h)→nx.toNat≤nx'.toNat→Q .norm aw h' nx') :
  iH C LG Q tm h nx:=by
 have VL:=hx;unfold tc at VL;rw[decide_eq_true_eq]at VL;obtain⟨_,_,c0,c3,_⟩:=VL;obtain⟨g8,g35,g36,g37,⟨c7,g7,YZ⟩,go,bo0,bo1⟩:=A;have hb:th s x=if s.op x.client<0 then 3 else 0:=by unfold th;rw[hx];simp[hk]
 obtain⟨kind,client,⟨nl,nc⟩,args,res⟩:=x;have hk:kind=1:=hk;subst hk;obtain⟨c,rfl⟩:=Int.eq_ofNat_of_zero_le c0;have hc4:c<4:=by have:((c:Nat):Int)≤3:=c3;omega
 have hg:=Ou s hc4;have hp:=fun v=>UF s hc4 v;have ol:=Kc s;have hc3:c≤3:=by omega
 simp;simp[iS,ZX];simp[lV,ZX];by_cases ho:s.op c<0
 ·have Ix:th s ⟨1,c,(nl,nc),args,res⟩=3:=by rw[hb,if_pos];simpa using ho
  simp[l5,g12,ho];simp[sc];refine DU _ Ix ?_ ?_<;>simp
 ·have Ix:th s ⟨1,c,(nl,nc),args,res⟩=0:=by rw[hb,if_neg];simpa using ho
  simp[l5,g12,ho];have Jg:s.op c<s.ops.length:=Jg;obtain⟨a,ha⟩:=Int.eq_ofNat_of_zero_le (show 0≤s.op c by omega);have hal:a<s.ops.length:=by omega
  rcases YZ with⟨e7,eo⟩|⟨b7,e7,hb7,ars,amb⟩
  ·rw[eo]at hal;simp at hal
  ·rw[e7]at g7;have amc:b7≠bo:=by rintro rfl;rw[go]at hb7;simp at hb7
   have aDj:b7≠nb:=by rintro rfl;rw[gb]at hb7;simp at hb7
   have hr:=ez.rows s.ops;have p1:=ez.K8 (l:=s.ops) (j:=a) (off:=2) (vs:=[I i]) (y:={s.ops[a]with e:=i}) hal (by simp) rfl;have aDk:a<(s.ops.set a {s.ops[a]with e:=i}).length:=by simpa using hal
   have Pq:=ez.rows (s.ops.set a {s.ops[a]with e:=i});have p2:=ez.K8 (l:=s.ops.set a {s.ops[a]with e:=i}) (j:=a) (off:=6) (vs:=eU res) (y:={s.ops[a]with e:=i,res:=res}) aDk (by simp[eU]) (by simp[eO,eU]);simp[eU]at p1 p2 Pq;rw[ha]at g12;have hb1:a*10+2<s.ops.length*10:=by omega
   have hb2:a*10+2+1≤s.ops.length*10:=by omega
   have hb3:a*10+6+4≤s.ops.length*10:=by omega
   have gnb:∀B,ae nb (av b7 B h)=Vv (eE ⟨1,c,(nl,nc),args,res⟩):=fun B=>by rw[aR _ _ _ _ (Ne.symm aDj)];exact gb
   have gbo:∀B,ae bo (av b7 B h)=Vv (GJ s):=fun B=>by rw[aR _ _ _ _ (Ne.symm amc)];exact go
   have hbr:AV.beq (.agg [I res.k,I res.n,.str 0 0,.nils]) (.agg [I res.k,I res.n,.str 0 0,.nils])=true:=beq_refl _ rfl;simp[se,g7,g9,g10,g12,gb,eE,hal,hb7,hr,Pq,hb2,hb3,p1,p2,gnb,hbr];have hp1:=hp (-1);simp[sf,g8,g10,gnb,gbo,eE,ol,hc4,hp1,hc3];have hn:jO i s ⟨1,c,(nl,nc),args,res⟩={s.set c (-1)with ops:=s.ops.modify a fun o=>{o with e:=i,res:=res}}:=by unfold jO;simp[ha]
   have hm:s.ops.modify a (fun o=>{o with e:=(i:Int),res:=res})=s.ops.set a {s.ops[a]with e:=i,res:=res}:=by
    apply List.ext_getElem?;intro q;rw[List.getElem?_modify,List.getElem?_set];by_cases hq:a=q
    ·subst hq;simp[hal]
    ·simp[hq]
   refine fg _ _ _ Ix ⟨by simp[g8],by simp[g35],by simp[g36],by simp[g37],⟨.slice b7 0 s.ops.length 10,by simp[g7],.inr ⟨b7,?_,?_,ars,amb⟩⟩,?_,bo0,bo1⟩ ?_ (fa _)
   ·rw[hn];simp
   ·rw[hn];show ae b7 _=some (ah.cells (ag eO (s.ops.modify a _)) CK.part);rw[hm,aR _ _ _ _ amc];simp
   ·rw[hn];simp;rfl
   ·intro b gx;rw[az (by omega),az (by omega)]
end Ln
namespace Ln
open Go.Sx Go
def wW(i:Nat)(s:Sc):Nat→List Op
 |0=>s.ops
 |j+1=>mH i (s.op j) (wW i s j)
def clr(s:Sc):Nat→Sc
 |0=>s
 |j+1=>(clr s j).set j (-1)
theorem WH(i:Nat)(v:Int)(l:List Op):(mH i v l).length=l.length:=by unfold mH;split<;>simp
theorem Ti(i:Nat)(s:Sc):∀j,(wW i s j).length=s.ops.length
 |0=>rfl
 |j+1=>by show(mH i (s.op j) (wW i s j)).length=_;rw[WH,Ti i s j]
theorem aih{i a:Nat}{v:Int}{l:List Op}(hv:v=a)(ha:a<l.length):mH i v l=l.set a {l[a]with lost:=i}:=by
 subst hv;unfold mH;rw[if_pos (by omega)];apply List.ext_getElem?;intro q;rw[List.getElem?_modify,List.getElem?_set];by_cases hq:a=q
 ·subst hq;simp[ha]
 ·simp[hq]
theorem al8{i:Nat}{v:Int}{l:List Op}(hv:v<0):mH i v l=l:=by unfold mH;rw[if_neg (by omega)]
def SwI(l:List Ev)(s:Sc)(i:Nat)(bo n0:Key)(h:T ah)(nx:Key)(c7:AV)(m:Nat)(aw:T AV)(h':T ah)(nx':Key):Prop:=∃j:Nat,m=4-j∧j≤4∧nx'=nx∧
 ae (K 7) aw=some c7∧ae (K 8) aw=some (.ptr bo 0)∧ae (K 9) aw=some (I i)∧ae (K 35) aw=some (.sl (ag eE l) l.length 8 .any)∧ae (K 36) aw=some (I l.length)∧ae (K 37) aw=some (I i)∧
 ae (K 93) aw=some (.agg (GJ s))∧ae (K 94) aw=some (I j)∧WJ c7 (wW i s j) h' nx n0∧ae bo h'=Vv (GJ (clr s j))∧(∀b:Key,b.toNat<n0.toNat→ae b h'=ae b h)
variable{C:bK}
theorem aii{l:List Ev}{s:Sc}{i:Nat}{bo n0:Key}{x:Ev}{Q:cH}{tm:T AV}{h:T ah}{nx:Key}(A:At l s i bo n0 tm h nx)(hx:tc x=true)(hk:x.kind=2)(Jg:∀c,0≤c→c≤3→s.op c<s.ops.length)(hl:s.ops.length≤1000)
  (g9:ae (K 9) tm=some (I i)) (ZX:ae (K 52) tm=some (I x.kind))
  (fg:∀aw h' nx',th s x=0→At l (jO i s x) i bo n0 aw h' nx'→(∀b:Key,b.toNat<n0.toNat→ae b h'=ae b h)→nx.toNat≤nx'.toNat→Q .norm aw h' nx') :
  iH C LG Q tm h nx:=by
 obtain⟨g8,g35,g36,g37,⟨c7,g7,YZ⟩,go,bo0,bo1⟩:=A;have Ix:th s x=0:=by unfold th;rw[hx];simp[hk]
 have hn:jO i s x=⟨mH i s.o3 (mH i s.o2 (mH i s.o1 (mH i s.o0 s.ops))),-1,-1,-1,-1⟩:=by unfold jO;simp[hk]
 rw[hk]at ZX;simp;simp[iS,ZX];simp[lV,ZX];simp[rQ,ZX];have ol:=Kc s;have ot:List.take 4 (GJ s)=GJ s:=rfl;have oz:∀H,aN 9999 (.agg (GJ s)) H=(.agg (GJ s),H):=fun H=>by simp[GJ]
 simp[rW,g8,go,ol,ot,oz];refine W.cM (n:=4) (SwI l s i bo n0 h nx c7) ?_ ?_
 ·refine⟨0,rfl,by omega,rfl,?_,?_,?_,?_,?_,?_,?_,?_,YZ,go,fun _ _=>rfl⟩<;>simp[*]
 ·rintro m dD h1 bF ⟨j,rfl,hj,rfl,g7,g8,g9,g35,g36,g37,g93,g94,YZ,go,aeU⟩;refine W.of ?_;simp[tT];simp[Ar,g94];refine⟨fun bY=>?_,fun Rg=>?_⟩
  ·have hj4:j<4:=by omega
   have hj3:j≤3:=by omega
   have hg:=Ou s hj4;have hp:=UF (clr s j) hj4 (-1);have ol2:=Kc (clr s j);have hjb:=Jg j (by omega) (by omega);have hlen:=Ti i s j;simp[As,g93,g94,hj4,hg];have fin:∀(aW:T AV) (h2:T ah),(∀k:Key,k=K 7∨k=K 8∨k=K 9∨k=K 35∨k=K 36∨k=K 37∨k=K 93∨k=K 94→ae k aW=ae k dD)→ae (K 13) aW=some (I j)→WJ c7 (wW i s (j+1)) h2 bF n0→ae bo h2=Vv (GJ (clr s j))→(∀b:Key,b.toNat<n0.toNat→ae b h2=ae b h)→
     lH C (aA 6 (aM (iH C (.ops rX) (aM (fun tm h' nx=>∃m,m<4-j∧SwI l s i bo n0 h bF c7 m tm h' nx) (aA 5 (aA 4 Q)))) (aM (fun tm h' nx=>∃m,m<4-j∧SwI l s i bo n0 h bF c7 m tm h' nx) (aA 5 (aA 4 Q))))) rY aW h2 bF:=by
    intro aW h2 q q13 aik go2 aBN;have q7:=(q (K 7) (by simp)).trans g7;have q8:=(q (K 8) (by simp)).trans g8;have q9:=(q (K 9) (by simp)).trans g9;have q35:=(q (K 35) (by simp)).trans g35;have q36:=(q (K 36) (by simp)).trans g36;have q37:=(q (K 37) (by simp)).trans g37;have q93:=(q (K 93) (by simp)).trans g93;have q94:=(q (K 94) (by simp)).trans g94;simp[rY,q13,q8,go2,hj4,hj3,ol2,hp];simp[rX,q94];rw[aC (by omega) (by omega)];refine⟨4-(j+1),by omega,j+1,rfl,by omega,rfl,by simp[q7],by simp[q8],by simp[q9],by simp[q35],by simp[q36],by simp[q37],by simp[q93],by simp,?_,by simp[clr],fun b hb=>?_⟩
    ·exact aik.ne (fa _) (fun ls e=>by rw[go2]at e;simp at e) (fun b _ hb=>aR _ _ _ _ hb)
    ·rw[az (by omega)];exact aBN b hb
   by_cases ho:s.op j<0
   ·simp[rZ,ho];refine fin _ h1 ?_ ?_ ?_ go aeU
    ·rintro k (rfl|rfl|rfl|rfl|rfl|rfl|rfl|rfl)<;>simp
    ·simp
    ·show WJ c7 (mH i (s.op j) (wW i s j)) h1 bF n0;rw[al8 ho];exact YZ
   ·obtain⟨a,ha⟩:=Int.eq_ofNat_of_zero_le (show 0≤s.op j by omega);have hal:a<(wW i s j).length:=by omega
    have ho2:¬(a:Int)<0:=by omega
    rcases YZ with⟨e7,eo⟩|⟨b7,e7,hb7,ars,amb⟩
    ·rw[eo]at hal;simp at hal
    ·have g7':=g7;rw[e7]at g7;have amc:b7≠bo:=by rintro rfl;rw[go]at hb7;simp at hb7
     have hr:=ez.rows (wW i s j);have p1:=ez.K8 (l:=wW i s j) (j:=a) (off:=3) (vs:=[I i]) (y:={(wW i s j)[a]with lost:=i}) hal (by simp) rfl;simp at p1;have hb2:a*10+3+1≤(wW i s j).length*10:=by omega
     simp[rZ,ha,ho2];simp[Au,g7,g9,hal,hb7,hr,hb2,p1];refine fin _ _ ?_ ?_ ?_ ?_ ?_
     ·rintro k (rfl|rfl|rfl|rfl|rfl|rfl|rfl|rfl)<;>simp[g7]
     ·simp
     ·refine .inr ⟨b7,by rw[e7];simp[wW,WH],?_,ars,amb⟩;show _=some (ah.cells (ag eO (mH i (s.op j) (wW i s j))) CK.part);rw[aih ha hal];simp
     ·rw[aR _ _ _ _ (Ne.symm amc)];exact go
     ·intro b hb;rw[az (by omega)];exact aeU b hb
  ·have:j=4:=by omega
   subst this;refine fg _ _ _ Ix ⟨by simp[g8],by simp[g35],by simp[g36],by simp[g37],⟨c7,by simp[g7],?_⟩,?_,bo0,bo1⟩ aeU (fa _)
   ·rw[hn];have:wW i s 4=mH i s.o3 (mH i s.o2 (mH i s.o1 (mH i s.o0 s.ops))):=by simp[wW,Sc.op]
    rw[this]at YZ;exact YZ
   ·rw[hn,go];simp[clr,Sc.set,GJ]
end Ln
namespace Ln
open Go.Sx Go
def sc0:Sc:=⟨[],-1,-1,-1,-1⟩
theorem kp0:Kp [] sc0:=by
 refine⟨rfl,?_,?_,?_,?_⟩
 ·intro c a b;unfold sc0 Sc.op kH;repeat' split<;>simp
 ·intro c _;unfold sc0 Sc.op;simp
 ·intro c a b h;unfold sc0 Sc.op at h;simp at h
 ·intro j o h;simp[sc0]at h
theorem Kp.lt{p:List Ev}{s:Sc}(h:Kp p s):∀c,0≤c→c≤3→s.op c<s.ops.length:=by
 intro c a b;by_cases h0:0≤s.op c
 ·obtain⟨o,h1,_⟩:=h.here c a b h0;have:=(List.getElem?_eq_some_iff.1 h1).1;omega
 ·omega
def ScI(l:List Ev)(bo:Key)(h:T ah)(nx:Key)(m:Nat)(aw:T AV)(h':T ah)(nx':Key):Prop:=∃(i:Nat) (s:Sc),m=l.length-i∧i≤l.length∧At l s i bo nx aw h' nx'∧Kp (l.take i).reverse s∧scan 0 sc0 l=scan i s (l.drop i)∧Ext h nx h' nx'
def apr(l:List Ev)(h:T ah)(nx:Key)(o:Out)(h':T ah)(nx':Key):Prop:=(∃c,o=.ret (.tuple [c,I (jn (bI [] l))])∧WJ c (if bI [] l=0 then bO 0 l else []) h' nx' nx)∧Ext h nx h' nx'
variable{C:bK}{X:Kn}(S:Std C X)
include S
omit S in
theorem Qz{l:List Ev}{s:Sc}{i:Nat}{x:Ev}{t:List Ev}{n:Nat}(hs:scan 0 sc0 l=scan i s (x ::t))(hb:th s x=n+1):bI [] l=n+1:=by
 have h1:=XQ l;have h2:scan i s (x ::t)=(n+1,[]):=by show(match th s x with|0=>scan (i+1) (jO i s x) t|n=>(n,[]))=_;rw[hb];rfl
 have:(⟨[],-1,-1,-1,-1⟩:Sc)=sc0:=rfl;rw[this,hs,h2]at h1;exact(congrArg Prod.fst h1).symm
omit S in
theorem akk{l:List Ev}{s:Sc}{i:Nat}(hs:scan 0 sc0 l=scan i s []):bI [] l=0∧bO 0 l=s.ops:=by have h1:=XQ l;have:(⟨[],-1,-1,-1,-1⟩:Sc)=sc0:=rfl;have h2:scan i s []=(0,s.ops):=rfl;rw[this,hs,h2]at h1;have h3:=(congrArg Prod.fst h1).symm;have h4:=(congrArg Prod.snd h1).symm;simp only at h3 h4;rw[if_pos h3]at h4;exact⟨h3,h4⟩
theorem ab7{l:List Ev}(hl:YY l){dD:T AV}{h h1:T ah}{nx bF bo:Key}{s:Sc}{i:Nat}{Q:cH}(hi:i<l.length)(A:At l s i bo nx dD h1 bF)(kp:Kp (l.take i).reverse s)(hs:scan 0 sc0 l=scan i s (l.drop i))(e1:Ext h nx h1 bF)
  (Eb:∀aw h' nx',ae (K 2) aw=some .nils→ae (K 3) aw=some (I (jn (bI [] l)))→bI [] l≠0→Ext h nx h' nx'→Q .ret aw h' nx')
  (YK:∀aw h' nx' m,m<l.length-i→ScI l bo h nx m aw h' nx'→Q .norm aw h' nx') :
  iH C jW Q dD h1 bF:=by
 have aew:=hl.len;have rf:=S.r iO;have s1:=kTSu bF;have A':=A;obtain⟨g8,g35,g36,g37,⟨c7,g7,YZ⟩,go,bo0,bo1⟩:=A';have hii:(i:Int)<l.length:=by omega
 have hlen:=jo.rows l;have h8:8≤l.length*8-i*8:=by omega
 have ec:=jo.at hi;have IS:=hl.args _ (Mg hi);have hz:∀H,aN 9999 (.agg (eE l[i])) H=(.agg (eE l[i]),H):=fun H=>by have:=cn (n:=9998) (l:=eE l[i]) (h:=H) (jo.vV _);simp only[Tn];rw[this]
 have he:List.take 8 (eE l[i])=eE l[i]:=rfl;have hl8:(eE l[i]).length=8:=rfl;have RA:(eE l[i]).all AV.aP=true:=vJ.2 (jo.cell _);rw[zqt hi]at hs;have Hr:(l.take (i+1)).reverse=l[i] ::(l.take i).reverse:=by rw[Zz hi];simp
 have qX:(l.take i).reverse.length=i:=by simp;omega
 generalize l[i]=x at *;simp[jW];simp[ma,g36,g37,hii];simp[Bf,g35,g37,hi,hlen,h8,ec,he,hl8,RA];simp[Bg,rf,he,hl8,hz];have zB:=e1.trans (E0 h1 bF (.cells (eE x) .fix));refine(ZI S x IS _ _).mono ?_;rintro o h2 aU ⟨rfl,e2⟩;have VJ:=zB.trans e2;have gb2:ae bF h2=Vv (eE x):=by rw[e2.g bF (by omega)];simp
 have go2:ae bo h2=Vv (GJ s):=by rw[e2.g bo (by omega),az bo1];exact go
 have aik:WJ c7 s.ops h2 aU nx:=(YZ.ext (E0 h1 bF (.cells (eE x) .fix))).ext e2;have n2:=e2.n;simp;cases sO:tc x with
 |false=>
  simp[sB];simp[Bh];have hv:=Qz hs (n:=0) (by unfold th;rw[sO];rfl);refine Eb _ _ _ ?_ ?_ (by omega) VJ
  ·simp
  ·simp[hv,jn]
 |true=>
  simp[sB];have hx2:0≤x.client∧x.client≤3:=by have h0:=sO;unfold tc at h0;rw[decide_eq_true_eq]at h0;exact⟨h0.2.2.1,h0.2.2.2.1⟩
  obtain⟨c,hc⟩:=Int.eq_ofNat_of_zero_le hx2.1;have hc4:c<4:=by omega
  have hc3:c≤3:=by omega
  have hg:=Ou s hc4;have ol:=Kc s;simp[Bi,g8,gb2,eE,hc,hc4,hc3,go2,hg,ol];simp[Bj,gb2,eE];have BT:x.kind=0∨x.kind=1∨x.kind=2:=by unfold tc at sO;rw[decide_eq_true_eq]at sO;omega
  have bU:bo≠bF:=by rintro rfl;omega
  have sol:s.ops.length≤1000:=by have:=vX (l.take i) 0;have h3:=kp.ops;rw[List.reverse_reverse]at h3;rw[h3];simp at this;omega
  have hcx:x.client=(c:Int):=hc;have fin:∀(SS:T AV) (h3:T ah) (cF:Key),th s x=0→At l (jO i s x) i bo nx SS h3 cF→(∀b:Key,b.toNat<nx.toNat→ae b h3=ae b h2)→aU.toNat≤cF.toNat→
    (aA 3 (aM (iH C (.ops fX) Q) Q)) .norm SS h3 cF:=by
   intro SS h3 cF hb A3 low n3;obtain⟨a8,a35,a36,a37,⟨d7,a7,as1⟩,ao,ab0,ab1⟩:=A3;simp;simp[fX,a37];rw[aC (by omega) (by omega)];refine YK _ _ _ (l.length-(i+1)) (by omega) ⟨i+1,jO i s x,rfl,by omega,⟨by simp[a8],by simp[a35],by simp[a36],by simp,⟨d7,by simp[a7],as1⟩,ao,ab0,ab1⟩,?_,?_,?_⟩
   ·have:=adU kp sO hb;rw[qX]at this;rw[Hr];exact this
   ·rw[hs];show(match th s x with|0=>scan (i+1) (jO i s x) _|n=>(n,[]))=_;rw[hb];rfl
   ·exact⟨by have:=VJ.n;omega,fun b hb=>by rw[low b hb];exact VJ.g b hb⟩
  have hg2:∀hh,(GJ s)[c]'hh=I (s.op c):=fun hh=>by have:=xF hh;rw[hg]at this;exact(Option.some.inj this).symm
  simp only[hg2];have A2:∀SS:T AV,(∀k:Key,k=K 7∨k=K 8∨k=K 35∨k=K 36∨k=K 37→ae k SS=ae k dD)→At l s i bo nx SS h2 aU:=fun SS q=>
   ⟨(q (K 8) (by simp)).trans g8,(q (K 35) (by simp)).trans g35,(q (K 36) (by simp)).trans g36,(q (K 37) (by simp)).trans g37,⟨c7,(q (K 7) (by simp)).trans g7,aik⟩,go2,bo0,by omega⟩
  rcases BT with k0|k0|k0
  ·have key:=fun SS A g9 g10 g12 ZX=>aiK (C:=C) (Q:=aA 3 (aM (iH C (.ops fX) Q) Q)) (tm:=SS) A sO k0 sol bU (by omega) g9 g10 gb2 g12 ZX (fun aw hb e2 e3=>by simp;have hv:=Qz hs (n:=1) hb;exact Eb _ _ _ e2 (by rw[hv];exact e3) (by omega) VJ) (fun aw h' nx' hb A' low n=>fin aw h' nx' hb A' low n)
   simp only[LG,zR,fH,kj]at key;refine key _ (A2 _ ?_) ?_ ?_ ?_ ?_
   ·rintro k (rfl|rfl|rfl|rfl|rfl)<;>simp
   all_goals simp[hcx]
  ·have key:=fun SS A g9 g10 g12 ZX=>asd (C:=C) (Q:=aA 3 (aM (iH C (.ops fX) Q) Q)) (tm:=SS) A sO k0 (kp.lt _ hx2.1 hx2.2) bU (by omega) g9 g10 gb2 g12 ZX (fun aw hb e2 e3=>by simp;have hv:=Qz hs (n:=2) hb;exact Eb _ _ _ e2 (by rw[hv];exact e3) (by omega) VJ) (fun aw h' nx' hb A' low n=>fin aw h' nx' hb A' low n)
   simp only[LG,zR,fH,kj]at key;refine key _ (A2 _ ?_) ?_ ?_ ?_ ?_
   ·rintro k (rfl|rfl|rfl|rfl|rfl)<;>simp
   all_goals simp[hcx]
  ·have key:=fun SS A g9 ZX=>aii (C:=C) (Q:=aA 3 (aM (iH C (.ops fX) Q) Q)) (tm:=SS) A sO k0 kp.lt sol g9 ZX (fun aw h' nx' hb A' low n=>fin aw h' nx' hb A' low n);simp only[LG,zR,fH,kj]at key;refine key _ (A2 _ ?_) ?_ ?_
   ·rintro k (rfl|rfl|rfl|rfl|rfl)<;>simp
   all_goals simp
theorem ale{ev:AV}{l:List Ev}(hv:iB 8 eE ev l)(hl:YY l)(h:T ah)(nx:Key):aH C kU [ev] h nx (apr l h nx):=by
 have aew:=hl.len;have s1:=kTSu nx;refine S.FD.call ?_;simp[Cc];simp[Du];simp[Dv];simp[Dw];have zY:∀{c:AV} {h':T ah} {nx':Key} {s:Sc} {i:Nat},scan 0 sc0 l=scan i s []→WJ c s.ops h' nx' nx→Ext h nx h' nx'→apr l h nx (.ret (.tuple [c,I 0])) h' nx':=by intro c h' nx' s i hs g e;obtain⟨h1,h2⟩:=akk hs;refine⟨⟨c,by rw[h1];rfl,?_⟩,e⟩;rw[if_pos h1,h2];exact g
 rcases hv with⟨rfl,rfl⟩|rfl
 ·simp;refine W.Iy (W.of ?_);simp[uj];simp[uk];simp[um];simp[sC];simp[sD];simp[sE];refine W.Iy (W.of ?_);simp[jW];simp[ma];simp[sF];exact zY (s:=sc0) (i:=0) rfl (.inl ⟨rfl,rfl⟩) (E0 h nx _)
 ·simp;refine W.cM (n:=l.length) (fun m aw h' nx'=>∃j b:Nat,m=l.length-j∧j≤l.length∧b≤j∧ae (K 0) aw=some (.sl (ag eE l) l.length 8 .any)∧ae (K 15) aw=some (.sl (ag eE l) l.length 8 .any)∧ae (K 16) aw=some (I l.length)∧ae (K 17) aw=some (I j)∧ae (K 4) aw=some (I b)∧Ext h nx h' nx') ?_ ?_
  ·exact⟨0,0,by simp,by omega,by omega,by simp,by simp,by simp,by simp,by simp,Ext.refl _ _⟩
  ·rintro m dD h1 bF ⟨j,b,rfl,hj,hb,g0,g15,g16,g17,g4,e1⟩;have s11:=kTSu bF;refine W.of ?_;simp[uj];simp[uk,g16,g17];refine⟨fun bY=>?_,fun Rg=>?_⟩
   ·have bG:j<l.length:=by omega
    have hlen:=jo.rows l;have h8:8≤l.length*8-j*8:=by omega
    have ec:=jo.at bG;have RA:(eE l[j]).all AV.aP=true:=vJ.2 (jo.cell _);have he:List.take 8 (eE l[j])=eE l[j]:=rfl;have hl8:(eE l[j]).length=8:=rfl;have hk0:(eE l[j])[0]?=some (I l[j].kind):=rfl;have e2:=e1.trans (E0 h1 bF (.cells (eE l[j]) .fix));simp[Dx,g15,g17,bG,hlen,h8,ec,he,hl8,RA];by_cases k0:l[j].kind=0
    ·simp[uo,hl8,k0,eE];simp[Dy,g4];simp[uq,g17];rw[aC (by omega) (by omega),aC (by omega) (by omega)];exact⟨l.length-(j+1),by omega,j+1,rfl,by omega,b+1,by omega,g0,g15,g16,by omega,by omega,by simpa[eE,k0]using e2⟩
    ·simp[uo,hl8,bq k0,eE];simp[uq,g17];rw[aC (by omega) (by omega)];exact⟨l.length-(j+1),by omega,j+1,rfl,by omega,b,by omega,g0,g15,g16,by omega,g4,by simpa[eE]using e2⟩
   ·have asJ:¬(64:Int)<l.length:=by omega
    have asK:¬(16:Int)<b:=by omega
    simp[um,g0,g4,asJ,asK];simp[sC];simp[sD];simp[sE,g0];have n1:=e1.n;refine W.cM (n:=l.length) (ScI l bF h nx) ?_ ?_
    ·refine⟨0,sc0,by simp,by omega,⟨by simp,by simp,by simp,by simp,⟨.nils,by simp,.inl ⟨rfl,rfl⟩⟩,by simp[GJ,sc0],by omega,by omega⟩,kp0,rfl,e1.trans (E0 h1 bF _)⟩
    ·rintro m aW h2 aU ⟨i,s,rfl,hi,A,kp,hs,e2⟩;by_cases Gp:i<l.length
     ·refine W.of (ab7 S hl Gp A kp hs e2 ?_ ?_)
      ·intro aw h' nx' q2 q3 hv e';simp[q2,q3];exact⟨⟨.nils,rfl,.inl ⟨rfl,by rw[if_neg hv]⟩⟩,e'⟩
      ·intro aw h' nx' m hm hI;simp;exact⟨m,hm,hI⟩
     ·have BF:i=l.length:=by omega
      subst BF;obtain⟨a8,a35,a36,a37,⟨d7,a7,as1⟩,ao,ab0,ab1⟩:=A;refine W.of ?_;simp[jW];simp[ma,a36,a37];simp[sF,a7];rw[List.drop_length]at hs;exact zY hs as1 e2
end Ln
namespace Ln
open Go.Sx Go
variable{C:bK}{X:Kn}(S:Std C X)
include S
def ClI(l:List U)(b:Key)(h:T ah)(nx:Key)(m:Nat)(aw:T AV)(h':T ah)(nx':Key):Prop:=∃(j:Nat) (ls:List U),m=l.length-j∧j≤l.length∧ls.length=l.length∧ls.take j=l.take j∧
 ae (K 0) aw=some (.sl (ag eU l) l.length 4 .any)∧ae (K 1) aw=some (.fn eR [] [])∧ae (K 5) aw=some (.slice b 0 l.length 4)∧ae (K 14) aw=some (I l.length)∧ae (K 15) aw=some (I j)∧ae b h'=Vv (ag eU ls)∧(∀k:Key,k.toNat<b.toNat→ae k h'=ae k h)∧nx'=nx
theorem ae0(l:List U)(hl:l.length≤1000):TN C gn [aK l,.fn eR [] []] (·=.ret (aK l)):=by
 intro h nx;have s1:=kTSu nx;have rc:=S.r eR;refine S.w7.call ?_;simp[r8];simp[uY];have df:aK l=.nils∧l=[]∨aK l=.sl (ag eU l) l.length 4 .any∧l≠[]:=by
  cases l with
  |nil=>exact .inl ⟨rfl,rfl⟩
  |cons a t=>exact .inr ⟨rfl,by simp⟩
 rcases df with⟨e,rfl⟩|⟨e,bU⟩
 ·simp[mK,e];simp[uZ];exact Ext.refl _ _
 ·have h0:l.length≠0:=by simpa using bU
  have Ix:((l.length:Int)==0)=false:=bq (by omega);have hm:l.length≤1048576:=by omega
  simp[mK,e,Ix,h0];have hz:(List.replicate l.length [I 0,I 0,.str 0 0,.nils]).flatten=ag eU (List.replicate l.length ⟨0,0⟩):=by unfold ag;rw[List.flatMap_def,List.map_replicate];rfl
  simp[u5,hm,hz];simp[u6];refine W.cM (n:=l.length) (ClI l nx h nx.succ) ?_ ?_
  ·exact⟨0,List.replicate l.length ⟨0,0⟩,by simp,by omega,by simp,by simp,by simp,by simp,by simp,by simp,by simp,by simp,fun k hk=>az hk,rfl⟩
  ·rintro m dD h1 bF ⟨j,ls,rfl,hj,hls,Hr,g0,g1,g5,g14,g15,gb,aeU,rfl⟩;refine W.of ?_;simp[u7];simp[u9,g14,g15];refine⟨fun bY=>?_,fun Rg=>?_⟩
   ·have bG:j<l.length:=by omega
    have hr:=wA.rows l;have Pq:=wA.rows ls;have h4:4≤l.length*4-j*4:=by omega
    have ec:=wA.at bG;have he:List.take 4 (eU l[j])=eU l[j]:=rfl;have hl4:(eU l[j]).length=4:=rfl;have hz:∀H,aN 9999 (.agg (eU l[j])) H=(.agg (eU l[j]),H):=fun H=>by simp[eU]
    have hjs:j<ls.length:=by omega
    have hp:=wA.put hjs l[j];have h44:j*4+4≤l.length*4:=by omega
    simp[vd,g15];simp[ve,g0,g1,g5,bG,hr,h4,ec,he,hl4,rc,hz];refine aH.known (v:=.agg (eU l[j])) (S.s_Clone ⟨l[j].k,l[j].n,[]⟩ (by simp) _ _) ?_;simp[g0,g1,g5,bG,gb,Pq,hls,h44,hl4,hp];simp[vf,g15];rw[aC (by omega) (by omega)];refine⟨l.length-(j+1),by omega,j+1,ls.set j l[j],rfl,by omega,by simpa using hls,?_,by simp[g0],by simp[g1],by simp[g5],by simp[g14],by simp,by simp,fun k hk=>?_,rfl⟩
    ·have q:(ls.set j l[j]).take j=ls.take j:=by rw[List.take_set];exact List.set_eq_of_length_le (by simp;omega)
     rw[Zz bG,Zz (by simpa using hjs),q,Hr,List.getElem_set_self]
    ·rw[az hk];exact aeU k hk
   ·have bG:j=l.length:=by omega
    subst bG;rw[List.take_length,OV (by omega)]at Hr;subst Hr;simp[vh,g5];have hf:=BN (n:=9998) gb (wA.rows ls) (wA.Er ls);simp only[hf];refine⟨trivial,?_⟩;exact⟨by omega,fun k hk=>by rw[az hk];exact aeU k hk⟩
theorem aei(l:List U)(hl:l.length≤1000):TN C kV [aK l] (·=.ret (aK l)):=by intro h nx;have rc:=S.r gn;have hf:∀n H,aN n (aK l) H=(aK l,H):=dn l;refine S.Fk.call ?_;simp[B7];simp[C0];simp[C1,rc,hf];refine(ae0 S l hl _ _).mono ?_;rintro o h1 bF ⟨rfl,e1⟩;simp[hf];exact e1
end Ln
namespace Ln
open Go.Sx Go
variable{C:bK}{X:Kn}(S:Std C X)
omit S in
theorem Mf:∀(l:List Ev) (o:Op) (i:Nat),(follow o i l).args=o.args
 | [],o,i=>rfl
 |x ::l,o,i=>by show(follow (lF i x o) (i+1) l).args=_;rw[Mf l];unfold lF;(repeat' split)<;>rfl
theorem SA{n:Nat}:∀{l:List Ev} {i:Nat},(∀x∈l,x.args.length≤n)→∀o∈bO i l,o.args.length≤n
 | [],i,_,o,ho=>by simp[bO]at ho
 |x ::l,i,h,o,ho=>by
  simp only[bO,List.mem_append]at ho;rcases ho with ho|ho
  ·split at ho
   ·simp at ho;subst ho;rw[Mf];exact h x (by simp)
   ·simp at ho
  ·exact SA (fun x hx=>h x (by simp[hx])) o ho
def OpI(os:List Op)(code:Int)(b n0:Key)(h:T ah)(nx:Key)(m:Nat)(aw:T AV)(h':T ah)(nx':Key):Prop:=∃j:Nat,m=os.length-j∧j≤os.length∧ae (K 4) aw=some (.slice b 0 os.length 10)∧ae (K 5) aw=some (I code)∧ae (K 13) aw=some (I os.length)∧ae (K 14) aw=some (I j)∧
 ae b h'=some (.cells (ag eO os) .part)∧b.toNat<nx'.toNat∧Ext h nx h' nx'
include S
theorem alc{ev:AV}{l:List Ev}(hv:iB 8 eE ev l)(hl:YY l):TN C mO [ev] (ald l):=by
 intro h nx;have s1:=kTSu nx;have rs:=S.r kU;have rc:=S.r kV;have rv:=S.r eR;have hz:aN 9999 ev h=(ev,h):=hv.vV _ _;refine S.Hc.call ?_;simp[Ei];simp[Ej];simp[Ek,rs,hz];refine(ale S hv hl _ _).mono ?_;rintro o h1 bF ⟨⟨c,rfl,YZ⟩,e1⟩;have df:∀o∈(if bI [] l=0 then bO 0 l else []),o.args.length≤1000:=by
  intro o ho;split at ho
  ·exact SA hl.args o ho
  ·simp at ho
 simp;unfold ald;have vW:(if bI [] l=0 then bO 0 l else []).length≤16:=by
  split
  ·have:=vX l 0;have:=hl.len;omega
  ·simp
 generalize (if bI [] l=0 then bO 0 l else [])=os at *;generalize jn (bI [] l)=code at *;rcases YZ with⟨rfl,rfl⟩|⟨b,rfl,hb,Ix,By⟩
 ·simp[vY];refine W.Iy (W.of ?_);simp[vZ];simp[v7];simp[wa];exact⟨.inl ⟨rfl,rfl⟩,e1⟩
 ·simp[vY];refine W.cM (n:=os.length) (OpI os code b nx h1 bF) ?_ ?_
  ·exact⟨0,by simp,by omega,by simp,by simp,by simp,by simp,hb,By,Ext.refl _ _⟩
  ·rintro m dD h2 aU ⟨j,rfl,hj,g4,g5,g13,g14,gb,azz,e2⟩;refine W.of ?_;simp[vZ];simp[v7,g13,g14];refine⟨fun bY=>?_,fun Rg=>?_⟩
   ·have bG:j<os.length:=by omega
    have hr:=ez.rows os;have ec:=ez.at bG;have hax:=df _ (Mg bG);have ha:((ag eO os))[j*10+5]?=some (aK os[j].args):=by have:=congrArg (fun l=>l[5]?) ec;rw[List.getElem?_take,List.getElem?_drop]at this;simpa[eO]using this
    have ha2:∀hh,(ag eO os)[j*10+5]'hh=aK os[j].args:=fun hh=>by have q:=xF hh;rw[ha]at q;exact(Option.some.inj q).symm
    have Nw:List.take 4 (List.drop (j*10+6) (ag eO os))=eU os[j].res:=by have:=congrArg (fun l=>List.take 4 (List.drop 6 l)) ec;simp only[List.drop_take,List.drop_drop,List.take_take]at this;simpa[eO,eU]using this
    have hz1:∀n H,aN n (aK os[j].args) H=(aK os[j].args,H):=dn _;have hz2:∀H,aN 9999 (.agg (eU os[j].res)) H=(.agg (eU os[j].res),H):=fun H=>by simp[eU]
    have p1:=ez.K8 (l:=os) (j:=j) (off:=5) (vs:=[aK os[j].args]) (y:=os[j]) bG (by simp) rfl;have p2:=ez.K8 (l:=os) (j:=j) (off:=6) (vs:=eU os[j].res) (y:=os[j]) bG (by simp[eU]) rfl;have OD:os.set j os[j]=os:=List.set_getElem_self bG;rw[OD]at p1 p2;simp[eU]at p1 p2;have zI:j*10+5<os.length*10:=by omega
    have Q4:j*10+5+1≤os.length*10:=by omega
    have h3':j*10+6+4≤os.length*10:=by omega
    have h4':4≤os.length*10-(j*10+6):=by omega
    have ac:=bA os[j].args;simp[El,g14];simp[Em,g4,bG,gb,hr,ha2,zI,rc,hz1];refine(aei S _ hax _ _).mono ?_;rintro o h3 cF ⟨rfl,e3⟩;have gb3:ae b h3=some (.cells (ag eO os) .part):=by rw[e3.g b azz];exact gb
    simp[g4,bG,gb3,hr,Q4,ac.1,ac.2,p1];simp[En,g4,bG,gb3,hr,Nw,h4',rv,hz2];refine aH.known (v:=.agg (eU os[j].res)) (S.s_Clone ⟨os[j].res.k,os[j].res.n,[]⟩ (by simp) _ _) ?_;simp[g4,bG,gb3,hr,h3',eU,p2];simp[Eo,g14];rw[aC (by omega) (by omega)];have n3:=e3.n;have n2:=e2.n;refine⟨os.length-(j+1),by omega,j+1,rfl,by omega,by simp[g4],by simp[g5],by simp[g13],by simp,by simp,by omega,?_⟩;refine⟨by omega,fun k hk=>?_⟩;by_cases hkb:k=b
    ·subst hkb;simp[hb]
    ·rw[aR _ _ _ _ hkb,e3.g k (by omega)];exact e2.g k hk
   ·simp[wa,g4,g5];have hf:=Ep (n:=9998) gb (ez.rows os) (ez.Er os);simp only[hf];refine⟨.inr rfl,?_⟩;have VJ:=e1.trans e2;exact⟨VJ.n,fun k hk=>by rw[az (by omega)];exact VJ.g k hk⟩
end Ln
namespace Ln
open Go.Sx Go
def eI(n:Int):List AV:=[I n]
theorem CB:Flat 1 eI where
 len _:=rfl
 vV x y hy:=by simp[eI]at hy;subst hy;exact dz _ _
 cell x y hy:=by simp[eI]at hy;subst hy;rfl
 lits x:=by simp[eI,AV.gE,AV.lits,I]
theorem kX(l:List Int):(ag eI l).length=l.length:=by rw[CB.rows];omega
theorem YR:∀l:List Int,ag eI l=l.map I
 | []=>rfl
 |a ::t=>by rw[dd,YR t];rfl
theorem Wu{l:List Int}{i:Nat}(hi:i<l.length):(ag eI l)[i]?=some (I l[i]):=by rw[YR];simp[hi]
@[simp] theorem auT{l:List Int}{i:Nat}(hh:i<(ag eI l).length):(ag eI l)[i]=I (l[i]'(by rw[kX]at hh;exact hh)):=by
 have h1:i<l.length:=by rw[kX]at hh;exact hh
 have:=xF hh;rw[Wu h1]at this;exact(Option.some.inj this).symm
theorem Gq{l:List Int}{i:Nat}(hi:i<l.length):List.take 1 (List.drop i (ag eI l))=[I l[i]]:=by have:=CB.at hi;rw[Nat.mul_one]at this;exact this
def Ord(c:AV)(l:List Int)(n:Nat)(h:T ah)(nx:Key):Prop:=n≤l.length∧((c=.nils∧n=0)∨(∃f,c=.sl (ag eI (l.take n)) n 1 f)∨∃(b:Key) (k:CK),c=.slice b 0 n 1∧ae b h=some (.cells (ag eI l) k)∧b.toNat<nx.toNat)
theorem Ord.ext{c:AV}{l:List Int}{n:Nat}{h h':T ah}{nx nx':Key}(o:Ord c l n h nx)(e:Ext h nx h' nx'):Ord c l n h' nx':=by
 obtain⟨h0,o⟩:=o;refine⟨h0,?_⟩;rcases o with o|o|⟨b,k,h1,h2,h3⟩
 ·exact .inl o
 ·exact .inr (.inl o)
 ·exact .inr (.inr ⟨b,k,h1,by rw[e.g b h3];exact h2,by have:=e.n;omega⟩)
variable{C:bK}{X:Kn}(S:Std C X)
include S
theorem QA(a b:Op):TN C iV [.agg (eO a),.agg (eO b)] (·=.ret (.bool (before a b))):=by
 intro h nx;have s1:=kTSu nx;have s2:=kTSu nx.succ;have ac1:=bA a.args;have ac2:=bA b.args;refine S.FH.call ?_;simp[Cj];simp[DQ,eO,ac1.1,ac2.1];have e1:=(E0 h nx (.cells (eO a) .fix)).trans (E0 _ nx.succ (.cells (eO b) .fix));simp[eO]at e1;have nC:before a b=(decide (0≤a.e)&&decide (a.e<b.b)||decide (0≤a.lost)&&decide (a.lost<b.b)):=by unfold before;rw[Bool.eq_iff_iff];simp
 by_cases h1:a.e<0
 ·by_cases h2:a.lost<0
  ·simp[eu,h1,h2];exact⟨by rw[nC];simp;omega,e1⟩
  ·by_cases h3:a.lost<b.b
   ·simp[eu,h1,h2,h3];exact⟨by rw[nC];simp;omega,e1⟩
   ·simp[eu,h1,h2,h3];exact⟨by rw[nC];simp;omega,e1⟩
 ·by_cases h4:a.e<b.b
  ·simp[eu,h1,h4];exact⟨by rw[nC];simp;omega,e1⟩
  ·by_cases h2:a.lost<0
   ·simp[eu,h1,h4,h2];exact⟨by rw[nC];simp;omega,e1⟩
   ·by_cases h3:a.lost<b.b
    ·simp[eu,h1,h4,h2,h3];exact⟨by rw[nC];simp;omega,e1⟩
    ·simp[eu,h1,h4,h2,h3];exact⟨by rw[nC];simp;omega,e1⟩
theorem Qs(a b:Op):TN C fV [.agg (eO a),.agg (eO b)] (·=.ret (.bool (before a b))):=by
 intro h nx;have s1:=kTSu nx;have s2:=kTSu nx.succ;have ac1:=bA a.args;have ac2:=bA b.args;refine S.AP.call ?_;simp[xb];simp[yX,eO,ac1.1,ac2.1];have e1:=(E0 h nx (.cells (eO a) .fix)).trans (E0 _ nx.succ (.cells (eO b) .fix));simp[eO]at e1;have nC:before a b=(decide (0≤a.e)&&decide (a.e<b.b)||decide (0≤a.lost)&&decide (a.lost<b.b)):=by unfold before;rw[Bool.eq_iff_iff];simp
 by_cases h1:a.e<0
 ·by_cases h2:a.lost<0
  ·simp[di,h1,h2];exact⟨by rw[nC];simp;omega,e1⟩
  ·by_cases h3:a.lost<b.b
   ·simp[di,h1,h2,h3];exact⟨by rw[nC];simp;omega,e1⟩
   ·simp[di,h1,h2,h3];exact⟨by rw[nC];simp;omega,e1⟩
 ·by_cases h4:a.e<b.b
  ·simp[di,h1,h4];exact⟨by rw[nC];simp;omega,e1⟩
  ·by_cases h2:a.lost<0
   ·simp[di,h1,h4,h2];exact⟨by rw[nC];simp;omega,e1⟩
   ·by_cases h3:a.lost<b.b
    ·simp[di,h1,h4,h2,h3];exact⟨by rw[nC];simp;omega,e1⟩
    ·simp[di,h1,h4,h2,h3];exact⟨by rw[nC];simp;omega,e1⟩
end Ln
namespace Ln
open Go.Sx Go
variable{C:bK}{X:Kn}(S:Std C X)
include S
end Ln
namespace Ln
open Go.Sx Go
variable{C:bK}{X:Kn}(S:Std C X)
include S
end Ln
namespace Ln
open Go.Sx Go
variable{C:bK}{X:Kn}(S:Std C X)
include S
end Ln
namespace Ln
open Go.Sx Go
variable{C:bK}{X:Kn}(S:Std C X)
include S
end Ln
namespace Ln
open Go.Sx Go
theorem Ord.cases{c:AV}{l:List Int}{h:T ah}{nx:Key}(o:Ord c l l.length h nx):(c=.nils∧l=[])∨(∃f,c=.sl (ag eI l) l.length 1 f)∨∃(b:Key) (k:CK),c=.slice b 0 l.length 1∧ae b h=some (.cells (ag eI l) k)∧b.toNat<nx.toNat:=by
 obtain⟨_,oc⟩:=o;rcases oc with⟨e,h0⟩|⟨f,e⟩|e
 ·exact .inl ⟨e,SK h0⟩
 ·rw[List.take_length]at e;exact .inr (.inl ⟨f,e⟩)
 ·exact .inr (.inr e)
variable{C:bK}{X:Kn}(S:Std C X)
include S
end Ln
namespace Ln
open Go.Sx Go
theorem ac9(z:Op)(H:T ah):bC (aN 9998) (eO z) H=(eO z,H):=cn (ez.vV _)
theorem MI(z:Op):List.take 10 (eO z)=eO z:=rfl
theorem UC(z:Op):(eO z).length=10:=rfl
variable{C:bK}{X:Kn}(S:Std C X)
include S
end Ln
namespace Ln
open Go.Sx Go
variable{C:bK}{X:Kn}(S:Std C X)
include S
end Ln
namespace Ln
open Go.Sx Go
variable{C:bK}{X:Kn}(S:Std C X)
include S
end Ln
namespace Ln
open Go.Sx Go
def Da(i:Nat)(name:Nat×Nat):Int:=match (aI i).findIdx? fun c=>c.name==name with
 |some t=>t
 |none=>-1
theorem Tt(i:Nat):(aI i).length≤3:=by unfold aI;split<;>simp
theorem adA{i:Nat}{name:Nat×Nat}(h:∀(t:Nat) (ht:t<(aI i).length),(aI i)[t].name≠name):Da i name=-1∧pQ i name=none:=by
 have h1:(aI i).findIdx? (fun c=>c.name==name)=none:=by rw[List.findIdx?_eq_none_iff];intro c hc;obtain⟨t,ht,rfl⟩:=List.getElem_of_mem hc;simpa using h t ht
 have h2:(aI i).find? (fun c=>c.name==name)=none:=by rw[List.find?_eq_none];intro c hc;obtain⟨t,ht,rfl⟩:=List.getElem_of_mem hc;simpa using h t ht
 exact⟨by unfold Da;rw[h1],h2⟩
theorem adz{i t:Nat}{name:Nat×Nat}(ht:t<(aI i).length)(h:∀(s:Nat) (hs:s<(aI i).length),s<t→(aI i)[s].name≠name)(he:(aI i)[t].name=name):Da i name=t∧pQ i name=some (aI i)[t]:=by
 have h1:(aI i).findIdx? (fun c=>c.name==name)=some t:=by rw[List.findIdx?_eq_some_iff_getElem];exact⟨ht,by simpa using he,fun s hs=>by simpa using h s (by omega) hs⟩
 have h2:(aI i).find? (fun c=>c.name==name)=some (aI i)[t]:=by rw[List.find?_eq_some_iff_getElem];refine⟨by simpa using he,t,ht,rfl,fun s hs=>?_⟩;simpa using h s (by omega) hs
 exact⟨by unfold Da;rw[h1],h2⟩
def qA(i:Nat):List Op→Int
 | []=>0
 |o ::l=>match pQ i o.name with
  |none=>6
  |some c=>if o.args.length=c.ar then qA i l else 1
theorem ad8{i:Nat}:∀{l:List Op},qA i l=0→∀o∈l,∃c,pQ i o.name=some c∧o.args.length=c.ar
 | [],_,o,ho=>by simp at ho
 |x ::l,h,o,ho=>by
  unfold qA at h;cases hc:pQ i x.name with
  |none=>rw[hc]at h;simp at h
  |some c=>
   rw[hc]at h;simp only at h;by_cases ha:x.args.length=c.ar
   ·rw[if_pos ha]at h;rcases K3.1 ho with rfl|ho
    ·exact⟨c,hc,ha⟩
    ·exact ad8 h o ho
   ·rw[if_neg ha]at h;simp at h
variable{C:bK}{X:Kn}(S:Std C X)
include S
theorem Ow{i t:Nat}(ht:t<(aI i).length):List.take 23 (List.drop (t*23) (ag (X.cmd i) (List.range (aI i).length)))=X.cmd i t:=by have:=(S.ok.RL i).at (l:=List.range (aI i).length) (i:=t) (by simpa using ht);simpa using this
theorem Ox{i:Nat}:(ag (X.cmd i) (List.range (aI i).length)).length=(aI i).length*23:=by have:=(S.ok.RL i).rows (List.range (aI i).length);simpa using this
theorem awQ{i t:Nat}(hi:i=2)(ht:t<(aI i).length)(o:Op){h:T ah}{nx b:Key}{k:CK}(hb:ae b h=some (.cells (eO o) k))(By:b.toNat<nx.toNat):aH C ed [.agg (X.cmd i t),.ptr b 0] h nx (fun out h' nx'=>out=.ret (.bool (decide ((aI i)[t].name=o.name)))∧Ext h nx h' nx'):=by
 have s1:=kTSu nx;have h0:=S.ok.awq i hi t _ (xF ht);have hl:=(S.ok.RL i).len t;have hc:(X.cmd i t).all AV.aP=true:=vJ.2 ((S.ok.RL i).cell t);have hb2:ae b (av nx (Vv (X.cmd i t)) h)=some (.cells (eO o) k):=by rw[az By];exact hb
 refine S.yK.call ?_;simp[tZ];simp[xf,hc];generalize (aI i)[t]=c at *;rcases hn:c.name with⟨n1,n2⟩
 rcases hm:o.name with⟨m1,m2⟩
 rw[hn]at h0;have h0':∀hh,(X.cmd i t)[0]'hh=.str n1 n2:=fun hh=>by have q:=xF hh;rw[h0]at q;exact(Option.some.inj q).symm
 simp[xg,h0',hl,hb2,eO,hm];exact E0 h nx _
end Ln
namespace Ln
open Go.Sx Go
variable{C:bK}{X:Kn}(S:Std C X)
include S
abbrev ai1(X:Kn)(i:Nat):AV:=.sl (ag (X.cmd i) (List.range (aI i).length)) (aI i).length 23 .any
theorem ass(i t:Nat)(H:T ah):bC (aN 9998) (X.cmd i t) H=(X.cmd i t,H):=cn ((S.ok.RL i).vV t)
omit S in
theorem ady{i j:Nat}{name:Nat×Nat}(hj:j<(aI i).length)(h:∀(s:Nat) (hs:s<(aI i).length),s<j→(aI i)[s].name≠name)(hn:(aI i)[j].name≠name):∀(s:Nat) (hs:s<(aI i).length),s<j+1→(aI i)[s].name≠name:=by
 intro s hs Td;by_cases e:s=j
 ·subst e;exact hn
 ·exact h s hs (by omega)
def IxI(i:Nat)(o:Op)(b:Key)(X:Kn)(h:T ah)(nx:Key)(m:Nat)(aw:T AV)(h':T ah)(nx':Key):Prop:=∃j:Nat,m=(aI i).length-j∧j≤(aI i).length∧ae (K 0) aw=some (ai1 X i)∧ae (K 1) aw=some (.fn ed [] [.ptr b 0])∧ae (K 7) aw=some (I (aI i).length)∧ae (K 8) aw=some (I j)∧Ext h nx h' nx'∧∀(s:Nat) (hs:s<(aI i).length),s<j→(aI i)[s].name≠o.name
theorem ai2{i:Nat}(hi:i=2)(o:Op){h:T ah}{nx b:Key}{k:CK}(hb:ae b h=some (.cells (eO o) k))(By:b.toNat<nx.toNat):aH C bH [ai1 X i,.fn ed [] [.ptr b 0]] h nx (fun out h' nx'=>out=.ret (I (Da i o.name))∧Ext h nx h' nx'):=by
 have hn3:=Tt i;have rc:=S.r ed;refine S.gp.call ?_;simp[ef];simp[fM];simp[fN];refine W.cM (n:=(aI i).length) (IxI i o b X h nx) ⟨0,by simp,by omega,by simp,by simp,by simp,by simp,Ext.refl _ _,fun s _ hs=>absurd hs (by omega)⟩ ?_;rintro m dD h1 bF ⟨j,rfl,hj,g0,g1,g7,g8,e1,pF⟩;refine W.of ?_;simp[fO];by_cases bG:j<(aI i).length
 ·have sZ:(j:Int)<(aI i).length:=by omega
  have ec:=Ow S bG;have hr:=Ox S (i:=i);have hl:=(S.ok.RL i).len j;have t23:23≤(aI i).length*23-j*23:=by omega
  have ht:List.take 23 (X.cmd i j)=X.cmd i j:=OV (by omega);simp[du,g7,g8,sZ];simp[fP,g8];simp[fQ,g0,g1,bG,hr,t23,ec,hl,ht,rc,ass S];refine(awQ S hi bG o (by rw[e1.g b By];exact hb) (by have:=e1.n;omega)).mono ?_;rintro out h2 aU ⟨rfl,e2⟩;by_cases hn:(aI i)[j].name=o.name
  ·simp[hn];simp[fR];exact⟨(adz bG pF hn).1.symm,e1.trans e2⟩
  ·simp[hn];simp[fS,g8];rw[aC (by omega) (by omega)];exact⟨(aI i).length-(j+1),by omega,j+1,rfl,by omega,by simp[g0],by simp[g1],by simp[g7],by simp,e1.trans e2,ady bG pF hn⟩
 ·have vK:j=(aI i).length:=by omega
  subst vK;simp[du,g7,g8];simp[fT];exact⟨(adA (fun s hs=>pF s hs hs)).1.symm,e1⟩
def CmI(i:Nat)(name:Nat×Nat)(X:Kn)(b:Key)(h:T ah)(nx:Key)(m:Nat)(aw:T AV)(h':T ah)(nx':Key):Prop:=∃j:Nat,m=(aI i).length-j∧j≤(aI i).length∧ae (K 1) aw=some (.str name.1 name.2)∧ae (K 2) aw=some (.ptr b 0)∧ae (K 5) aw=some (I j)∧h'=h∧nx'=nx∧∀(s:Nat) (hs:s<(aI i).length),s<j→(aI i)[s].name≠name
theorem aaa{i:Nat}(hi:i=2)(name:Nat×Nat):TN C jQ [.agg (X.dec i),.str name.1 name.2] (·=.ret (I (Da i name))):=by
 intro h nx;have hn3:=Tt i;have d45:=S.ok.W7 i hi;have dC:(X.dec i).all AV.aP=true:=vJ.2 (S.ok.ams i hi);have d36:=S.ok.aiG i hi;have AG:∀hh,(X.dec i)[36]'hh=ai1 X i:=fun hh=>by have q:=xF hh;rw[d36]at q;exact(Option.some.inj q).symm
 refine S.Db.call ?_;simp[zm];simp[AH,dC];simp[AI];have hb:ae nx (av nx (Vv (X.dec i)) h)=Vv (X.dec i):=by simp
 have he:=E0 h nx (.cells (X.dec i) .fix);generalize av nx (Vv (X.dec i)) h=H at hb he ⊢;refine W.cM (n:=(aI i).length) (CmI i name X nx H nx.succ) ⟨0,by simp,by omega,by simp,by simp,by simp,rfl,rfl,fun s _ hs=>absurd hs (by omega)⟩ ?_;rintro m dD h1 bF ⟨j,rfl,hj,g1,g2,g5,rfl,rfl,pF⟩;refine W.of ?_;simp[AJ];by_cases bG:j<(aI i).length
 ·have sZ:(j:Int)<(aI i).length:=by omega
  have ec:=Ow S bG;have hr:=Ox S (i:=i);have hl:=(S.ok.RL i).len j;have t23:23≤(aI i).length*23-j*23:=by omega
  have h0:=S.ok.awq i hi j _ (xF bG);have hnm:=fun h=>adz bG pF h;have dy:=fun h=>ady bG pF h;generalize (aI i)[j]=c at *;obtain⟨m1,m2⟩:=name;rcases hcn:c.name with⟨n1,n2⟩
  rw[hcn]at h0 hnm dy;have h0':∀hh,(X.cmd i j)[0]'hh=.str n1 n2:=fun hh=>by have q:=xF hh;rw[h0]at q;exact(Option.some.inj q).symm
  simp[sn,g2,g5,hb,AG,d45,sZ];by_cases hn:n1=m1∧n2=m2
  ·obtain⟨rfl,rfl⟩:=hn;simp[so,g1,g2,g5,hb,AG,d45,bG,hr,t23,ec,hl,h0'];simp[AL,g5];exact⟨(hnm rfl).1.symm,he⟩
  ·simp[so,g1,g2,g5,hb,AG,d45,bG,hr,t23,ec,hl,h0',hn];simp[AN,g5];rw[aC (by omega) (by omega)];exact⟨(aI i).length-(j+1),by omega,j+1,rfl,by omega,by simp[g1],by simp[g2],by simp,rfl,rfl,dy (by simpa using hn)⟩
 ·have vK:j=(aI i).length:=by omega
  subst vK;simp[sn,g2,g5,hb,AG,d45];simp[AO];exact⟨(adA (fun s hs=>pF s hs hs)).1.symm,he⟩
end Ln
