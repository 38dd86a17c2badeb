/- A part of the proof. No condition. -/
import Derived.Test.YtecbfpngkfdkoaaGreatP9
import Derived.Test.YtecbfpngkfdkoaaGreatP11
import Derived.Test.YtecbfpngkfdkoaaGreatP6
set_option linter.unusedSimpArgs false
set_option linter.unusedVariables false
set_option linter.unusedSectionVars false
namespace Ln
open Go.Sx Go
structure FnR(C:bU)(f:Nat)(p:gE):Prop where
 get:HF C f=some p
 off:∀l h nx,C.sum f l h nx=none
 nD:C.nD f=true
def WU(f:Nat):Bool:=Nat.beq f 30||Nat.beq f 82||Nat.beq f 63
structure Std(C:bU)(X:Kn):Prop where
 orc:C.orc=[]
 raw:∀f,C.raw f=WU f
 ok:X.Ok
 Aj:Fn C jd vC
 nR:FnR C dN j8
 HE:Fn C nz Ek
 BT:Fn C jU xI
 MG:Fn C tQ KE
 Fo:Fn C jz cmp_isNaN_int
 Dp:Fn C b9 Aq
 Dq:Fn C kV Ar
 Jg:Fn C j0 Gu
 C5:Fn C kM zQ
 HV:FnR C ny Er
 HW:Fn C nL Et
 HI:Fn C du En
 Mn:Fn C dR KA
 HX:Fn C n9 Eu
 JE:Fn C mz Ho
 Dd:Fn C gy Aa
 Dr:Fn C gA As
 Fp:Fn C ig Cv
 Av:Fn C bE vL
 HY:Fn C fL Ew
 BU:Fn C fN xJ
 Dt:Fn C cd Au
 sF:Fn C bS mH
 sH:Fn C fi mK
 uH:Fn C dz qu
 uJ:Fn C dA qx
 gJ:Fn C bM lZ
 tT:Fn C fM oa
 xa:Fn C dL sb
 HG:Fn C je El
 CR:Fn C kE zy
 Fq:Fn C ic qO
 HZ:Fn C od EA
 Ft:Fn C ml Cy
 HH:Fn C nX Em
 HJ:Fn C ja Eo
 eJ:Fn C bz da
 jg:Fn C cv fO
 fP:Fn C bD dB
 s_InitP:∀i,i<3→∀h nx,C.sum EE [X.m,gH i,mF] h nx=some (.tuple [.agg (eS (aQ i)),I 0],h,nx)
 s_CanP:∀c s aZZ,iX c.yW s→aZZ.length=c.ar→∀h nx,C.sum HB [X.m,gH c.yW,.str c.name.1 c.name.2,.agg (eS s),bB aZZ,mF] h nx=some (.tuple [.bool (X.Xq c s aZZ),I (X.Xr c s aZZ)],h,nx)
 s_HoldsP:∀c s aZZ r,iX c.yW s→aZZ.length=c.ar→∀h nx,C.sum Ct [X.m,gH c.yW,.str c.name.1 c.name.2,.agg (eS s),bB aZZ,.agg (eU r),mF] h nx=some (.tuple [.bool (X.Cl c s aZZ r),I (X.Cm c s aZZ r)],h,nx)
 s_NextP:∀c s aZZ r,iX c.yW s→aZZ.length=c.ar→∀h nx,C.sum Ei [X.m,gH c.yW,.str c.name.1 c.name.2,.agg (eS s),bB aZZ,.agg (eU r),mF] h nx=some (.tuple [.agg (eS (X.EM c s aZZ r)),I (X.GM c s aZZ r)],h,nx)
 s_InitR:∀i,i<3→∀h nx,C.sum Yy [X.m,gH i,mF] h nx=some (.tuple [.agg (eS (aQ i)),I 0],h,nx)
 s_CanR:∀c s aZZ,iX c.yW s→aZZ.length=c.ar→∀h nx,C.sum abw [X.m,gH c.yW,.str c.name.1 c.name.2,.agg (eS s),bB aZZ,mF] h nx=some (.tuple [.bool (X.Xq c s aZZ),I (X.Xr c s aZZ)],h,nx)
 s_HoldsR:∀c s aZZ r,iX c.yW s→aZZ.length=c.ar→∀h nx,C.sum Vy [X.m,gH c.yW,.str c.name.1 c.name.2,.agg (eS s),bB aZZ,.agg (eU r),mF] h nx=some (.tuple [.bool (X.Cl c s aZZ r),I (X.Cm c s aZZ r)],h,nx)
 s_NextR:∀c s aZZ r,iX c.yW s→aZZ.length=c.ar→∀h nx,C.sum Yz [X.m,gH c.yW,.str c.name.1 c.name.2,.agg (eS s),bB aZZ,.agg (eU r),mF] h nx=some (.tuple [.agg (eS (X.EM c s aZZ r)),I (X.GM c s aZZ r)],h,nx)
 s_parser_Decl:∀i,i<3→∀h nx,C.sum Cz [X.m,I 4,gH i] h nx=some (.tuple [.agg (X.dec i),.bool true],h,nx)
 s_ref09_Decl:∀i,i<3→∀h nx,C.sum YA [X.m,I 4,gH i] h nx=some (.tuple [.agg (X.dec i),.bool true],h,nx)
 s_values_Valid:∀u,∀h nx,C.sum eH [.agg (eU u)] h nx=some (I (if uA u=true then 0 else 1),h,nx)
 s_values_Compare:∀s t:St,s.kids.length≤3→t.kids.length≤3→∀h nx,C.sum kN [.agg (eS s),.agg (eS t)] h nx=some (I (lL s t),h,nx)
 s_ref10_Valid:∀u,∀h nx,C.sum Vz [.agg (eU u)] h nx=some (I (if uA u=true then 0 else 1),h,nx)
 s_ref10_Compare:∀s t:St,s.kids.length≤3→t.kids.length≤3→∀h nx,C.sum Ql [.agg (eS s),.agg (eS t)] h nx=some (I (lL s t),h,nx)
 s_Equal:∀s t:St,s.kids.length≤3→t.kids.length≤3→∀h nx,C.sum VA [.agg (eS s),.agg (eS t)] h nx=some (.bool (decide (s=t)),h,nx)
 s_Clone:∀s:St,s.kids.length≤3→∀h nx,C.sum gF [.agg (eS s)] h nx=some (.agg (eS s),h,nx)
 s_Module:∀h nx,C.sum zV [] h nx=some (X.m,h,nx)
 s_lives:∀h nx,C.sum iD [] h nx=some (.bool true,h,nx)
theorem Std.rw{C:bU}{X:Kn}(S:Std C X){f:Nat}(h:WU f=true):C.raw f=true:=by rw[S.raw,h]
theorem Std.nr{C:bU}{X:Kn}(S:Std C X){f:Nat}(h:WU f=false):C.raw f=false:=by rw[S.raw,h]
theorem Std.r{C:bU}{X:Kn}(S:Std C X)(f:Nat)(h:WU f=false:=by decide):C.raw f=false:=S.nr h
theorem aM.known{C:bU}{f:Nat}{l:List AV}{h:T ag}{nx:Key}{v:AV}{R:Out→T ag→Key→Prop}(hs:C.sum f l h nx=some (v,h,nx))(hR:R (.ret v) h nx):aM C f l h nx R:=.inl ⟨v,h,nx,hs,hR⟩
theorem bq{a b:Int}(h:a≠b):(a==b)=false:=by simpa using h
theorem bt{a b:Int}(h:a=b):(a==b)=true:=by simpa using h
variable{C:bU}{X:Kn}(S:Std C X)
include S
end Ln
namespace Ln
open Go.Sx Go
variable{C:bU}{X:Kn}(S:Std C X)
include S
omit S in
theorem azU{client:Int}{nl nc:Nat}{args:List U}{res:U}(hz:zU res=true)(hn:¬(nl=0∧nc=0))(hl:nl≤16)(ha:args.length≤16)(c0:0≤client)(c3:client≤3):CD ⟨0,client,(nl,nc),args,res⟩=args.all uA:=by
 rw[Bool.eq_iff_iff];unfold CD;rw[decide_eq_true_eq];constructor
 ·rintro⟨_,_,_,_,h|h|h⟩
  ·exact h.2.2.2.2.2
  ·exact absurd h.1 (by simp)
  ·exact absurd h.1 (by simp)
 ·intro h;exact⟨by simp,by simp,c0,c3,.inl ⟨rfl,hz,by simpa using hn,hl,ha,h⟩⟩
omit S in
theorem azV{client:Int}{res:U}(c0:0≤client)(c3:client≤3):CD ⟨1,client,(0,0),[],res⟩=uA res:=by
 rw[Bool.eq_iff_iff];unfold CD;rw[decide_eq_true_eq];constructor
 ·rintro⟨_,_,_,_,h|h|h⟩
  ·exact absurd h.1 (by simp)
  ·exact h.2.2.2
  ·exact absurd h.1 (by simp)
 ·intro h;exact⟨by simp,by simp,c0,c3,.inr (.inl ⟨rfl,rfl,rfl,h⟩)⟩
omit S in
theorem atc{res:U}:CD ⟨2,0,(0,0),[],res⟩=zU res:=by
 rw[Bool.eq_iff_iff];unfold CD;rw[decide_eq_true_eq];constructor
 ·rintro⟨_,_,_,_,h|h|h⟩
  ·exact absurd h.1 (by simp)
  ·exact absurd h.1 (by simp)
  ·exact h.2.2.2.2
 ·intro h;exact⟨by simp,by simp,by simp,by simp,.inr (.inr ⟨rfl,rfl,rfl,rfl,h⟩)⟩
omit S in
theorem azX{res:U}(hz:zU res=true):uA res=true:=by unfold zU at hz;unfold uA;simp at hz ⊢;exact .inl hz.1
omit S in
theorem QW{x:Ev}(h:¬(0≤x.kind∧x.kind≤2∧0≤x.client∧x.client≤3)):CD x=false:=by unfold CD;rw[decide_eq_false_iff_not];rintro⟨a,b,c,d,_⟩;exact h ⟨a,b,c,d⟩
end Ln
namespace Ln
open Go.Sx Go
structure Few(l:List Ev):Prop where
 len:l.length≤16
 args:∀x∈l,x.args.length≤1000
variable{C:bU}{X:Kn}(S:Std C X)
include S
end Ln
namespace Ln
open Go.Sx Go
def EI:Nat→Int
 |0=>0|1=>1|2=>20|_=>25
variable{C:bU}{X:Kn}(S:Std C X)
include S
end Ln
namespace Ln
open Go.Sx Go
theorem sW:∀(l:List Ev) (i:Nat),(aI i l).length≤l.length
 | [],i=>by simp[aI]
 |x ::l,i=>by have:=sW l (i+1);simp only[aI,Ll,zqi];split<;>simp<;>omega
variable{C:bU}{X:Kn}(S:Std C X)
include S
end Ln
namespace Ln
open Go.Sx Go
def RQ(l:List Ev)(h:T ag)(nx:Key)(m:Nat)(tm':T AV)(h':T ag)(nx':Key):Prop:=∃(i:Nat) (c:AV) (os:List Op),m=l.length-i∧i≤l.length∧os.length≤i∧ae (K 0) tm'=some (.sl (ai eE l) l.length 8 .any)∧ae (K 5) tm'=some c∧ae (K 6) tm'=some (I i)∧App c (ai eO os) os.length 10 h' nx' nx∧aI 0 l=os++aI i (l.drop i)∧Ext h nx h' nx'
def azf(l:List Ev)(o:Out):Prop:=∃c,o=.ret (.tuple [c,I (EI (dI [] l))])∧gR 10 eO c (if dI [] l=0 then aI 0 l else [])
variable{C:bU}{X:Kn}(S:Std C X)
include S
end Ln
namespace Ln
open Go.Sx Go
theorem alu(u:U):lL ⟨u.k,u.n,[]⟩ ⟨0,0,[]⟩=0↔zU u=true:=by rw[yY];unfold zU;rw[decide_eq_true_eq];simp
variable{C:bU}{X:Kn}(S:Std C X)
include S
theorem X6{x:Ev}{R:Out→T ag→Key→Prop}{Q:cJ}{tm:T AV}{h:T ag}{nx nx0:Key}(hlen:x.args.length≤1000)(h0:nx0.toNat<nx.toNat)(f1:ae (K 1) tm=some (.ptr nx0 0))(hb:ae nx0 h=Qw (eE x))
  (uz:∀h' nx',x.args.all uA=false→Ext h nx h' nx'→R (.ret (I 1)) h' nx') (gC:∀tm' h' nx',ae (K 1) tm'=some (.ptr nx0 0)→x.args.all uA=true→Ext h nx h' nx'→Q .norm tm' h' nx')
  (hq:∀tm' h' nx',cY [.tmp (K 2)] R .ret tm' h' nx'→Q .ret tm' h' nx') :
  fJ C (.seq (.ops gV) (.block 0 (.loop gW))) Q tm h nx:=by
 have rv:=S.r eH;obtain⟨kind,client,name,args,res⟩:=x;have fu:bB args=.nils∧args=[]∨bB args=.sl (ai eU args) args.length 4 .any∧args≠[]:=by
  cases args with
  |nil=>exact .inl ⟨rfl,rfl⟩
  |cons a t=>exact .inr ⟨rfl,by simp⟩
 simp;have azS:args.length≤1000:=hlen;rcases fu with⟨e,rfl⟩|⟨e,bT⟩
 ·simp[gV,f1,hb,eE,e];refine W.Q8 (W.of ?_);simp[gW];simp[th];refine gC _ _ _ ?_ rfl (Ext.refl _ _);simp[f1]
 ·simp[gV,f1,hb,eE,e];refine W.eB (n:=args.length) (fun m tm' h' nx'=>∃j:Nat,m=args.length-j∧j≤args.length∧ae (K 1) tm'=some (.ptr nx0 0)∧ae (K 53) tm'=some (.sl (ai eU args) args.length 4 .any)∧ae (K 54) tm'=some (I args.length)∧ae (K 55) tm'=some (I j)∧Ext h nx h' nx'∧(args.take j).all uA=true) ?_ ?_
  ·exact⟨0,by simp,by omega,by simp[f1],by simp,by simp,by simp,Ext.refl _ _,by simp⟩
  ·rintro m dF h1 bW ⟨j,rfl,hj,g1,g53,g54,g55,e1,ha⟩;refine W.of ?_;simp[gW];simp[th,g54,g55];refine⟨fun cH=>?_,fun Gx=>?_⟩
   ·have bY:j<args.length:=by omega
    have hr:=CV.rows args;have h4:4≤args.length*4-j*4:=by omega
    have ec:=CV.at bY;have he:List.take 4 (eU args[j])=eU args[j]:=rfl;have hl4:(eU args[j]).length=4:=rfl;have hz:∀H,aW 9999 (.agg (eU args[j])) H=(.agg (eU args[j]),H):=fun H=>by simp[eU]
    have hpc:(eU args[j]).all AV.aV=true:=rfl;simp[Bv,g53,g55,bY,hr,h4,ec,he,hl4,hpc];simp[zN,rv,he,hl4,hz];refine aM.known (S.s_values_Valid _ _ _) ?_;have e2:=e1.trans (E0 h1 bW (.cells (eU args[j]) .fix));cases ho:uA args[j]with
    |false=>simp[rz,zO];refine hq _ _ _ ?_;simp;refine uz _ _ ?_ e2;rw[List.all_eq_false];exact⟨_,DX bY,by simp[ho]⟩
    |true=>
     simp[rz,zP,g55];refine⟨args.length-(j+1),by omega,j+1,rfl,by omega,by simp[g1],by simp[g53],by simp[g54],?_,e2,?_⟩
     ·rw[aH (by omega) (by omega)];simp
     ·intro x hx;rw[zqu bY,List.mem_append,List.mem_singleton]at hx;rcases hx with hx|rfl
      ·exact AQ.1 ha x hx
      ·exact ho
   ·have bY:j=args.length:=by omega
    subst bY;rw[List.take_length]at ha;exact gC _ _ _ (by simp[g1]) ha e1
theorem X7{x:Ev}{R:Out→T ag→Key→Prop}{tm:T AV}{h:T ag}{nx nx0:Key}(hlen:x.args.length≤1000)(h0:nx0.toNat<nx.toNat)(f1:ae (K 1) tm=some (.ptr nx0 0))(f3:ae (K 3) tm=some (.bool (zU x.res)))(hb:ae nx0 h=Qw (eE x))
  (hk:0≤x.kind∧x.kind≤2) (hc:0≤x.client∧x.client≤3) (hR:∀h' nx',Ext h nx h' nx'→R (.ret (I (if CD x=true then 0 else 1))) h' nx') :
  fJ C (.seq (.seq (.ops jH) (.cond (.t (K 32)) (.seq (.seq (.ops dW) (.cond (.t (K 51)) (.seq (.ops gX) .ret) .skip)) (.seq (.seq (.ops gV) (.block 0 (.loop gW))) (.seq (.ops lM) .ret))) .skip))
   (.seq (.seq (.ops cT) (.cond (.t (K 87)) (.seq (.ops dK) .ret) .skip)) (.seq (.ops lN) .ret))) (cY [.tmp (K 2)] R) tm h nx:=by
 have rv:=S.r eH;have fail:CD x=false→R (.ret (I 1)) h nx:=fun e=>by simpa[e]using hR h nx (Ext.refl _ _)
 obtain⟨kind,client,⟨nl,nc⟩,args,res⟩:=x;have azS:args.length≤1000:=hlen;have c0:0≤client:=hc.1;have c3:client≤3:=hc.2;have fu:bB args=.nils∧args=[]∨∃l,bB args=.sl l args.length 4 .any∧args≠[]:=by
  cases args with
  |nil=>exact .inl ⟨rfl,rfl⟩
  |cons a t=>exact .inr ⟨_,rfl,by simp⟩
 have AP:kind=0∨kind=1∨kind=2:=by have:=hk.1;have:=hk.2;simp at *;omega
 have last:∀tm2:T AV,ae (K 1) tm2=some (.ptr nx0 0)→CD ⟨kind,client,(nl,nc),args,res⟩=uA res→fJ C (.seq (.ops lN) .ret) (cY [.tmp (K 2)] R) tm2 h nx:=by
  intro tm2 q1 e;have hz:∀H,aW 9999 (.agg (eU res)) H=(.agg (eU res),H):=fun H=>by simp[eU]
  simp;simp[lN,q1,hb,eE,rv];refine aM.known (S.s_values_Valid res _ _) ?_;simp;have:=hR h nx (Ext.refl _ _);rw[e]at this;exact this
 simp only[bR,cp]at last;rcases AP with rfl|rfl|rfl
 ·simp[jH,f1,hb,eE];cases hz:zU res with
  |false=>rw[hz]at f3;simp[dW,f1,f3,hb,eE,gX];exact fail (by unfold CD;simp[hz])
  |true=>
   rw[hz]at f3;by_cases hn:nl=0∧nc=0
   ·simp[dW,f1,f3,hb,eE,hn,gX];exact fail (by unfold CD;simp[hn])
   ·by_cases hl:16<nl
    ·have Wm:(16:Int)<nl:=by omega
     simp[dW,f1,f3,hb,eE,hn,hl,Wm,gX];exact fail (by unfold CD;simp;omega)
    ·have Wm:¬(16:Int)<nl:=by omega
     have go:∀(Q:cJ) (tm2:T AV),args.length≤16→ae (K 1) tm2=some (.ptr nx0 0)→(∀tm' h' nx',cY [.tmp (K 2)] R .ret tm' h' nx'→Q .ret tm' h' nx')→fJ C (.seq (.seq (.ops gV) (.block 0 (.loop gW))) (.seq (.ops lM) .ret)) Q tm2 h nx:=by
      intro Q tm2 ha q1 hq;have eok:=azU (client:=client) hz hn (by omega) ha c0 c3;rw[bR];refine X6 S (x:=⟨0,client,(nl,nc),args,res⟩) (R:=R) hlen h0 q1 hb ?_ ?_ ?_
      ·intro h' nx' e1 e2;have:=hR h' nx' e2;rw[eok,e1]at this;exact this
      ·intro tm' h' nx' q e1 e2;simp;simp[lM];refine hq _ _ _ ?_;simp;have:=hR h' nx' e2;rw[eok,e1]at this;exact this
      ·intro tm' h' nx' q;exact hq _ _ _ q
     simp only[bR,cp]at go;rcases fu with⟨ea,rfl⟩|⟨l,ea,bT⟩
     ·simp[dW,f1,f3,hb,eE,hn,hl,Wm,ea];refine go _ _ (by simp) ?_ (fun _ _ _ q=>q);simp[f1]
     ·by_cases ha:16<args.length
      ·have ha2:(16:Int)<args.length:=by omega
       simp[dW,f1,f3,hb,eE,hn,hl,Wm,ea,ha,ha2,gX];exact fail (by unfold CD;simp;omega)
      ·have ha2:¬(16:Int)<args.length:=by omega
       simp[dW,f1,f3,hb,eE,hn,hl,Wm,ea,ha,ha2];refine go _ _ (by omega) ?_ (fun _ _ _ q=>q);simp[f1]
 ·simp[jH,f1,hb,eE];by_cases hn:nl=0∧nc=0
  ·obtain⟨rfl,rfl⟩:=hn;rcases fu with⟨ea,rfl⟩|⟨l,ea,bT⟩
   ·simp[cT,f1,f3,hb,eE,ea];refine last _ ?_ (azV c0 c3);simp[f1]
   ·simp[cT,f1,f3,hb,eE,ea,List.length_pos_iff.2 bT,dK];exact fail (by unfold CD;simp[bT])
  ·simp[cT,f1,f3,hb,eE,hn,dK];exact fail (by unfold CD;simp;intros;omega)
 ·simp[jH,f1,hb,eE];by_cases hn:nl=0∧nc=0
  ·obtain⟨rfl,rfl⟩:=hn;rcases fu with⟨ea,rfl⟩|⟨l,ea,bT⟩
   ·by_cases NF:client=0
    ·subst NF;cases hz:zU res with
     |false=>rw[hz]at f3;simp[cT,f1,f3,hb,eE,ea,dK];exact fail (by rw[atc,hz])
     |true=>rw[hz]at f3;simp[cT,f1,f3,hb,eE,ea];refine last _ ?_ (by rw[atc,hz,azX hz]);simp[f1]
    ·simp[cT,f1,f3,hb,eE,ea,bq NF,dK];exact fail (by unfold CD;simp[NF])
   ·simp[cT,f1,f3,hb,eE,ea,List.length_pos_iff.2 bT,dK];exact fail (by unfold CD;simp[bT])
  ·simp[cT,f1,f3,hb,eE,hn,dK];exact fail (by unfold CD;simp;intros;omega)
theorem adO(x:Ev)(hlen:x.args.length≤1000):Pur C kM [.agg (eE x)] (·=.ret (I (if CD x=true then 0 else 1))):=by
 intro h nx;have s1:=kTSu nx;have rc:=S.r kN;have ac:=eu x.args;refine S.C5.call ?_;simp[zQ];simp[Bw,eE,ac.1];have hb1:ae nx (au nx (Qw (eE x)) h)=Qw (eE x):=by simp
 have he:=E0 h nx (.cells (eE x) .fix);have hcz:(lL ⟨x.res.k,x.res.n,[]⟩ ⟨0,0,[]⟩==0)=zU x.res:=by rw[Bool.eq_iff_iff,beq_iff_eq];exact alu _
 unfold eE at hb1 he;simp[By,rc];refine aM.known (S.s_values_Compare ⟨x.res.k,x.res.n,[]⟩ ⟨0,0,[]⟩ (by simp) (by simp) _ _) ?_;simp[hcz];by_cases hk:x.kind<0
 ·simp[gY,hk,jI,QW (x:=x) (by omega)];exact he
 by_cases hk2:2<x.kind
 ·simp[gY,hk,hk2,jI,QW (x:=x) (by omega)];exact he
 by_cases hc:x.client<0
 ·simp[gY,hk,hk2,hc,jI,QW (x:=x) (by omega)];exact he
 by_cases hc2:3<x.client
 ·have X8:¬x.client<4:=by omega
  simp[gY,hk,hk2,hc,X8,jI,QW (x:=x) (by omega)];exact he
 have X8:x.client<4:=by omega
 simp[gY,hk,hk2,hc,X8];have key:=fun tm2 g1 g3=>X7 S (x:=x) (nx0:=nx) (nx:=nx.succ) (h:=au nx (Qw (eE x)) h) (tm:=tm2) (R:=fun o h' nx'=>o=.ret (I (if CD x=true then 0 else 1))∧Ext h nx h' nx') hlen (by omega) g1 g3 hb1 (by omega) (by omega) (fun h' nx' e=>⟨rfl,he.trans e⟩);simp only[bR,cp]at key;refine key _ ?_ ?_<;>simp
end Ln
namespace Go.Sx
open Go
section
variable{α:Type}{z:Nat}{enc:α→List AV}
theorem Flat.parts(F:Flat z enc){l:List α}{j:Nat}(hj:j<l.length):ai enc l=ai enc (l.take j)++(enc l[j]++ai enc (l.drop (j+1))):=by
 conv=>lhs;rw[←List.take_append_drop j l,zqt hj]
 rw[kG,dm]
theorem Flat.Nc(F:Flat z enc){l:List α}{j off:Nat}{vs:List AV}{y:α}(hj:j<l.length)(ho:off+vs.length≤z)(hy:enc y=(enc l[j]).take off++(vs++(enc l[j]).drop (off+vs.length))) :
  (ai enc l).take (j*z+off)++(vs++(ai enc l).drop (j*z+off+vs.length))=ai enc (l.set j y):=by
 have ht:(l.take j).length=j:=by simp;omega
 have hr:(ai enc (l.take j)).length=j*z:=by rw[F.rows,ht]
 have hz:(enc l[j]).length=z:=F.len _;rw[List.set_eq_take_append_cons_drop,if_pos hj,kG,dm,hy,F.parts hj];have h1:List.take (j*z+off) (ai enc (l.take j))=ai enc (l.take j):=PV (by rw[hr];omega);have h2:List.drop (j*z+off+vs.length) (ai enc (l.take j))=[]:=List.drop_eq_nil_of_le (by rw[hr];omega);rw[zqw,zqq,hr,h1,h2];rw[show j*z+off-j*z=off by omega,show j*z+off+vs.length-j*z=off+vs.length by omega];rw[List.take_append_of_le_length (by omega),List.drop_append_of_le_length (by omega)];simp
theorem Flat.put(F:Flat z enc){l:List α}{j:Nat}(hj:j<l.length)(y:α):(ai enc l).take (j*z)++(enc y++(ai enc l).drop (j*z+z))=ai enc (l.set j y):=by have h1:=F.len y;have:=F.Nc (off:=0) (vs:=enc y) (y:=y) hj (by omega) (by rw[List.take_zero,List.drop_eq_nil_of_le (by rw[F.len];omega)];simp);rw[h1]at this;exact this
end
end Go.Sx
namespace Ln
open Go.Sx Go
def aaW(res:List RV)(R:Out→T ag→Key→Prop):cJ:=fun e tm h nx=>match e with
 |.norm|.ret=>∃l,resultsA h tm res=some l∧R (.ret (qg l)) h nx
 |.pan a=>R (.pan a) h nx
 |.exit _=>False
@[simp] theorem ayM(res:List RV)(R:Out→T ag→Key→Prop)(tm:T AV)(h:T ag)(nx:Key):aaW res R .ret tm h nx=∃l,resultsA h tm res=some l∧R (.ret (qg l)) h nx:=yg Iff.rfl
@[simp] theorem awo(res:List RV)(R:Out→T ag→Key→Prop)(tm:T AV)(h:T ag)(nx:Key):aaW res R .norm tm h nx=∃l,resultsA h tm res=some l∧R (.ret (qg l)) h nx:=yg Iff.rfl
theorem FnR.call{C:bU}{f:Nat}{p:gE}(S:FnR C f p){l:List AV}{h:T ag}{nx:Key}{R:Out→T ag→Key→Prop}(hw:fJ C p.body (aaW p.res R) (iu l (K 0) .nil) h nx):aM C f l h nx R:=by
 refine aM.of_wp (S.off _ _ _) S.get ?_;have e:Dj C f p.res R=aaW p.res R:=by funext e tm h nx;cases e<;>simp only[Dj,aaW,S.nD]<;>rfl
 rw[e];exact hw
def Gro(c:AV)(os:List Op)(h:T ag)(nx n0:Key):Prop:=(c=.nils∧os=[])∨∃b:Key,c=.slice b 0 os.length 10∧ae b h=some (.cells (ai eO os) .part)∧n0.toNat≤b.toNat∧b.toNat<nx.toNat
theorem Gro.ext{c:AV}{os:List Op}{h h':T ag}{nx nx' n0:Key}(g:Gro c os h nx n0)(e:Ext h nx h' nx'):Gro c os h' nx' n0:=by
 rcases g with g|⟨b,h1,h2,h3,h4⟩
 ·exact .inl g
 ·exact .inr ⟨b,h1,by rw[e.g b h4];exact h2,h3,by have:=e.n;omega⟩
theorem Gro.ne{c:AV}{os:List Op}{h h':T ag}{nx nx' n0 k:Key}(g:Gro c os h nx n0)(hn:nx.toNat≤nx'.toNat)(hk:∀l,ae k h≠some (.cells l .part))(e:∀b:Key,b.toNat<nx.toNat→b≠k→ae b h'=ae b h):Gro c os h' nx' n0:=by
 rcases g with g|⟨b,h1,h2,h3,h4⟩
 ·exact .inl g
 ·exact .inr ⟨b,h1,by rw[e b h4 (fun q=>by subst q;exact hk _ h2)];exact h2,h3,by omega⟩
theorem Gro.add{c:AV}{os:List Op}{h:T ag}{nx n0:Key}(g:Gro c os h nx n0)(h0:n0.toNat≤nx.toNat)(hl:os.length≤1000)(y:Op) :
  ∃c' h' nx',appendTo 10 c (eO y) 1 h nx=.val c' h' nx'∧Gro c' (os ++ [y]) h' nx' n0∧nx.toNat≤nx'.toNat∧(∀b:Key,b.toNat<n0.toNat→ae b h'=ae b h)∧∀b:Key,b.toNat<nx.toNat→(∀l,ae b h≠some (.cells l .part))→ae b h'=ae b h:=by
 have s1:=kTSu nx;have hc:(eO y).all AV.aV=true:=AQ.2 (dP.cell y);rcases g with⟨rfl,rfl⟩|⟨b,rfl,h2,h3,h4⟩
 ·exact⟨.slice nx 0 1 10,au nx (some (.cells (eO y) .part)) h,nx.succ,by simp,.inr ⟨nx,rfl,by simp[kD],h0,by omega⟩,by omega,fun b hb=>aw (by omega),fun b hb _=>aw hb⟩
 ·have hr:=dP.rows os;have Wm:os.length+1≤1048576:=by omega
  refine⟨.slice nx 0 (os.length+1) 10,au nx (some (.cells (ai eO os++eO y) .part)) (au b none h),nx.succ,?_,.inr ⟨nx,by simp,by rw[kG,kD];simp,h0,by omega⟩,by omega,fun x hx=>?_,fun x hx hk=>?_⟩
  ·simp[Wm,hc,h2,hr,Jo]
  ·rw[aw (by omega),aw (by omega)]
  ·rw[aw hx,aG];rintro rfl;exact hk _ h2
def FZ(s:Sc):List AV:=[I s.o0,I s.o1,I s.o2,I s.o3]
theorem Mj(s:Sc):(FZ s).length=4:=rfl
theorem QY(s:Sc){c:Nat}(h:c<4):(FZ s)[c]?=some (I (s.op c)):=by
 have:c=0∨c=1∨c=2∨c=3:=by omega
 rcases this with rfl|rfl|rfl|rfl<;>simp[FZ,Sc.op]
theorem Yi(s:Sc){c:Nat}(h:c<4)(v:Int):List.take c (FZ s)++I v ::List.drop (c+1) (FZ s)=FZ (s.set c v):=by
 have:c=0∨c=1∨c=2∨c=3:=by omega
 rcases this with rfl|rfl|rfl|rfl<;>simp[FZ,Sc.set]
abbrev NQ:aL:=(.block 4 (.seq (.ops kT)
 (.cond (.t (K 53))
 (.seq (.seq (.ops py)
 (.cond (.t (K 56))
 (.seq (.ops vE)
 .ret)
 .skip))
 (.seq (.ops pz)
 (.ops pA)))
 (.seq (.ops pr)
 (.cond (.t (K 73))
 (.seq (.seq (.ops pB)
 (.cond (.t (K 76))
 (.seq (.ops vG)
 .ret)
 .skip))
 (.seq (.staged vH ⟨[K 77,K 78,K 79,K 80,K 81,K 82,K 83,K 84,K 85,K 86,K 87],[]⟩)
 (.ops vJ)))
 (.seq (.ops vp)
 (.cond (.t (K 91))
 (.seq (.ops vq)
 (.block 5 (.loop xF)))
 .skip)))))))
structure At(l:List Ev)(s:Sc)(i:Nat)(bo n0:Key)(tm:T AV)(h:T ag)(nx:Key):Prop where
 g8:ae (K 8) tm=some (.ptr bo 0)
 WC:ae (K 35) tm=some (.sl (ai eE l) l.length 8 .any)
 Yh:ae (K 36) tm=some (I l.length)
 g37:ae (K 37) tm=some (I i)
 gro:∃c,ae (K 7) tm=some c∧Gro c s.ops h nx n0
 FZ:ae bo h=Qw (FZ s)
 bo0:n0.toNat≤bo.toNat
 bo1:bo.toNat<nx.toNat
variable{C:bU}
theorem am2{l:List Ev}{s:Sc}{i:Nat}{bo n0 nb:Key}{x:Ev}{Q:cJ}{tm:T AV}{h:T ag}{nx:Key}(A:At l s i bo n0 tm h nx)(hx:CD x=true)(hk:x.kind=0)(hl:s.ops.length≤1000)(bT:bo≠nb)(hnb:nb.toNat<nx.toNat)
  (g9:ae (K 9) tm=some (I i)) (g10:ae (K 10) tm=some (.ptr nb 0)) (gb:ae nb h=Qw (eE x)) (g12:ae (K 12) tm=some (I (s.op x.client))) (g52:ae (K 52) tm=some (I x.kind))
  (uz:∀tm',wW s x=2→ae (K 2) tm'=some .nils→ae (K 3) tm'=some (I 20)→Q .ret tm' h nx)
  (gC:∀tm' h' nx',wW s x=0→At l (mq i s x) i bo n0 tm' h' nx'→(∀b:Key,b.toNat<n0.toNat→ae b h'=ae b h)→nx.toNat≤nx'.toNat→Q .norm tm' h' nx') :
  fJ C NQ Q tm h nx:=by
 have Zm:=hx;unfold CD at Zm;rw[decide_eq_true_eq]at Zm;obtain⟨_,_,c0,c3,_⟩:=Zm;obtain⟨g8,WC,Yh,g37,⟨c7,g7,gro⟩,go,bo0,bo1⟩:=A;have hb:wW s x=if 0≤s.op x.client then 2 else 0:=by unfold wW;rw[hx];simp[hk]
 obtain⟨kind,client,⟨nl,nc⟩,args,res⟩:=x;have hk:kind=0:=hk;subst hk;obtain⟨c,rfl⟩:=Int.eq_ofNat_of_zero_le c0;have hc4:c<4:=by have:((c:Nat):Int)≤3:=c3;omega
 have hg:=QY s hc4;have hp:=fun v=>Yi s hc4 v;have ol:=Mj s;have X8:c≤3:=by omega
 simp;simp[kT,g52];by_cases ho:s.op c<0
 ·have Nb:wW s ⟨0,c,(nl,nc),args,res⟩=0:=by rw[hb,if_neg];simpa using ho
  simp[py,g12,ho];have ZA:∀ls,ae bo h≠some (.cells ls .part):=fun ls e=>by rw[go]at e;cases e
  have ac:=eu args;have af:∀n H,aW n (bB args) H=(bB args,H):=kz args;have s1:=kTSu nx;have aAM:Gro c7 s.ops (au bo (Qw (FZ (s.set c s.ops.length))) h) nx n0:=gro.ne (dQ _) ZA (fun b _ hb=>aG _ _ _ _ hb);have go1:ae bo (au bo (Qw (FZ (s.set c s.ops.length))) h)=Qw (FZ (s.set c s.ops.length)):=by simp
  have gb1:ae nb (au bo (Qw (FZ (s.set c s.ops.length))) h)=Qw (eE ⟨0,c,(nl,nc),args,res⟩):=by rw[aG _ _ _ _ (Ne.symm bT)];exact gb
  have atU:∀b:Key,b.toNat<n0.toNat→ae b (au bo (Qw (FZ (s.set c s.ops.length))) h)=ae b h:=fun b hb=>aw (by omega);have fin:∀tm2:T AV,(∀k:Key,k=K 7∨k=K 8∨k=K 9∨k=K 10∨k=K 35∨k=K 36∨k=K 37→ae k tm2=ae k tm)→ns C (az 4 Q) pA tm2 (au bo (Qw (FZ (s.set c s.ops.length))) h) nx:=by
   intro tm2 q;have q7:=(q (K 7) (by simp)).trans g7;have q8:=(q (K 8) (by simp)).trans g8;have q9:=(q (K 9) (by simp)).trans g9;have Gm:=(q (K 10) (by simp)).trans g10;generalize au bo (Qw (FZ (s.set c s.ops.length))) h=h1 at aAM go1 gb1 atU ⊢;have amC:=aAM.ext (E0 h1 nx (.cells (eO (qI i ⟨0,c,(nl,nc),args,res⟩)) .fix));obtain⟨c',h',nx',ga,aHW,n3,aHX,aAN⟩:=amC.add (by omega) hl (qI i ⟨0,c,(nl,nc),args,res⟩);have ey:eO (qI i ⟨0,c,(nl,nc),args,res⟩)=[I c,I i,I (-1),I (-1),.str nl nc,bB args,I 0,I 0,.str 0 0,.nils]:=rfl;rw[ey]at ga;simp[-appendTo,pA,q7,q9,Gm,gb1,eE,ac.1,ac.2,af,ga];have hn:mq i s ⟨0,c,(nl,nc),args,res⟩={s.set c s.ops.length with ops:=s.ops ++ [qI i ⟨0,c,(nl,nc),args,res⟩]}:=by unfold mq;simp
   refine gC _ _ _ Nb ⟨by simp[q8],?_,?_,?_,⟨c',by simp,?_⟩,?_,bo0,by omega⟩ ?_ (by omega)
   ·simp;exact(q (K 35) (by simp)).trans WC
   ·simp;exact(q (K 36) (by simp)).trans Yh
   ·simp;exact(q (K 37) (by simp)).trans g37
   ·rw[hn];exact aHW
   ·rw[hn,aAN bo (by omega) (fun ls e=>by rw[aw bo1,go1]at e;cases e),aw bo1,go1];rfl
   ·intro b ir;rw[aHX b ir,aw (by omega),atU b ir]
  rcases gro with⟨e7,eo⟩|⟨b7,e7,hb7,_,aqR⟩
  ·rw[e7]at g7;have e0:s.ops.length=0:=by simp[eo]
   rw[e0]at fin;have hp0:=hp 0;simp[pz,g7,g8,g10,gb,eE,go,ol,hc4,hp0,hg,X8];refine fin _ ?_;rintro k (rfl|rfl|rfl|rfl|rfl|rfl|rfl)<;>simp[g7]
  ·rw[e7]at g7;have hp0:=hp s.ops.length;simp[pz,g7,g8,g10,gb,eE,go,ol,hc4,hp0,hg,X8];refine fin _ ?_;rintro k (rfl|rfl|rfl|rfl|rfl|rfl|rfl)<;>simp[g7]
 ·have Nb:wW s ⟨0,c,(nl,nc),args,res⟩=2:=by rw[hb,if_pos];simpa using ho
  simp[py,g12,ho];simp[vE];refine uz _ Nb ?_ ?_<;>simp
theorem awq{l:List Ev}{s:Sc}{i:Nat}{bo n0 nb:Key}{x:Ev}{Q:cJ}{tm:T AV}{h:T ag}{nx:Key}(A:At l s i bo n0 tm h nx)(hx:CD x=true)(hk:x.kind=1)(Ae:s.op x.client<s.ops.length)(bT:bo≠nb)(hnb:nb.toNat<nx.toNat)
  (g9:ae (K 9) tm=some (I i)) (g10:ae (K 10) tm=some (.ptr nb 0)) (gb:ae nb h=Qw (eE x)) (g12:ae (K 12) tm=some (I (s.op x.client))) (g52:ae (K 52) tm=some (I x.kind))
  (uz:∀tm',wW s x=3→ae (K 2) tm'=some .nils→ae (K 3) tm'=some (I 25)→Q .ret tm' h nx)
  (gC:∀tm' h' nx',wW s x=0→At l (mq i s x) i bo n0 tm' h' nx'→(∀b:Key,b.toNat<n0.toNat→ae b h'=ae b h)→nx.toNat≤nx'.toNat→Q .norm tm' h' nx') :
  fJ C NQ Q tm h nx:=by
 have Zm:=hx;unfold CD at Zm;rw[decide_eq_true_eq]at Zm;obtain⟨_,_,c0,c3,_⟩:=Zm;obtain⟨g8,WC,Yh,g37,⟨c7,g7,gro⟩,go,bo0,bo1⟩:=A;have hb:wW s x=if s.op x.client<0 then 3 else 0:=by unfold wW;rw[hx];simp[hk]
 obtain⟨kind,client,⟨nl,nc⟩,args,res⟩:=x;have hk:kind=1:=hk;subst hk;obtain⟨c,rfl⟩:=Int.eq_ofNat_of_zero_le c0;have hc4:c<4:=by have:((c:Nat):Int)≤3:=c3;omega
 have hg:=QY s hc4;have hp:=fun v=>Yi s hc4 v;have ol:=Mj s;have X8:c≤3:=by omega
 simp;simp[kT,g52];simp[pr,g52];by_cases ho:s.op c<0
 ·have Nb:wW s ⟨1,c,(nl,nc),args,res⟩=3:=by rw[hb,if_pos];simpa using ho
  simp[pB,g12,ho];simp[vG];refine uz _ Nb ?_ ?_<;>simp
 ·have Nb:wW s ⟨1,c,(nl,nc),args,res⟩=0:=by rw[hb,if_neg];simpa using ho
  simp[pB,g12,ho];have Ae:s.op c<s.ops.length:=Ae;obtain⟨a,ha⟩:=Int.eq_ofNat_of_zero_le (show 0≤s.op c by omega);have hal:a<s.ops.length:=by omega
  rcases gro with⟨e7,eo⟩|⟨b7,e7,hb7,avG,aqR⟩
  ·rw[eo]at hal;simp at hal
  ·rw[e7]at g7;have aqS:b7≠bo:=by rintro rfl;rw[go]at hb7;simp at hb7
   have aHY:b7≠nb:=by rintro rfl;rw[gb]at hb7;simp at hb7
   have hr:=dP.rows s.ops;have p1:=dP.Nc (l:=s.ops) (j:=a) (off:=2) (vs:=[I i]) (y:={s.ops[a]with e:=i}) hal (by simp) rfl;have aHZ:a<(s.ops.set a {s.ops[a]with e:=i}).length:=by simpa using hal
   have ND:=dP.rows (s.ops.set a {s.ops[a]with e:=i});have p2:=dP.Nc (l:=s.ops.set a {s.ops[a]with e:=i}) (j:=a) (off:=6) (vs:=eU res) (y:={s.ops[a]with e:=i,res:=res}) aHZ (by simp[eU]) (by simp[eO,eU]);simp[eU]at p1 p2 ND;rw[ha]at g12;have hb1:a*10+2<s.ops.length*10:=by omega
   have IW:a*10+2+1≤s.ops.length*10:=by omega
   have hb3:a*10+6+4≤s.ops.length*10:=by omega
   have gnb:∀B,ae nb (au b7 B h)=Qw (eE ⟨1,c,(nl,nc),args,res⟩):=fun B=>by rw[aG _ _ _ _ (Ne.symm aHY)];exact gb
   have gbo:∀B,ae bo (au b7 B h)=Qw (FZ s):=fun B=>by rw[aG _ _ _ _ (Ne.symm aqS)];exact go
   have hbr:AV.beq (.agg [I res.k,I res.n,.str 0 0,.nils]) (.agg [I res.k,I res.n,.str 0 0,.nils])=true:=beq_refl _ rfl;simp[vH,g7,g9,g10,g12,gb,eE,hal,hb7,hr,ND,IW,hb3,p1,p2,gnb,hbr];have hp1:=hp (-1);simp[vJ,g8,g10,gnb,gbo,eE,ol,hc4,hp1,X8];have hn:mq i s ⟨1,c,(nl,nc),args,res⟩={s.set c (-1)with ops:=s.ops.modify a fun o=>{o with e:=i,res:=res}}:=by unfold mq;simp[ha]
   have hm:s.ops.modify a (fun o=>{o with e:=(i:Int),res:=res})=s.ops.set a {s.ops[a]with e:=i,res:=res}:=by
    apply List.ext_getElem?;intro q;rw[List.getElem?_modify,List.getElem?_set];by_cases hq:a=q
    ·subst hq;simp[hal]
    ·simp[hq]
   refine gC _ _ _ Nb ⟨by simp[g8],by simp[WC],by simp[Yh],by simp[g37],⟨.slice b7 0 s.ops.length 10,by simp[g7],.inr ⟨b7,?_,?_,avG,aqR⟩⟩,?_,bo0,bo1⟩ ?_ (dQ _)
   ·rw[hn];simp
   ·rw[hn];show ae b7 _=some (ag.cells (ai eO (s.ops.modify a _)) CK.part);rw[hm,aG _ _ _ _ aqS];simp
   ·rw[hn];simp;rfl
   ·intro b ir;rw[aw (by omega),aw (by omega)]
end Ln
namespace Ln
open Go.Sx Go
def Ad(i:Nat)(s:Sc):Nat→List Op
 |0=>s.ops
 |j+1=>qt i (s.op j) (Ad i s j)
def clr(s:Sc):Nat→Sc
 |0=>s
 |j+1=>(clr s j).set j (-1)
theorem aaD(i:Nat)(v:Int)(l:List Op):(qt i v l).length=l.length:=by unfold qt;split<;>simp
theorem WB(i:Nat)(s:Sc):∀j,(Ad i s j).length=s.ops.length
 |0=>rfl
 |j+1=>by show(qt i (s.op j) (Ad i s j)).length=_;rw[aaD,WB i s j]
theorem amA{i a:Nat}{v:Int}{l:List Op}(hv:v=a)(ha:a<l.length):qt i v l=l.set a {l[a]with lost:=i}:=by
 subst hv;unfold qt;rw[if_pos (by omega)];apply List.ext_getElem?;intro q;rw[List.getElem?_modify,List.getElem?_set];by_cases hq:a=q
 ·subst hq;simp[ha]
 ·simp[hq]
theorem aqP{i:Nat}{v:Int}{l:List Op}(hv:v<0):qt i v l=l:=by unfold qt;rw[if_neg (by omega)]
def SwI(l:List Ev)(s:Sc)(i:Nat)(bo n0:Key)(h:T ag)(nx:Key)(c7:AV)(m:Nat)(tm':T AV)(h':T ag)(nx':Key):Prop:=∃j:Nat,m=4-j∧j≤4∧nx'=nx∧
 ae (K 7) tm'=some c7∧ae (K 8) tm'=some (.ptr bo 0)∧ae (K 9) tm'=some (I i)∧ae (K 35) tm'=some (.sl (ai eE l) l.length 8 .any)∧ae (K 36) tm'=some (I l.length)∧ae (K 37) tm'=some (I i)∧
 ae (K 93) tm'=some (.agg (FZ s))∧ae (K 94) tm'=some (I j)∧Gro c7 (Ad i s j) h' nx n0∧ae bo h'=Qw (FZ (clr s j))∧(∀b:Key,b.toNat<n0.toNat→ae b h'=ae b h)
variable{C:bU}
theorem amB{l:List Ev}{s:Sc}{i:Nat}{bo n0:Key}{x:Ev}{Q:cJ}{tm:T AV}{h:T ag}{nx:Key}(A:At l s i bo n0 tm h nx)(hx:CD x=true)(hk:x.kind=2)(Ae:∀c,0≤c→c≤3→s.op c<s.ops.length)(hl:s.ops.length≤1000)
  (g9:ae (K 9) tm=some (I i)) (g52:ae (K 52) tm=some (I x.kind))
  (gC:∀tm' h' nx',wW s x=0→At l (mq i s x) i bo n0 tm' h' nx'→(∀b:Key,b.toNat<n0.toNat→ae b h'=ae b h)→nx.toNat≤nx'.toNat→Q .norm tm' h' nx') :
  fJ C NQ Q tm h nx:=by
 obtain⟨g8,WC,Yh,g37,⟨c7,g7,gro⟩,go,bo0,bo1⟩:=A;have Nb:wW s x=0:=by unfold wW;rw[hx];simp[hk]
 have hn:mq i s x=⟨qt i s.o3 (qt i s.o2 (qt i s.o1 (qt i s.o0 s.ops))),-1,-1,-1,-1⟩:=by unfold mq;simp[hk]
 rw[hk]at g52;simp;simp[kT,g52];simp[pr,g52];simp[vp,g52];have ol:=Mj s;have ot:List.take 4 (FZ s)=FZ s:=rfl;have oz:∀H,aW 9999 (.agg (FZ s)) H=(.agg (FZ s),H):=fun H=>by simp[FZ]
 simp[vq,g8,go,ol,ot,oz];refine W.eB (n:=4) (SwI l s i bo n0 h nx c7) ?_ ?_
 ·refine⟨0,rfl,by omega,rfl,?_,?_,?_,?_,?_,?_,?_,?_,gro,go,fun _ _=>rfl⟩<;>simp[*]
 ·rintro m dF h1 bW ⟨j,rfl,hj,rfl,g7,g8,g9,WC,Yh,g37,g93,g94,gro,go,ai2⟩;refine W.of ?_;simp[xF];simp[Df,g94];refine⟨fun cH=>?_,fun Gx=>?_⟩
  ·have hj4:j<4:=by omega
   have hj3:j≤3:=by omega
   have hg:=QY s hj4;have hp:=Yi (clr s j) hj4 (-1);have ol2:=Mj (clr s j);have hjb:=Ae j (by omega) (by omega);have hlen:=WB i s j;simp[Dg,g93,g94,hj4,hg];have fin:∀(tm2:T AV) (h2:T ag),(∀k:Key,k=K 7∨k=K 8∨k=K 9∨k=K 35∨k=K 36∨k=K 37∨k=K 93∨k=K 94→ae k tm2=ae k dF)→ae (K 13) tm2=some (I j)→Gro c7 (Ad i s (j+1)) h2 bW n0→ae bo h2=Qw (FZ (clr s j))→(∀b:Key,b.toNat<n0.toNat→ae b h2=ae b h)→
     ns C (az 6 (aO (fJ C (.ops vw) (aO (fun tm h' nx=>∃m,m<4-j∧SwI l s i bo n0 h bW c7 m tm h' nx) (az 5 (az 4 Q)))) (aO (fun tm h' nx=>∃m,m<4-j∧SwI l s i bo n0 h bW c7 m tm h' nx) (az 5 (az 4 Q))))) vz tm2 h2 bW:=by
    intro tm2 h2 q NB amC go2 aGv;have q7:=(q (K 7) (by simp)).trans g7;have q8:=(q (K 8) (by simp)).trans g8;have q9:=(q (K 9) (by simp)).trans g9;have q35:=(q (K 35) (by simp)).trans WC;have q36:=(q (K 36) (by simp)).trans Yh;have q37:=(q (K 37) (by simp)).trans g37;have q93:=(q (K 93) (by simp)).trans g93;have q94:=(q (K 94) (by simp)).trans g94;simp[vz,NB,q8,go2,hj4,hj3,ol2,hp];simp[vw,q94];rw[aH (by omega) (by omega)];refine⟨4-(j+1),by omega,j+1,rfl,by omega,rfl,by simp[q7],by simp[q8],by simp[q9],by simp[q35],by simp[q36],by simp[q37],by simp[q93],by simp,?_,by simp[clr],fun b hb=>?_⟩
    ·exact amC.ne (dQ _) (fun ls e=>by rw[go2]at e;simp at e) (fun b _ hb=>aG _ _ _ _ hb)
    ·rw[aw (by omega)];exact aGv b hb
   by_cases ho:s.op j<0
   ·simp[vA,ho];refine fin _ h1 ?_ ?_ ?_ go ai2
    ·rintro k (rfl|rfl|rfl|rfl|rfl|rfl|rfl|rfl)<;>simp
    ·simp
    ·show Gro c7 (qt i (s.op j) (Ad i s j)) h1 bW n0;rw[aqP ho];exact gro
   ·obtain⟨a,ha⟩:=Int.eq_ofNat_of_zero_le (show 0≤s.op j by omega);have hal:a<(Ad i s j).length:=by omega
    have ho2:¬(a:Int)<0:=by omega
    rcases gro with⟨e7,eo⟩|⟨b7,e7,hb7,avG,aqR⟩
    ·rw[eo]at hal;simp at hal
    ·have g7':=g7;rw[e7]at g7;have aqS:b7≠bo:=by rintro rfl;rw[go]at hb7;simp at hb7
     have hr:=dP.rows (Ad i s j);have p1:=dP.Nc (l:=Ad i s j) (j:=a) (off:=3) (vs:=[I i]) (y:={(Ad i s j)[a]with lost:=i}) hal (by simp) rfl;simp at p1;have IW:a*10+3+1≤(Ad i s j).length*10:=by omega
     simp[vA,ha,ho2];simp[Dh,g7,g9,hal,hb7,hr,IW,p1];refine fin _ _ ?_ ?_ ?_ ?_ ?_
     ·rintro k (rfl|rfl|rfl|rfl|rfl|rfl|rfl|rfl)<;>simp[g7]
     ·simp
     ·refine .inr ⟨b7,by rw[e7];simp[Ad,aaD],?_,avG,aqR⟩;show _=some (ag.cells (ai eO (qt i (s.op j) (Ad i s j))) CK.part);rw[amA ha hal];simp
     ·rw[aG _ _ _ _ (Ne.symm aqS)];exact go
     ·intro b hb;rw[aw (by omega)];exact ai2 b hb
  ·have:j=4:=by omega
   subst this;refine gC _ _ _ Nb ⟨by simp[g8],by simp[WC],by simp[Yh],by simp[g37],⟨c7,by simp[g7],?_⟩,?_,bo0,bo1⟩ ai2 (dQ _)
   ·rw[hn];have:Ad i s 4=qt i s.o3 (qt i s.o2 (qt i s.o1 (qt i s.o0 s.ops))):=by simp[Ad,Sc.op]
    rw[this]at gro;exact gro
   ·rw[hn,go];simp[clr,Sc.set,FZ]
end Ln
namespace Ln
open Go.Sx Go
def sc0:Sc:=⟨[],-1,-1,-1,-1⟩
theorem kp0:Kp [] sc0:=by
 refine⟨rfl,?_,?_,?_,?_⟩
 ·intro c a b;unfold sc0 Sc.op pW;repeat' split<;>simp
 ·intro c _;unfold sc0 Sc.op;simp
 ·intro c a b h;unfold sc0 Sc.op at h;simp at h
 ·intro j o h;simp[sc0]at h
theorem Kp.lt{p:List Ev}{s:Sc}(h:Kp p s):∀c,0≤c→c≤3→s.op c<s.ops.length:=by
 intro c a b;by_cases h0:0≤s.op c
 ·obtain⟨o,h1,_⟩:=h.here c a b h0;have:=(List.getElem?_eq_some_iff.1 h1).1;omega
 ·omega
def ScI(l:List Ev)(bo:Key)(h:T ag)(nx:Key)(m:Nat)(tm':T AV)(h':T ag)(nx':Key):Prop:=∃(i:Nat) (s:Sc),m=l.length-i∧i≤l.length∧At l s i bo nx tm' h' nx'∧Kp (l.take i).reverse s∧scan 0 sc0 l=scan i s (l.drop i)∧Ext h nx h' nx'
def auk(l:List Ev)(h:T ag)(nx:Key)(o:Out)(h':T ag)(nx':Key):Prop:=(∃c,o=.ret (.tuple [c,I (EI (dI [] l))])∧Gro c (if dI [] l=0 then aI 0 l else []) h' nx' nx)∧Ext h nx h' nx'
variable{C:bU}{X:Kn}(S:Std C X)
include S
omit S in
theorem Ud{l:List Ev}{s:Sc}{i:Nat}{x:Ev}{t:List Ev}{n:Nat}(hs:scan 0 sc0 l=scan i s (x ::t))(hb:wW s x=n+1):dI [] l=n+1:=by
 have h1:=abD l;have h2:scan i s (x ::t)=(n+1,[]):=by show(match wW s x with|0=>scan (i+1) (mq i s x) t|n=>(n,[]))=_;rw[hb];rfl
 have:(⟨[],-1,-1,-1,-1⟩:Sc)=sc0:=rfl;rw[this,hs,h2]at h1;exact(congrArg Prod.fst h1).symm
omit S in
theorem aoO{l:List Ev}{s:Sc}{i:Nat}(hs:scan 0 sc0 l=scan i s []):dI [] l=0∧aI 0 l=s.ops:=by have h1:=abD l;have:(⟨[],-1,-1,-1,-1⟩:Sc)=sc0:=rfl;have h2:scan i s []=(0,s.ops):=rfl;rw[this,hs,h2]at h1;have h3:=(congrArg Prod.fst h1).symm;have h4:=(congrArg Prod.snd h1).symm;simp only at h3 h4;rw[if_pos h3]at h4;exact⟨h3,h4⟩
theorem agk{l:List Ev}(hl:Few l){dF:T AV}{h h1:T ag}{nx bW bo:Key}{s:Sc}{i:Nat}{Q:cJ}(hi:i<l.length)(A:At l s i bo nx dF h1 bW)(kp:Kp (l.take i).reverse s)(hs:scan 0 sc0 l=scan i s (l.drop i))(e1:Ext h nx h1 bW)
  (xK:∀tm' h' nx',ae (K 2) tm'=some .nils→ae (K 3) tm'=some (I (EI (dI [] l)))→dI [] l≠0→Ext h nx h' nx'→Q .ret tm' h' nx')
  (acG:∀tm' h' nx' m,m<l.length-i→ScI l bo h nx m tm' h' nx'→Q .norm tm' h' nx') :
  fJ C mr Q dF h1 bW:=by
 have aJu:=hl.len;have rf:=S.r kM;have s1:=kTSu bW;have A':=A;obtain⟨g8,WC,Yh,g37,⟨c7,g7,gro⟩,go,bo0,bo1⟩:=A';have Zn:(i:Int)<l.length:=by omega
 have hlen:=pQ.rows l;have h8:8≤l.length*8-i*8:=by omega
 have ec:=pQ.at hi;have Ky:=hl.args _ (DX hi);have hz:∀H,aW 9999 (.agg (eE l[i])) H=(.agg (eE l[i]),H):=fun H=>by have:=dw (n:=9998) (l:=eE l[i]) (h:=H) (pQ.wH _);simp only[WH];rw[this]
 have he:List.take 8 (eE l[i])=eE l[i]:=rfl;have hl8:(eE l[i]).length=8:=rfl;have UH:(eE l[i]).all AV.aV=true:=AQ.2 (pQ.cell _);rw[zqt hi]at hs;have QV:(l.take (i+1)).reverse=l[i] ::(l.take i).reverse:=by rw[zqu hi];simp
 have yS:(l.take i).reverse.length=i:=by simp;omega
 generalize l[i]=x at *;simp[mr];simp[pG,Yh,g37,Zn];simp[DL,WC,g37,hi,hlen,h8,ec,he,hl8,UH];simp[DM,rf,he,hl8,hz];have Gp:=e1.trans (E0 h1 bW (.cells (eE x) .fix));refine(adO S x Ky _ _).mono ?_;rintro o h2 aN ⟨rfl,e2⟩;have Rc:=Gp.trans e2;have gb2:ae bW h2=Qw (eE x):=by rw[e2.g bW (by omega)];simp
 have go2:ae bo h2=Qw (FZ s):=by rw[e2.g bo (by omega),aw bo1];exact go
 have amC:Gro c7 s.ops h2 aN nx:=(gro.ext (E0 h1 bW (.cells (eE x) .fix))).ext e2;have n2:=e2.n;simp;cases wQ:CD x with
 |false=>
  simp[wh];simp[DN];have hv:=Ud hs (n:=0) (by unfold wW;rw[wQ];rfl);refine xK _ _ _ ?_ ?_ (by omega) Rc
  ·simp
  ·simp[hv,EI]
 |true=>
  simp[wh];have hx2:0≤x.client∧x.client≤3:=by have h0:=wQ;unfold CD at h0;rw[decide_eq_true_eq]at h0;exact⟨h0.2.2.1,h0.2.2.2.1⟩
  obtain⟨c,hc⟩:=Int.eq_ofNat_of_zero_le hx2.1;have hc4:c<4:=by omega
  have X8:c≤3:=by omega
  have hg:=QY s hc4;have ol:=Mj s;simp[DO,g8,gb2,eE,hc,hc4,X8,go2,hg,ol];simp[DP,gb2,eE];have AP:x.kind=0∨x.kind=1∨x.kind=2:=by unfold CD at wQ;rw[decide_eq_true_eq]at wQ;omega
  have bT:bo≠bW:=by rintro rfl;omega
  have sol:s.ops.length≤1000:=by have:=sW (l.take i) 0;have h3:=kp.ops;rw[List.reverse_reverse]at h3;rw[h3];simp at this;omega
  have hcx:x.client=(c:Int):=hc;have fin:∀(K1:T AV) (h3:T ag) (bP:Key),wW s x=0→At l (mq i s x) i bo nx K1 h3 bP→(∀b:Key,b.toNat<nx.toNat→ae b h3=ae b h2)→aN.toNat≤bP.toNat→
    (az 3 (aO (fJ C (.ops iS) Q) Q)) .norm K1 h3 bP:=by
   intro K1 h3 bP hb A3 low n3;obtain⟨a8,a35,a36,a37,⟨d7,a7,axh⟩,ao,ab0,ab1⟩:=A3;simp;simp[iS,a37];rw[aH (by omega) (by omega)];refine acG _ _ _ (l.length-(i+1)) (by omega) ⟨i+1,mq i s x,rfl,by omega,⟨by simp[a8],by simp[a35],by simp[a36],by simp,⟨d7,by simp[a7],axh⟩,ao,ab0,ab1⟩,?_,?_,?_⟩
   ·have:=ahU kp wQ hb;rw[yS]at this;rw[QV];exact this
   ·rw[hs];show(match wW s x with|0=>scan (i+1) (mq i s x) _|n=>(n,[]))=_;rw[hb];rfl
   ·exact⟨by have:=Rc.n;omega,fun b hb=>by rw[low b hb];exact Rc.g b hb⟩
  have hg2:∀hh,(FZ s)[c]'hh=I (s.op c):=fun hh=>by have:=A6 hh;rw[hg]at this;exact(Option.some.inj this).symm
  simp only[hg2];have A2:∀K1:T AV,(∀k:Key,k=K 7∨k=K 8∨k=K 35∨k=K 36∨k=K 37→ae k K1=ae k dF)→At l s i bo nx K1 h2 aN:=fun K1 q=>
   ⟨(q (K 8) (by simp)).trans g8,(q (K 35) (by simp)).trans WC,(q (K 36) (by simp)).trans Yh,(q (K 37) (by simp)).trans g37,⟨c7,(q (K 7) (by simp)).trans g7,amC⟩,go2,bo0,by omega⟩
  rcases AP with k0|k0|k0
  ·have key:=fun K1 A g9 g10 g12 g52=>am2 (C:=C) (Q:=az 3 (aO (fJ C (.ops iS) Q) Q)) (tm:=K1) A wQ k0 sol bT (by omega) g9 g10 gb2 g12 g52 (fun tm' hb e2 e3=>by simp;have hv:=Ud hs (n:=1) hb;exact xK _ _ _ e2 (by rw[hv];exact e3) (by omega) Rc) (fun tm' h' nx' hb A' low n=>fin tm' h' nx' hb A' low n)
   simp only[NQ,vm,bR,cp]at key;refine key _ (A2 _ ?_) ?_ ?_ ?_ ?_
   ·rintro k (rfl|rfl|rfl|rfl|rfl)<;>simp
   all_goals simp[hcx]
  ·have key:=fun K1 A g9 g10 g12 g52=>awq (C:=C) (Q:=az 3 (aO (fJ C (.ops iS) Q) Q)) (tm:=K1) A wQ k0 (kp.lt _ hx2.1 hx2.2) bT (by omega) g9 g10 gb2 g12 g52 (fun tm' hb e2 e3=>by simp;have hv:=Ud hs (n:=2) hb;exact xK _ _ _ e2 (by rw[hv];exact e3) (by omega) Rc) (fun tm' h' nx' hb A' low n=>fin tm' h' nx' hb A' low n)
   simp only[NQ,vm,bR,cp]at key;refine key _ (A2 _ ?_) ?_ ?_ ?_ ?_
   ·rintro k (rfl|rfl|rfl|rfl|rfl)<;>simp
   all_goals simp[hcx]
  ·have key:=fun K1 A g9 g52=>amB (C:=C) (Q:=az 3 (aO (fJ C (.ops iS) Q) Q)) (tm:=K1) A wQ k0 kp.lt sol g9 g52 (fun tm' h' nx' hb A' low n=>fin tm' h' nx' hb A' low n);simp only[NQ,vm,bR,cp]at key;refine key _ (A2 _ ?_) ?_ ?_
   ·rintro k (rfl|rfl|rfl|rfl|rfl)<;>simp
   all_goals simp
theorem apQ{ev:AV}{l:List Ev}(hv:gR 8 eE ev l)(hl:Few l)(h:T ag)(nx:Key):aM C ny [ev] h nx (auk l h nx):=by
 have aJu:=hl.len;have s1:=kTSu nx;refine S.HV.call ?_;simp[Er];simp[FC];simp[FD];simp[FE];have IT:∀{c:AV} {h':T ag} {nx':Key} {s:Sc} {i:Nat},scan 0 sc0 l=scan i s []→Gro c s.ops h' nx' nx→Ext h nx h' nx'→auk l h nx (.ret (.tuple [c,I 0])) h' nx':=by intro c h' nx' s i hs g e;obtain⟨h1,h2⟩:=aoO hs;refine⟨⟨c,by rw[h1];rfl,?_⟩,e⟩;rw[if_pos h1,h2];exact g
 rcases hv with⟨rfl,rfl⟩|rfl
 ·simp;refine W.Q8 (W.of ?_);simp[xQ];simp[xR];simp[xS];simp[wi];simp[wj];simp[wk];refine W.Q8 (W.of ?_);simp[mr];simp[pG];simp[wo];exact IT (s:=sc0) (i:=0) rfl (.inl ⟨rfl,rfl⟩) (E0 h nx _)
 ·simp;refine W.eB (n:=l.length) (fun m tm' h' nx'=>∃j b:Nat,m=l.length-j∧j≤l.length∧b≤j∧ae (K 0) tm'=some (.sl (ai eE l) l.length 8 .any)∧ae (K 15) tm'=some (.sl (ai eE l) l.length 8 .any)∧ae (K 16) tm'=some (I l.length)∧ae (K 17) tm'=some (I j)∧ae (K 4) tm'=some (I b)∧Ext h nx h' nx') ?_ ?_
  ·exact⟨0,0,by simp,by omega,by omega,by simp,by simp,by simp,by simp,by simp,Ext.refl _ _⟩
  ·rintro m dF h1 bW ⟨j,b,rfl,hj,hb,g0,g15,g16,g17,g4,e1⟩;have s11:=kTSu bW;refine W.of ?_;simp[xQ];simp[xR,g16,g17];refine⟨fun cH=>?_,fun Gx=>?_⟩
   ·have bY:j<l.length:=by omega
    have hlen:=pQ.rows l;have h8:8≤l.length*8-j*8:=by omega
    have ec:=pQ.at bY;have UH:(eE l[j]).all AV.aV=true:=AQ.2 (pQ.cell _);have he:List.take 8 (eE l[j])=eE l[j]:=rfl;have hl8:(eE l[j]).length=8:=rfl;have hk0:(eE l[j])[0]?=some (I l[j].kind):=rfl;have e2:=e1.trans (E0 h1 bW (.cells (eE l[j]) .fix));simp[FF,g15,g17,bY,hlen,h8,ec,he,hl8,UH];by_cases k0:l[j].kind=0
    ·simp[xT,hl8,k0,eE];simp[FG,g4];simp[xU,g17];rw[aH (by omega) (by omega),aH (by omega) (by omega)];exact⟨l.length-(j+1),by omega,j+1,rfl,by omega,b+1,by omega,g0,g15,g16,by omega,by omega,by simpa[eE,k0]using e2⟩
    ·simp[xT,hl8,bq k0,eE];simp[xU,g17];rw[aH (by omega) (by omega)];exact⟨l.length-(j+1),by omega,j+1,rfl,by omega,b,by omega,g0,g15,g16,by omega,g4,by simpa[eE]using e2⟩
   ·have aJw:¬(64:Int)<l.length:=by omega
    have aJx:¬(16:Int)<b:=by omega
    simp[xS,g0,g4,aJw,aJx];simp[wi];simp[wj];simp[wk,g0];have n1:=e1.n;refine W.eB (n:=l.length) (ScI l bW h nx) ?_ ?_
    ·refine⟨0,sc0,by simp,by omega,⟨by simp,by simp,by simp,by simp,⟨.nils,by simp,.inl ⟨rfl,rfl⟩⟩,by simp[FZ,sc0],by omega,by omega⟩,kp0,rfl,e1.trans (E0 h1 bW _)⟩
    ·rintro m tm2 h2 aN ⟨i,s,rfl,hi,A,kp,hs,e2⟩;by_cases zz:i<l.length
     ·refine W.of (agk S hl zz A kp hs e2 ?_ ?_)
      ·intro tm' h' nx' q2 q3 hv e';simp[q2,q3];exact⟨⟨.nils,rfl,.inl ⟨rfl,by rw[if_neg hv]⟩⟩,e'⟩
      ·intro tm' h' nx' m hm hI;simp;exact⟨m,hm,hI⟩
     ·have IQ:i=l.length:=by omega
      subst IQ;obtain⟨a8,a35,a36,a37,⟨d7,a7,axh⟩,ao,ab0,ab1⟩:=A;refine W.of ?_;simp[mr];simp[pG,a36,a37];simp[wo,a7];rw[List.drop_length]at hs;exact IT hs axh e2
end Ln
namespace Ln
open Go.Sx Go
variable{C:bU}{X:Kn}(S:Std C X)
include S
def ClI(l:List U)(b:Key)(h:T ag)(nx:Key)(m:Nat)(tm':T AV)(h':T ag)(nx':Key):Prop:=∃(j:Nat) (ls:List U),m=l.length-j∧j≤l.length∧ls.length=l.length∧ls.take j=l.take j∧
 ae (K 0) tm'=some (.sl (ai eU l) l.length 4 .any)∧ae (K 1) tm'=some (.fn gF [] [])∧ae (K 5) tm'=some (.slice b 0 l.length 4)∧ae (K 14) tm'=some (I l.length)∧ae (K 15) tm'=some (I j)∧ae b h'=Qw (ai eU ls)∧(∀k:Key,k.toNat<b.toNat→ae k h'=ae k h)∧nx'=nx
theorem ai7(l:List U)(hl:l.length≤1000):Pur C jd [bB l,.fn gF [] []] (·=.ret (bB l)):=by
 intro h nx;have s1:=kTSu nx;have rc:=S.r gF;refine S.Aj.call ?_;simp[vC];simp[yo];have fu:bB l=.nils∧l=[]∨bB l=.sl (ai eU l) l.length 4 .any∧l≠[]:=by
  cases l with
  |nil=>exact .inl ⟨rfl,rfl⟩
  |cons a t=>exact .inr ⟨rfl,by simp⟩
 rcases fu with⟨e,rfl⟩|⟨e,bT⟩
 ·simp[qw,e];simp[yp];exact Ext.refl _ _
 ·have h0:l.length≠0:=by simpa using bT
  have Nb:((l.length:Int)==0)=false:=bq (by omega);have hm:l.length≤1048576:=by omega
  simp[qw,e,Nb,h0];have hz:(List.replicate l.length [I 0,I 0,.str 0 0,.nils]).flatten=ai eU (List.replicate l.length ⟨0,0⟩):=by unfold ai;rw[List.flatMap_def,List.map_replicate];rfl
  simp[yq,hm,hz];simp[yr];refine W.eB (n:=l.length) (ClI l nx h nx.succ) ?_ ?_
  ·exact⟨0,List.replicate l.length ⟨0,0⟩,by simp,by omega,by simp,by simp,by simp,by simp,by simp,by simp,by simp,by simp,fun k hk=>aw hk,rfl⟩
  ·rintro m dF h1 bW ⟨j,ls,rfl,hj,hls,QV,g0,g1,g5,g14,g15,gb,ai2,rfl⟩;refine W.of ?_;simp[yu];simp[yv,g14,g15];refine⟨fun cH=>?_,fun Gx=>?_⟩
   ·have bY:j<l.length:=by omega
    have hr:=CV.rows l;have ND:=CV.rows ls;have h4:4≤l.length*4-j*4:=by omega
    have ec:=CV.at bY;have he:List.take 4 (eU l[j])=eU l[j]:=rfl;have hl4:(eU l[j]).length=4:=rfl;have hz:∀H,aW 9999 (.agg (eU l[j])) H=(.agg (eU l[j]),H):=fun H=>by simp[eU]
    have hjs:j<ls.length:=by omega
    have hp:=CV.put hjs l[j];have h44:j*4+4≤l.length*4:=by omega
    simp[yw,g15];simp[yx,g0,g1,g5,bY,hr,h4,ec,he,hl4,rc,hz];refine aM.known (v:=.agg (eU l[j])) (S.s_Clone ⟨l[j].k,l[j].n,[]⟩ (by simp) _ _) ?_;simp[g0,g1,g5,bY,gb,ND,hls,h44,hl4,hp];simp[yz,g15];rw[aH (by omega) (by omega)];refine⟨l.length-(j+1),by omega,j+1,ls.set j l[j],rfl,by omega,by simpa using hls,?_,by simp[g0],by simp[g1],by simp[g5],by simp[g14],by simp,by simp,fun k hk=>?_,rfl⟩
    ·have q:(ls.set j l[j]).take j=ls.take j:=by rw[List.take_set];exact List.set_eq_of_length_le (by simp;omega)
     rw[zqu bY,zqu (by simpa using hjs),q,QV,List.getElem_set_self]
    ·rw[aw hk];exact ai2 k hk
   ·have bY:j=l.length:=by omega
    subst bY;rw[List.take_length,PV (by omega)]at QV;subst QV;simp[yA,g5];have hf:=wF (n:=9998) gb (CV.rows ls) (CV.IL ls);simp only[hf];refine⟨trivial,?_⟩;exact⟨by omega,fun k hk=>by rw[aw hk];exact ai2 k hk⟩
theorem aih(l:List U)(hl:l.length≤1000):Pur C nz [bB l] (·=.ret (bB l)):=by intro h nx;have rc:=S.r jd;have hf:∀n H,aW n (bB l) H=(bB l,H):=kz l;refine S.HE.call ?_;simp[Ek];simp[Fb];simp[Fc,rc,hf];refine(ai7 S l hl _ _).mono ?_;rintro o h1 bW ⟨rfl,e1⟩;simp[hf];exact e1
end Ln
namespace Ln
open Go.Sx Go
variable{C:bU}{X:Kn}(S:Std C X)
omit S in
theorem Ot:∀(l:List Ev) (o:Op) (i:Nat),(follow o i l).args=o.args
 | [],o,i=>rfl
 |x ::l,o,i=>by show(follow (jv i x o) (i+1) l).args=_;rw[Ot l];unfold jv;(repeat' split)<;>rfl
theorem V9{n:Nat}:∀{l:List Ev} {i:Nat},(∀x∈l,x.args.length≤n)→∀o∈aI i l,o.args.length≤n
 | [],i,_,o,ho=>by simp[aI]at ho
 |x ::l,i,h,o,ho=>by
  simp only[aI,List.mem_append]at ho;rcases ho with ho|ho
  ·split at ho
   ·simp at ho;subst ho;rw[Ot];exact h x (by simp)
   ·simp at ho
  ·exact V9 (fun x hx=>h x (by simp[hx])) o ho
def OpI(os:List Op)(code:Int)(b n0:Key)(h:T ag)(nx:Key)(m:Nat)(tm':T AV)(h':T ag)(nx':Key):Prop:=∃j:Nat,m=os.length-j∧j≤os.length∧ae (K 4) tm'=some (.slice b 0 os.length 10)∧ae (K 5) tm'=some (I code)∧ae (K 13) tm'=some (I os.length)∧ae (K 14) tm'=some (I j)∧
 ae b h'=some (.cells (ai eO os) .part)∧b.toNat<nx'.toNat∧Ext h nx h' nx'
include S
theorem agw{ev:AV}{l:List Ev}(hv:gR 8 eE ev l)(hl:Few l):Pur C j0 [ev] (azf l):=by
 intro h nx;have s1:=kTSu nx;have rs:=S.r ny;have rc:=S.r nz;have rv:=S.r gF;have hz:aW 9999 ev h=(ev,h):=hv.wH _ _;refine S.Jg.call ?_;simp[Gu];simp[Gv];simp[Gw,rs,hz];refine(apQ S hv hl _ _).mono ?_;rintro o h1 bW ⟨⟨c,rfl,gro⟩,e1⟩;have fu:∀o∈(if dI [] l=0 then aI 0 l else []),o.args.length≤1000:=by
  intro o ho;split at ho
  ·exact V9 hl.args o ho
  ·simp at ho
 simp;unfold azf;have xp:(if dI [] l=0 then aI 0 l else []).length≤16:=by
  split
  ·have:=sW l 0;have:=hl.len;omega
  ·simp
 generalize (if dI [] l=0 then aI 0 l else [])=os at *;generalize EI (dI [] l)=code at *;rcases gro with⟨rfl,rfl⟩|⟨b,rfl,hb,Nb,Ch⟩
 ·simp[zm];refine W.Q8 (W.of ?_);simp[zn];simp[zo];simp[zp];exact⟨.inl ⟨rfl,rfl⟩,e1⟩
 ·simp[zm];refine W.eB (n:=os.length) (OpI os code b nx h1 bW) ?_ ?_
  ·exact⟨0,by simp,by omega,by simp,by simp,by simp,by simp,hb,Ch,Ext.refl _ _⟩
  ·rintro m dF h2 aN ⟨j,rfl,hj,g4,g5,g13,g14,gb,aD0,e2⟩;refine W.of ?_;simp[zn];simp[zo,g13,g14];refine⟨fun cH=>?_,fun Gx=>?_⟩
   ·have bY:j<os.length:=by omega
    have hr:=dP.rows os;have ec:=dP.at bY;have hax:=fu _ (DX bY);have ha:((ai eO os))[j*10+5]?=some (bB os[j].args):=by have:=congrArg (fun l=>l[5]?) ec;rw[List.getElem?_take,List.getElem?_drop]at this;simpa[eO]using this
    have ha2:∀hh,(ai eO os)[j*10+5]'hh=bB os[j].args:=fun hh=>by have q:=A6 hh;rw[ha]at q;exact(Option.some.inj q).symm
    have PN:List.take 4 (List.drop (j*10+6) (ai eO os))=eU os[j].res:=by have:=congrArg (fun l=>List.take 4 (List.drop 6 l)) ec;simp only[List.drop_take,List.drop_drop,List.take_take]at this;simpa[eO,eU]using this
    have hz1:∀n H,aW n (bB os[j].args) H=(bB os[j].args,H):=kz _;have hz2:∀H,aW 9999 (.agg (eU os[j].res)) H=(.agg (eU os[j].res),H):=fun H=>by simp[eU]
    have p1:=dP.Nc (l:=os) (j:=j) (off:=5) (vs:=[bB os[j].args]) (y:=os[j]) bY (by simp) rfl;have p2:=dP.Nc (l:=os) (j:=j) (off:=6) (vs:=eU os[j].res) (y:=os[j]) bY (by simp[eU]) rfl;have Q9:os.set j os[j]=os:=List.set_getElem_self bY;rw[Q9]at p1 p2;simp[eU]at p1 p2;have A7:j*10+5<os.length*10:=by omega
    have UA:j*10+5+1≤os.length*10:=by omega
    have h3':j*10+6+4≤os.length*10:=by omega
    have h4':4≤os.length*10-(j*10+6):=by omega
    have ac:=eu os[j].args;simp[Gy,g14];simp[Gz,g4,bY,gb,hr,ha2,A7,rc,hz1];refine(aih S _ hax _ _).mono ?_;rintro o h3 bP ⟨rfl,e3⟩;have gb3:ae b h3=some (.cells (ai eO os) .part):=by rw[e3.g b aD0];exact gb
    simp[g4,bY,gb3,hr,UA,ac.1,ac.2,p1];simp[GA,g4,bY,gb3,hr,PN,h4',rv,hz2];refine aM.known (v:=.agg (eU os[j].res)) (S.s_Clone ⟨os[j].res.k,os[j].res.n,[]⟩ (by simp) _ _) ?_;simp[g4,bY,gb3,hr,h3',eU,p2];simp[GC,g14];rw[aH (by omega) (by omega)];have n3:=e3.n;have n2:=e2.n;refine⟨os.length-(j+1),by omega,j+1,rfl,by omega,by simp[g4],by simp[g5],by simp[g13],by simp,by simp,by omega,?_⟩;refine⟨by omega,fun k hk=>?_⟩;by_cases hkb:k=b
    ·subst hkb;simp[hb]
    ·rw[aG _ _ _ _ hkb,e3.g k (by omega)];exact e2.g k hk
   ·simp[zp,g4,g5];have hf:=CM (n:=9998) gb (dP.rows os) (dP.IL os);simp only[hf];refine⟨.inr rfl,?_⟩;have Rc:=e1.trans e2;exact⟨Rc.n,fun k hk=>by rw[aw (by omega)];exact Rc.g k hk⟩
end Ln
namespace Ln
open Go.Sx Go
def eI(n:Int):List AV:=[I n]
theorem CT:Flat 1 eI where
 len _:=rfl
 wH x y hy:=by simp[eI]at hy;subst hy;exact dG _ _
 cell x y hy:=by simp[eI]at hy;subst hy;rfl
 lits x:=by simp[eI,AV.gS,AV.lits,I]
theorem eF(l:List Int):(ai eI l).length=l.length:=by rw[CT.rows];omega
theorem acN:∀l:List Int,ai eI l=l.map I
 | []=>rfl
 |a ::t=>by rw[dm,acN t];rfl
theorem Mb{l:List Int}{i:Nat}(hi:i<l.length):(ai eI l)[i]?=some (I l[i]):=by rw[acN];simp[hi]
@[simp] theorem aza{l:List Int}{i:Nat}(hh:i<(ai eI l).length):(ai eI l)[i]=I (l[i]'(by rw[eF]at hh;exact hh)):=by
 have h1:i<l.length:=by rw[eF]at hh;exact hh
 have:=A6 hh;rw[Mb h1]at this;exact(Option.some.inj this).symm
theorem aj4(l:List Int)(i:Nat):(ai eI l).take i=ai eI (l.take i):=by have:=CT.take l i;simpa using this
theorem zd{l:List Int}{i:Nat}(hi:i<l.length):List.take 1 (List.drop i (ai eI l))=[I l[i]]:=by have:=CT.at hi;rw[Nat.mul_one]at this;exact this
def Ord(c:AV)(l:List Int)(n:Nat)(h:T ag)(nx:Key):Prop:=n≤l.length∧((c=.nils∧n=0)∨(∃f,c=.sl (ai eI (l.take n)) n 1 f)∨∃(b:Key) (k:CK),c=.slice b 0 n 1∧ae b h=some (.cells (ai eI l) k)∧b.toNat<nx.toNat)
theorem Ord.ext{c:AV}{l:List Int}{n:Nat}{h h':T ag}{nx nx':Key}(o:Ord c l n h nx)(e:Ext h nx h' nx'):Ord c l n h' nx':=by
 obtain⟨h0,o⟩:=o;refine⟨h0,?_⟩;rcases o with o|o|⟨b,k,h1,h2,h3⟩
 ·exact .inl o
 ·exact .inr (.inl o)
 ·exact .inr (.inr ⟨b,k,h1,by rw[e.g b h3];exact h2,by have:=e.n;omega⟩)
variable{C:bU}{X:Kn}(S:Std C X)
include S
theorem vo(a b:Op):Pur C b9 [.agg (eO a),.agg (eO b)] (·=.ret (.bool (before a b))):=by
 intro h nx;have s1:=kTSu nx;have s2:=kTSu nx.succ;have ac1:=eu a.args;have ac2:=eu b.args;refine S.Dp.call ?_;simp[Aq];simp[Ce,eO,ac1.1,ac2.1];have e1:=(E0 h nx (.cells (eO a) .fix)).trans (E0 _ nx.succ (.cells (eO b) .fix));simp[eO]at e1;have BB:before a b=(decide (0≤a.e)&&decide (a.e<b.b)||decide (0≤a.lost)&&decide (a.lost<b.b)):=by unfold before;rw[Bool.eq_iff_iff];simp
 by_cases h1:a.e<0
 ·by_cases h2:a.lost<0
  ·simp[er,h1,h2];exact⟨by rw[BB];simp;omega,e1⟩
  ·by_cases h3:a.lost<b.b
   ·simp[er,h1,h2,h3];exact⟨by rw[BB];simp;omega,e1⟩
   ·simp[er,h1,h2,h3];exact⟨by rw[BB];simp;omega,e1⟩
 ·by_cases h4:a.e<b.b
  ·simp[er,h1,h4];exact⟨by rw[BB];simp;omega,e1⟩
  ·by_cases h2:a.lost<0
   ·simp[er,h1,h4,h2];exact⟨by rw[BB];simp;omega,e1⟩
   ·by_cases h3:a.lost<b.b
    ·simp[er,h1,h4,h2,h3];exact⟨by rw[BB];simp;omega,e1⟩
    ·simp[er,h1,h4,h2,h3];exact⟨by rw[BB];simp;omega,e1⟩
end Ln
namespace Ln
open Go.Sx Go
theorem XI{os:List Op}{x:Int}{i:Nat}(hx:x=i)(hi:i<os.length):at_ os x=os[i]:=by subst hx;unfold at_;rw[List.getD_eq_getElem?_getD,Int.toNat_natCast,A6 hi];rfl
theorem af9{l:List Int}{n j:Nat}(hn:n≤l.length)(hj:j<n)(hl:j<l.length):List.take 1 (List.drop j (ai eI (l.take n)))=[I l[j]]:=by
 have h1:j<(l.take n).length:=by simp;omega
 have:=zd h1;rw[this];simp
theorem ar4{os:List Op}{ord:List Int}{j:Nat}(hj:j<ord.length)(hp:(ord.take j).Pairwise fun x y=>before (at_ os y) (at_ os x)=false)(hn:∀k (hk:k<ord.length),k<j→before (at_ os ord[j]) (at_ os ord[k])=false):(ord.take (j+1)).Pairwise fun x y=>before (at_ os y) (at_ os x)=false:=by rw[zqu hj,List.pairwise_append];refine⟨hp,by simp,?_⟩;intro a ha b hb;simp at hb;subst hb;obtain⟨k,hk,rfl⟩:=List.getElem_of_mem ha;simp at hk;simp;exact hn k (by omega) (by omega)
variable{C:bU}{X:Kn}(S:Std C X)
include S
def PwI(os:List Op)(ord:List Int)(c0 c1:AV)(h:T ag)(nx:Key)(m:Nat)(tm':T AV)(h':T ag)(nx':Key):Prop:=∃j:Nat,m=ord.length-j∧j≤ord.length∧ae (K 0) tm'=some c0∧ae (K 1) tm'=some c1∧ae (K 10) tm'=some (.bool true)∧ae (K 60) tm'=some c1∧ae (K 61) tm'=some (I ord.length)∧ae (K 62) tm'=some (I j)∧
 Ord c1 ord ord.length h' nx'∧Ext h nx h' nx'∧(ord.take j).Pairwise fun x y=>before (at_ os y) (at_ os x)=false
def PiI(os:List Op)(ord:List Int)(c0 c1:AV)(h:T ag)(nx:Key)(j:Nat)(hj:j<ord.length)(c69:AV)(m:Nat)(tm':T AV)(h':T ag)(nx':Key):Prop:=∃k:Nat,m=j-k∧k≤j∧ae (K 0) tm'=some c0∧ae (K 1) tm'=some c1∧ae (K 10) tm'=some (.bool true)∧ae (K 60) tm'=some c1∧ae (K 61) tm'=some (I ord.length)∧ae (K 62) tm'=some (I j)∧
 ae (K 12) tm'=some (I ord[j])∧ae (K 69) tm'=some c69∧ae (K 70) tm'=some (I j)∧ae (K 71) tm'=some (I k)∧Ord c1 ord ord.length h' nx'∧Ord c69 ord j h' nx'∧Ext h nx h' nx'∧∀q (hq:q<ord.length),q<k→before (at_ os ord[j]) (at_ os ord[q])=false
theorem ar5{os:List Op}{ord:List Int}(ho:os.length≤16)(hlen:ord.length≤1000){c0 c1 c69:AV}(uC:gR 10 eO c0 os)(rng:∀x∈ord,0≤x∧x<os.length){Q:cJ}{tm:T AV}{h h1:T ag}{nx bW:Key}{j:Nat}(hj:j<ord.length){m:Nat}(A:PiI os ord c0 c1 h nx j hj c69 m tm h1 bW)
  (uz:∀tm' h' nx' k (hk:k<ord.length),k<j→ae (K 10) tm'=some (.bool false)→before (at_ os ord[j]) (at_ os ord[k])=true→Ext h nx h' nx'→Q (.exit 4) tm' h' nx')
  (gC:∀tm' h' nx',PiI os ord c0 c1 h nx j hj c69 0 tm' h' nx'→Q .norm tm' h' nx') :
  W C (.loop mZ) (az 6 Q) tm h1 bW:=by
 have rb:=S.r b9;refine W.eB (PiI os ord c0 c1 h nx j hj c69) A ?_;rintro m dF h2 aN ⟨k,rfl,hk,g0,g1,g10,g60,g61,g62,g12,g69,g70,g71,o1,o69,e2,hq⟩;refine W.of ?_;simp[mZ];simp[Ax,g70,g71];refine⟨fun cH=>?_,fun Gx=>?_⟩
 ·have hkj:k<j:=by omega
  have hko:k<ord.length:=by omega
  have rj:=rng _ (DX hj);have rk:=rng _ (DX hko);obtain⟨x,hx⟩:=Int.eq_ofNat_of_zero_le rj.1;obtain⟨y,hy⟩:=Int.eq_ofNat_of_zero_le rk.1;have M7:x<os.length:=by omega
  have hyl:y<os.length:=by omega
  have ax:=XI hx M7;have ay:=XI hy hyl;have ecx:=dP.at M7;have ecy:=dP.at hyl;have hr:=dP.rows os;have tx:10≤os.length*10-x*10:=by omega
  have ty:10≤os.length*10-y*10:=by omega
  have hz:∀(z:Op) H,aW 9999 (.agg (eO z)) H=(.agg (eO z),H):=fun z H=>by have:=dw (n:=9998) (l:=eO z) (h:=H) (dP.wH _);simp only[WH];rw[this]
  have aIG:∀z:Op,(eO z).length=10:=fun z=>rfl;have aIH:∀z:Op,List.take 10 (eO z)=eO z:=fun z=>rfl;have Eh:c0=.sl (ai eO os) os.length 10 .any:=by
   rcases uC with⟨_,rfl⟩|e
   ·simp at M7
   ·exact e
  have fin:∀tm2:T AV,(∀k:Key,k=K 0∨k=K 1∨k=K 10∨k=K 60∨k=K 61∨k=K 62∨k=K 12∨k=K 69∨k=K 70∨k=K 71→ae k tm2=ae k dF)→ae (K 14) tm2=some (I ord[k])→
    fJ C (.seq (.staged sc ⟨[K 75,K 76,K 77,K 78,K 79,K 80,K 81,K 82,K 83],[]⟩) (.cond (.t (K 83)) (.seq (.ops se) (.exit 4)) .skip)) (az 7 (aO (fJ C (.ops sf) (aO (fun tm h' nx'=>∃m,m<j-k∧PiI os ord c0 c1 h nx j hj c69 m tm h' nx') (az 6 Q))) (aO (fun tm h' nx'=>∃m,m<j-k∧PiI os ord c0 c1 h nx j hj c69 m tm h' nx') (az 6 Q)))) tm2 h2 aN:=by
   intro tm2 q q14;have q0:=(q (K 0) (by simp)).trans g0;have q1:=(q (K 1) (by simp)).trans g1;have Gm:=(q (K 10) (by simp)).trans g10;have q60:=(q (K 60) (by simp)).trans g60;have q61:=(q (K 61) (by simp)).trans g61;have q62:=(q (K 62) (by simp)).trans g62;have JA:=(q (K 12) (by simp)).trans g12;have q69:=(q (K 69) (by simp)).trans g69;have q70:=(q (K 70) (by simp)).trans g70;have q71:=(q (K 71) (by simp)).trans g71;rw[Eh]at q0;rw[hx]at JA;rw[hy]at q14;simp;simp[sc,q0,JA,q14,M7,hyl,hr,tx,ty,ecx,ecy,rb,hz,aIG,aIH];refine(vo S os[x] os[y] _ _).mono ?_;rintro o h3 bP ⟨rfl,e3⟩;have Ns:=e2.trans e3;cases BB:before os[x] os[y]with
   |true=>simp;simp[se];refine uz _ _ _ k hko hkj ?_ (by rw[ax,ay];exact BB) Ns;simp
   |false=>
    simp;simp[sf,q71];rw[aH (by omega) (by omega)];refine⟨j-(k+1),by omega,k+1,rfl,by omega,by simp[q0,Eh],by simp[q1],by simp[Gm],by simp[q60],by simp[q61],by simp[q62],by simp[JA,hx],by simp[q69],by simp[q70],by simp,o1.ext e3,o69.ext e3,Ns,?_⟩;intro q hql hqk;by_cases hqe:q=k
    ·subst hqe;rw[ax,ay];exact BB
    ·exact hq q hql (by omega)
  simp only[bR,cr,cp,gM]at fin;obtain⟨hnj,oc⟩:=o69;rcases oc with⟨_,e⟩|⟨f,e⟩|⟨b,kd,e,hb,_⟩
  ·omega
  ·have EL:(ai eI (ord.take j)).length=j:=by rw[eF];simp;omega
   have rd:=af9 hnj hkj hko;have h1:1≤j-k:=by omega
   subst e;simp[sg,g69,g71,hkj,EL,rd,h1];refine fin _ ?_ ?_
   ·rintro q (rfl|rfl|rfl|rfl|rfl|rfl|rfl|rfl|rfl|rfl)<;>simp[g69]
   ·simp
  ·have rd:=Mb hko;have EL:(ai eI ord).length=ord.length:=eF _;subst e;have aQU:=eF ord;simp[sg,g69,g71,hkj,hb,rd,EL];refine fin _ ?_ ?_
   ·rintro q (rfl|rfl|rfl|rfl|rfl|rfl|rfl|rfl|rfl|rfl)<;>simp[g69]
   ·simp
 ·have hkj:k=j:=by omega
  subst hkj;exact gC _ _ _ ⟨k,by omega,by omega,by simp[g0],by simp[g1],by simp[g10],by simp[g60],by simp[g61],by simp[g62],by simp[g12],by simp[g69],by simp[g70],by simp[g71],o1,o69,e2,hq⟩
end Ln
namespace Ln
open Go.Sx Go
variable{C:bU}{X:Kn}(S:Std C X)
include S
theorem aeg{os:List Op}{ord:List Int}(ho:os.length≤16)(hlen:ord.length≤1000){c0 c1:AV}(uC:gR 10 eO c0 os)(rng:∀x∈ord,0≤x∧x<os.length)(Gg:ord.Nodup)(ajg:∀(i:Nat) (o:Op),os[i]?=some o→o.e≠-1→(i:Int)∈ord)
  {R:Out→T ag→Key→Prop} {Q:cJ} {tm:T AV} {h:T ag} {nx:Key} (g0:ae (K 0) tm=some c0) (g1:ae (K 1) tm=some c1) (g10:ae (K 10) tm=some (.bool true)) (o1:Ord c1 ord ord.length h nx)
  (hR:∀h' nx',Ext h nx h' nx'→R (.ret (.bool (kI os ord))) h' nx') (hQ:∀tm' h' nx',cY [.tmp (K 4)] R .ret tm' h' nx'→Q .ret tm' h' nx') :
  fJ C (.seq (.seq (.ops dq) (.block 4 (.loop dX))) (.seq (.ops cu) .ret)) Q tm h nx:=by
 have fin:∀(tm2:T AV) (h2:T ag) (aN:Key) (v:Bool),ae (K 10) tm2=some (.bool v)→kI os ord=v→Ext h nx h2 aN→ns C (aO (fJ C .ret Q) Q) cu tm2 h2 aN:=by intro tm2 h2 aN v Gm hl e;simp[cu,Gm];refine hQ _ _ _ ?_;have:=hR h2 aN e;rw[hl]at this;simpa using this
 have IT:(ord.Pairwise fun x y=>before (at_ os y) (at_ os x)=false)→kI os ord=true:=fun hp=>OD ⟨rng,ajg,(List.Pairwise.and Gg hp).imp fun q=>⟨q.1,q.2⟩⟩;have bad:∀(j k:Nat) (hj:j<ord.length) (hk:k<ord.length),k<j→before (at_ os ord[j]) (at_ os ord[k])=true→kI os ord=false:=by intro j k hj hk hkj hb;refine pC fun L=>?_;have:=List.pairwise_iff_getElem.1 L.pair k j hk hj hkj;rw[hb]at this;exact absurd this.2 (by simp)
 simp;have body:∀dF,ae (K 0) dF=some c0→ae (K 1) dF=some c1→ae (K 10) dF=some (.bool true)→ae (K 60) dF=some c1→ae (K 61) dF=some (I ord.length)→ae (K 62) dF=some (I 0)→
   W C (.loop dX) (az 4 (aO (fJ C (.seq (.ops cu) .ret) Q) Q)) dF h nx:=by
  intro dF g0 g1 g10 g60 g61 g62;refine W.eB (n:=ord.length) (PwI os ord c0 c1 h nx) ?_ ?_
  ·exact⟨0,by simp,by omega,g0,g1,g10,g60,g61,by simpa using g62,o1,Ext.refl _ _,by simp⟩
  ·clear g0 g1 g10 g60 g61 g62;rintro m dF h1 bW ⟨j,rfl,hj,g0,g1,g10,g60,g61,g62,o1,e1,hp⟩;refine W.of ?_;simp[dX];simp[AI,g61,g62];refine⟨fun cH=>?_,fun Gx=>?_⟩
   ·have bY:j<ord.length:=by omega
    have WZ:∀(tm2:T AV) (c69:AV),(∀k:Key,k=K 0∨k=K 1∨k=K 10∨k=K 60∨k=K 61∨k=K 62→ae k tm2=ae k dF)→ae (K 12) tm2=some (I ord[j])→ae (K 69) tm2=some c69→ae (K 70) tm2=some (I j)→ae (K 71) tm2=some (I 0)→Ord c69 ord j h1 bW→
      W C (.loop mZ) (az 6 (az 5 (aO (fJ C (.ops sn) (aO (fun tm h' nx'=>∃m,m<ord.length-j∧PwI os ord c0 c1 h nx m tm h' nx') (az 4 (aO (fJ C (.seq (.ops cu) .ret) Q) Q)))) (aO (fun tm h' nx'=>∃m,m<ord.length-j∧PwI os ord c0 c1 h nx m tm h' nx') (az 4 (aO (fJ C (.seq (.ops cu) .ret) Q) Q)))))) tm2 h1 bW:=by
     intro tm2 c69 q JA q69 q70 q71 o69;refine ar5 S ho hlen uC rng (h:=h) (nx:=nx) bY (c1:=c1) (c69:=c69) (m:=j) ?_ ?_ ?_
     ·exact⟨0,by simp,by omega,(q (K 0) (by simp)).trans g0,(q (K 1) (by simp)).trans g1,(q (K 10) (by simp)).trans g10,(q (K 60) (by simp)).trans g60,(q (K 61) (by simp)).trans g61,(q (K 62) (by simp)).trans g62,JA,q69,q70,by simpa using q71,o1,o69,e1,fun q _ hq=>absurd hq (by omega)⟩
     ·intro tm' h' nx' k hk hkj Gm hb e';simp;exact fin _ _ _ false Gm (bad j k bY hk hkj hb) e'
     ·rintro tm' h' nx' ⟨k,hk0,hk,q0,q1,Gm,q60,q61,q62,_,_,_,_,o1',_,e',hq⟩;have:k=j:=by omega
      subst this;simp;simp[sn,q62];rw[aH (by omega) (by omega)];exact⟨ord.length-(k+1),by omega,k+1,rfl,by omega,by simp[q0],by simp[q1],by simp[Gm],by simp[q60],by simp[q61],by simp,o1',e',ar4 bY hp (fun k hk hkj=>hq k hk hkj)⟩
    obtain⟨hnj,oc⟩:=o1;rcases oc with⟨_,e⟩|⟨f,e⟩|⟨b,kd,e,hb,Ch⟩
    ·omega
    ·have EL:(ai eI (ord.take ord.length)).length=ord.length:=by rw[eF];simp
     have rd:=af9 (dQ _) bY bY;have A7:1≤ord.length-j:=by omega
     have ass:j≤ord.length:=by omega
     have tk:List.take j (ai eI (ord.take ord.length))=ai eI (ord.take j):=by rw[aj4,List.take_take,Nat.min_eq_left ass]
     simp at EL rd tk;have bT:j≠ord.length:=by omega
     have Rk:=g1;have aoT:=g60;rw[e]at Rk aoT;simp[sr,aoT,g62,bY,EL,rd,A7];simp[su,Rk,EL,ass,tk,bT];refine WZ _ (.sl (ai eI (ord.take j)) j 1 .any) ?_ ?_ ?_ ?_ ?_ ⟨by omega,.inr (.inl ⟨.any,rfl⟩)⟩
     ·rintro q (rfl|rfl|rfl|rfl|rfl|rfl)<;>simp[g1,g60]
     all_goals simp
    ·have rd:=Mb bY;have EL:(ai eI ord).length=ord.length:=eF _;have ass:j≤ord.length:=by omega
     have Rk:=g1;have aoT:=g60;rw[e]at Rk aoT;simp[sr,aoT,g62,bY,hb,rd,EL];simp[su,Rk,EL,ass];refine WZ _ (.slice b 0 j 1) ?_ ?_ ?_ ?_ ?_ ⟨by omega,.inr (.inr ⟨b,kd,rfl,hb,Ch⟩)⟩
     ·rintro q (rfl|rfl|rfl|rfl|rfl|rfl)<;>simp[g1,g60]
     all_goals simp
   ·have yi:j=ord.length:=by omega
    subst yi;rw[List.take_length]at hp;refine fin _ _ _ true ?_ (IT hp) e1;simp[g10]
 obtain⟨hnj,oc⟩:=id o1;rcases oc with⟨e,e'⟩|⟨f,e⟩|⟨b,kd,e,hb,Ch⟩
 ·have Zx:(ord.length:Int)=0:=by omega
  rw[Zx]at body;simp[dq,g1,e];refine body _ ?_ ?_ ?_ ?_ ?_ ?_<;>simp[g0,g1,g10,e]
 ·simp[dq,g1,e];refine body _ ?_ ?_ ?_ ?_ ?_ ?_<;>simp[g0,g1,g10,e]
 ·simp[dq,g1,e];refine body _ ?_ ?_ ?_ ?_ ?_ ?_<;>simp[g0,g1,g10,e]
end Ln
namespace Ln
open Go.Sx Go
def Ts(n:Nat)(l:List Int):List AV:=(List.range n).map fun(k:Nat)=>AV.bool (decide ((k:Int)∈l))
theorem Q2(n:Nat)(l:List Int):(Ts n l).length=n:=by simp[Ts]
theorem arl(n:Nat):(List.replicate n [AV.bool false]).flatten=Ts n []:=by
 unfold Ts
 induction n with
 |zero=>rfl
 |succ n ih=>rw[List.replicate_succ',List.flatten_append,ih,List.range_succ];simp
theorem Dl{n:Nat}{l:List Int}{i:Nat}(hh:i<(Ts n l).length):(Ts n l)[i]=.bool (decide ((i:Int)∈l)):=by simp[Ts]
theorem arn{n:Nat}{l:List Int}{x:Nat}(h:x<n):List.take x (Ts n l)++AV.bool true ::List.drop (x+1) (Ts n l)=Ts n (l ++ [(x:Int)]):=by
 have e:List.take x (Ts n l)++AV.bool true ::List.drop (x+1) (Ts n l)=(Ts n l).set x (.bool true):=by rw[List.set_eq_take_append_cons_drop,if_pos (by rw[Q2];exact h)]
 rw[e];apply List.ext_getElem
 ·simp[Q2]
 ·intro i h1 h2;rw[List.getElem_set,Dl,Dl];by_cases hi:x=i
  ·subst hi;simp
  ·simp[hi];intro h;exfalso;omega
variable{C:bU}{X:Kn}(S:Std C X)
include S
def EnI(os:List Op)(ord:List Int)(c0 c1:AV)(bt:Key)(h:T ag)(nx:Key)(m:Nat)(tm':T AV)(h':T ag)(nx':Key):Prop:=∃j:Nat,m=os.length-j∧j≤os.length∧ae (K 0) tm'=some c0∧ae (K 1) tm'=some c1∧ae (K 5) tm'=some (.slice bt 0 os.length 1)∧ae (K 42) tm'=some c0∧ae (K 43) tm'=some (I os.length)∧ae (K 44) tm'=some (I j)∧
 ae bt h'=Qw (Ts os.length ord)∧bt.toNat<nx'.toNat∧Ord c1 ord ord.length h' nx'∧Ext h nx h' nx'∧∀(i:Nat) (o:Op),i<j→os[i]?=some o→o.e≠-1→(i:Int)∈ord
theorem am9{os:List Op}{ord:List Int}(ho:os.length≤16)(hlen:ord.length≤1000){c0 c1:AV}(uC:gR 10 eO c0 os)(rng:∀x∈ord,0≤x∧x<os.length)(Gg:ord.Nodup)
  {R:Out→T ag→Key→Prop} {Q:cJ} {tm:T AV} {h:T ag} {nx bt:Key} (g0:ae (K 0) tm=some c0) (g1:ae (K 1) tm=some c1) (g5:ae (K 5) tm=some (.slice bt 0 os.length 1)) (gb:ae bt h=Qw (Ts os.length ord)) (hbt:bt.toNat<nx.toNat) (o1:Ord c1 ord ord.length h nx)
  (hR:∀h' nx',Ext h nx h' nx'→R (.ret (.bool (kI os ord))) h' nx') (hQ:∀tm' h' nx',cY [.tmp (K 4)] R .ret tm' h' nx'→Q .ret tm' h' nx') :
  fJ C (.seq (.seq (.ops jQ) (.block 2 (.loop jR))) (.seq (.ops gz) (.seq .skip (.seq (.seq (.ops dq) (.block 4 (.loop dX))) (.seq (.ops cu) .ret))))) Q tm h nx:=by
 have fin:∀(tm2:T AV) (h2:T ag) (aN:Key),ae (K 0) tm2=some c0→ae (K 1) tm2=some c1→Ord c1 ord ord.length h2 aN→Ext h nx h2 aN→(∀(i:Nat) (o:Op),os[i]?=some o→o.e≠-1→(i:Int)∈ord)→fJ C (.seq (.ops gz) (.seq .skip (.seq (.seq (.ops dq) (.block 4 (.loop dX))) (.seq (.ops cu) .ret)))) Q tm2 h2 aN:=by intro tm2 h2 aN q0 q1 o2 e2 ajg;have key:=fun K1 a0 a1 a10=>aeg S ho hlen uC rng Gg ajg (R:=R) (Q:=Q) (tm:=K1) (h:=h2) (nx:=aN) a0 a1 a10 o2 (fun h' nx' e=>hR h' nx' (e2.trans e)) hQ;simp only[bR,cp]at key;simp;simp[gz];refine key _ ?_ ?_ ?_<;>simp[q0,q1]
 simp only[bR,cp]at fin;simp;rcases uC with⟨e,rfl⟩|e
 ·have g0':=g0;rw[e]at g0';simp[jQ,g0'];refine W.Q8 (W.of ?_);simp[jR];simp[rZ];refine fin _ _ _ ?_ ?_ o1 (Ext.refl _ _) (fun i o hi=>by simp at hi)
  ·simp[g0]
  ·simp[g1]
 ·have g0':=g0;rw[e]at g0';simp[jQ,g0'];refine W.eB (n:=os.length) (EnI os ord c0 c1 bt h nx) ?_ ?_
  ·exact⟨0,by simp,by omega,by simp[g0],by simp[g1],by simp[g5],by simp[e],by simp,by simp,gb,hbt,o1,Ext.refl _ _,fun i o hi=>absurd hi (by omega)⟩
  ·rintro m dF h1 bW ⟨j,rfl,hj,q0,q1,q5,q42,q43,q44,qb,qbt,o2,e2,hen⟩;refine W.of ?_;simp[jR];simp[rZ,q43,q44];refine⟨fun cH=>?_,fun Gx=>?_⟩
   ·have bY:j<os.length:=by omega
    have ec:=dP.at bY;have hr:=dP.rows os;have tx:10≤os.length*10-j*10:=by omega
    have s1:=kTSu bW;have ac:=eu os[j].args;have eo:eO os[j]=[I os[j].client,I os[j].b,I os[j].e,I os[j].lost,.str os[j].name.1 os[j].name.2,bB os[j].args,I os[j].res.k,I os[j].res.n,.str 0 0,.nils]:=rfl;have aAR:=q42;rw[e]at aAR;rw[eo]at ec;have e3:=E0 h1 bW (.cells (eO os[j]) .fix);rw[eo]at e3;have qb3:ae bt (au bW (Qw [I os[j].client,I os[j].b,I os[j].e,I os[j].lost,.str os[j].name.1 os[j].name.2,bB os[j].args,I os[j].res.k,I os[j].res.n,.str 0 0,.nils]) h1)=Qw (Ts os.length ord):=by rw[e3.g bt qbt];exact qb
    have tl:=Q2 os.length ord;simp[Am,aAR,q44,bY,hr,tx,ec,ac.1,ac.2];have next:∀tm2:T AV,ae (K 0) tm2=some c0→ae (K 1) tm2=some c1→ae (K 5) tm2=some (.slice bt 0 os.length 1)→ae (K 42) tm2=some c0→ae (K 43) tm2=some (I os.length)→ae (K 44) tm2=some (I j)→(os[j].e≠-1→(j:Int)∈ord)→
      ns C (aO (fun tm h' nx'=>∃m,m<os.length-j∧EnI os ord c0 c1 bt h nx m tm h' nx') (az 2 (aO (fJ C (.seq (.ops gz) (.seq .skip (.seq (.seq (.ops dq) (.block 4 (.loop dX))) (.seq (.ops cu) .ret)))) Q) Q))) r9 tm2 (au bW (Qw [I os[j].client,I os[j].b,I os[j].e,I os[j].lost,.str os[j].name.1 os[j].name.2,bB os[j].args,I os[j].res.k,I os[j].res.n,.str 0 0,.nils]) h1) bW.succ:=by
     intro tm2 a0 a1 a5 a42 a43 a44 wQ;simp[r9,a44];rw[aH (by omega) (by omega)];refine⟨os.length-(j+1),by omega,j+1,rfl,by omega,by simp[a0],by simp[a1],by simp[a5],by simp[a42],by simp[a43],by simp,qb3,by omega,o2.ext e3,e2.trans e3,?_⟩;intro i o hi hio hoe;by_cases hij:i=j
     ·subst hij;rw[A6 bY]at hio;cases hio;exact wQ hoe
     ·exact hen i o (by omega) hio hoe
    by_cases hoe:os[j].e=-1
    ·simp[l3,hoe];rw[hoe]at next
     refine next _ ?_ ?_ ?_ ?_ ?_ ?_ (fun h=>absurd rfl h)<;>simp[q0,q1,q5,q42,q43,q44,e]
    ·by_cases Ae:(j:Int)∈ord
     ·simp[l3,bq hoe,q5,bY,qb3,tl,Dl,Ae];refine next _ ?_ ?_ ?_ ?_ ?_ ?_ (fun h=>Ae)<;>simp[q0,q1,q5,q42,q43,q44,e]
     ·simp[l3,bq hoe,q5,bY,qb3,tl,Dl,Ae];simp[An];refine hQ _ _ _ ?_;have:=hR _ _ (e2.trans e3);rw[pC (fun L=>Ae (L.ended j _ (A6 bY) hoe))]at this;simpa using this
   ·have yi:j=os.length:=by omega
    subst yi;refine fin _ _ _ ?_ ?_ o2 e2 (fun i o hio=>hen i o (List.getElem?_eq_some_iff.1 hio).1 hio)
    ·simp[q0]
    ·simp[q1]
end Ln
namespace Ln
open Go.Sx Go
variable{C:bU}{X:Kn}(S:Std C X)
def ThI(os:List Op)(ord:List Int)(c0 c1:AV)(bt:Key)(h:T ag)(nx:Key)(m:Nat)(tm':T AV)(h':T ag)(nx':Key):Prop:=∃j:Nat,m=ord.length-j∧j≤ord.length∧ae (K 0) tm'=some c0∧ae (K 1) tm'=some c1∧ae (K 5) tm'=some (.slice bt 0 os.length 1)∧ae (K 18) tm'=some c1∧ae (K 19) tm'=some (I ord.length)∧ae (K 20) tm'=some (I j)∧
 ae bt h'=Qw (Ts os.length (ord.take j))∧nx'=nx∧(∀k:Key,k≠bt→ae k h'=ae k h)∧(∀x∈ord.take j,0≤x∧x<os.length)∧(ord.take j).Nodup
theorem aoy{os:List Op}{ord:List Int}(ho:os.length≤16)(hlen:ord.length≤1000){c0 c1:AV}(uC:gR 10 eO c0 os){h h1:T ag}{nx bt:Key}{P:cJ}{tm2:T AV}{j:Nat}(bY:j<ord.length)(q0:ae (K 0) tm2=some c0)(q1:ae (K 1) tm2=some c1)(q5:ae (K 5) tm2=some (.slice bt 0 os.length 1))(q18:ae (K 18) tm2=some c1)(q19:ae (K 19) tm2=some (I ord.length))(q20:ae (K 20) tm2=some (I j))(q7:ae (K 7) tm2=some (I ord[j]))
  (gb:ae bt h1=Qw (Ts os.length (ord.take j))) (gk:∀k:Key,k≠bt→ae k h1=ae k h) (aoz:∀x∈ord.take j,0≤x∧x<os.length) (Gg:(ord.take j).Nodup)
  (uz:∀tm' h',ae (K 4) tm'=some (.bool false)→kI os ord=false→(∀k:Key,k≠bt→ae k h'=ae k h)→P .ret tm' h' nx)
  (gC:∀tm' h' m,m<ord.length-j→ThI os ord c0 c1 bt h nx m tm' h' nx→P .norm tm' h' nx) :
  fJ C (.seq (.seq (.ops fS) (.cond (.t (K 37)) (.seq (.ops hU) .ret) .skip)) (.ops tW)) (az 1 (aO (fJ C (.ops tX) P) P)) tm2 h1 nx:=by
 have QV:=zqu bY;have tl:=Q2 os.length (ord.take j);have mem:ord[j]∈ord:=DX bY;simp;by_cases h0:ord[j]<0
 ·simp[fS,q7,h0];simp[hU];refine uz _ _ ?_ (pC fun L=>by have:=(L.rng _ mem).1;omega) gk;simp
 ·obtain⟨x,hx⟩:=Int.eq_ofNat_of_zero_le (show 0≤ord[j] by omega);have hx0:¬(x:Int)<0:=by omega
  rw[hx]at q7;by_cases M7:x<os.length
  ·have asf:(x:Int)<os.length:=by omega
   have Eh:c0=.sl (ai eO os) os.length 10 .any:=by
    rcases uC with⟨_,rfl⟩|e
    ·simp at M7
    ·exact e
   have q0':=q0;rw[Eh]at q0';by_cases Ae:(x:Int)∈ord.take j
   ·simp[fS,q7,hx0,asf,q0',q5,M7,gb,tl,Dl,Ae];simp[hU];refine uz _ _ ?_ (pC fun L=>?_) gk
    ·simp
    ·obtain⟨k,hk,hk2⟩:=List.getElem_of_mem Ae;simp at hk hk2;have:=List.pairwise_iff_getElem.1 L.pair k j (by omega) bY (by omega);exact this.1 (by rw[hk2,hx])
   ·have hp:=arn (n:=os.length) (l:=ord.take j) M7;have aJa:x+1≤os.length:=by omega
    simp[fS,q7,hx0,asf,q0',q5,M7,gb,tl,Dl,Ae];simp[tW,q7,q5,M7,gb,tl,hp,aJa];simp[tX,q20];rw[aH (by omega) (by omega)];refine gC _ _ (ord.length-(j+1)) (by omega) ⟨j+1,rfl,by omega,by simp[q0],by simp[q1],by simp[q5],by simp[q18],by simp[q19],by simp,?_,rfl,fun k hk=>?_,?_,?_⟩
    ·rw[QV,hx];simp
    ·rw[aG _ _ _ _ hk];exact gk k hk
    ·intro y hy;rw[QV,List.mem_append,List.mem_singleton]at hy;rcases hy with hy|rfl
     ·exact aoz y hy
     ·omega
    ·rw[QV,List.nodup_append];refine⟨Gg,by simp,?_⟩;intro a ha b hb;simp at hb;subst hb;rintro rfl;rw[hx]at ha;exact Ae ha
  ·have asf:¬(x:Int)<os.length:=by omega
   have hl:kI os ord=false:=pC fun L=>by have:=(L.rng _ mem).2;omega
   rcases uC with⟨e,rfl⟩|e
   ·rw[e]at q0;simp[fS,q7,hx0,q0];simp[hU];refine uz _ _ ?_ hl gk;simp
   ·rw[e]at q0;simp[fS,q7,hx0,asf,q0];simp[hU];refine uz _ _ ?_ hl gk;simp
theorem aoA{os:List Op}{ord:List Int}(ho:os.length≤16)(hlen:ord.length≤1000){c0 c1:AV}(uC:gR 10 eO c0 os){h:T ag}{nx bt:Key}{Q:cJ}(o1:∀h',(∀k:Key,k≠bt→ae k h'=ae k h)→Ord c1 ord ord.length h' nx){tm:T AV}
  (g0:ae (K 0) tm=some c0) (g1:ae (K 1) tm=some c1) (g5:ae (K 5) tm=some (.slice bt 0 os.length 1)) (gb:ae bt h=Qw (Ts os.length []))
  (uz:∀tm' h',ae (K 4) tm'=some (.bool false)→kI os ord=false→(∀k:Key,k≠bt→ae k h'=ae k h)→Q .ret tm' h' nx)
  (gC:∀tm' h',ae (K 0) tm'=some c0→ae (K 1) tm'=some c1→ae (K 5) tm'=some (.slice bt 0 os.length 1)→ae bt h'=Qw (Ts os.length ord)→(∀k:Key,k≠bt→ae k h'=ae k h)→(∀x∈ord,0≤x∧x<os.length)→ord.Nodup→Q .norm tm' h' nx) :
  fJ C (.seq (.ops hZ) (.block 0 (.loop jW))) Q tm h nx:=by
 have body:∀dF,ae (K 0) dF=some c0→ae (K 1) dF=some c1→ae (K 5) dF=some (.slice bt 0 os.length 1)→ae (K 18) dF=some c1→ae (K 19) dF=some (I ord.length)→ae (K 20) dF=some (I 0)→W C (.loop jW) (az 0 Q) dF h nx:=by
  clear g0 g1 g5 tm;intro dF g0 g1 g5 g18 g19 g20;refine W.eB (n:=ord.length) (ThI os ord c0 c1 bt h nx) ?_ ?_
  ·exact⟨0,by simp,by omega,g0,g1,g5,g18,g19,by simpa using g20,by simpa using gb,rfl,fun _ _=>rfl,by simp,by simp⟩
  ·clear g0 g1 g5 g18 g19 g20 gb;rintro m dF h1 bW ⟨j,rfl,hj,g0,g1,g5,g18,g19,g20,gb,rfl,gk,aoz,Gg⟩;refine W.of ?_;simp[jW];simp[BW,g19,g20];refine⟨fun cH=>?_,fun Gx=>?_⟩
   ·have bY:j<ord.length:=by omega
    have WZ:=fun(tm2:T AV) a0 a1 a5 a18 a19 a20 a7=>aoy (C:=C) ho hlen uC (c1:=c1) (h:=h) (h1:=h1) (nx:=bW) (bt:=bt) (tm2:=tm2) bY a0 a1 a5 a18 a19 a20 a7 gb gk aoz Gg (P:=aO (fun tm h' nx'=>∃m,m<ord.length-j∧ThI os ord c0 c1 bt h bW m tm h' nx') (az 0 Q)) (fun tm' h' e2 hl hk=>by simp;exact uz _ _ e2 hl hk) (fun tm' h' m hm hI=>by simp;exact⟨m,hm,hI⟩);simp only[bR,cp]at WZ;obtain⟨hnj,oc⟩:=o1 h1 gk;rcases oc with⟨_,e⟩|⟨f,e⟩|⟨b,kd,e,hb,Ch⟩
    ·omega
    ·have EL:(ai eI (ord.take ord.length)).length=ord.length:=by rw[eF];simp
     have rd:=af9 (dQ _) bY bY;have A7:1≤ord.length-j:=by omega
     simp at EL rd;have ajW:=g18;rw[e]at ajW;simp[tY,ajW,g20,bY,EL,rd,A7];have e2:c1=.sl (ai eI ord) ord.length 1 f:=by simpa using e
     have aBO:=g18;rw[e2]at aBO;refine WZ _ ?_ ?_ ?_ ?_ ?_ ?_ ?_<;>simp[g0,g1,g5,aBO,g19,g20,e2]
    ·have EL:(ai eI ord).length=ord.length:=eF _;have ajW:=g18;rw[e]at ajW;simp[tY,ajW,g20,bY,hb,EL];refine WZ _ ?_ ?_ ?_ ?_ ?_ ?_ ?_<;>simp[g0,g1,g5,g19,g20,ajW,e]
   ·have yi:j=ord.length:=by omega
    subst yi;rw[List.take_length]at aoz Gg gb;refine gC _ h1 ?_ ?_ ?_ gb gk aoz Gg
    ·simp[g0]
    ·simp[g1]
    ·simp[g5]
 obtain⟨hnj,oc⟩:=o1 h (fun _ _=>rfl);simp;rcases oc with⟨e,e'⟩|⟨f,e⟩|⟨b,kd,e,hb,Ch⟩
 ·have Zx:(ord.length:Int)=0:=by omega
  rw[Zx]at body;have Rk:=g1;rw[e]at Rk;simp[hZ,Rk];refine body _ ?_ ?_ ?_ ?_ ?_ ?_<;>simp[g0,g1,g5,e]
 ·have Rk:=g1;rw[e]at Rk;simp[hZ,Rk];refine body _ ?_ ?_ ?_ ?_ ?_ ?_<;>simp[g0,g1,g5,e]
 ·have Rk:=g1;rw[e]at Rk;simp[hZ,Rk];refine body _ ?_ ?_ ?_ ?_ ?_ ?_<;>simp[g0,g1,g5,e]
include S
theorem asg{os:List Op}{ord:List Int}(ho:os.length≤16)(hlen:ord.length≤1000){c0 c1:AV}(uC:gR 10 eO c0 os){h:T ag}{nx:Key}(o1:Ord c1 ord ord.length h nx) :
  aM C kV [c0,c1] h nx (fun o h' nx'=>o=.ret (.bool (kI os ord))∧Ext h nx h' nx'):=by
 have s1:=kTSu nx;refine S.Dq.call ?_;simp only[Ar,bR,cp];simp[BX];have hm:os.length≤1048576:=by omega
 have ext:∀h',(∀k:Key,k≠nx→ae k h'=ae k (au nx (Qw (Ts os.length [])) h))→Ext h nx h' nx.succ:=fun h' qk=>⟨by omega,fun b hb=>by rw[qk b (fun e=>by subst e;omega),aw hb]⟩;generalize hP:(aO (fJ C .skip (cY [.tmp (K 4)] fun o h' nx'=>o=.ret (.bool (kI os ord))∧Ext h nx h' nx')) (cY [.tmp (K 4)] fun o h' nx'=>o=.ret (.bool (kI os ord))∧Ext h nx h' nx'))=P;have hPr:∀tm' h' nx',cY [.tmp (K 4)] (fun o h' nx'=>o=.ret (.bool (kI os ord))∧Ext h nx h' nx') .ret tm' h' nx'→P .ret tm' h' nx':=fun tm' h' nx' q=>by rw[←hP];exact q
 have main:∀dF:T AV,ae (K 0) dF=some c0→ae (K 1) dF=some c1→ae (K 5) dF=some (.slice nx 0 os.length 1)→
   fJ C (.seq (.ops hZ) (.block 0 (.loop jW))) (aO (fJ C (.seq (.seq (.ops jQ) (.block 2 (.loop jR))) (.seq (.ops gz) (.seq .skip (.seq (.seq (.ops dq) (.block 4 (.loop dX))) (.seq (.ops cu) .ret))))) P) P) dF (au nx (Qw (Ts os.length [])) h) nx.succ:=by
  intro dF g0 g1 g5;refine aoA ho hlen uC (bt:=nx) (fun h' hk=>o1.ext (ext h' hk)) g0 g1 g5 (by simp) ?_ ?_
  ·intro tm' h' q4 hl hk;refine hPr _ _ _ ?_;simp[q4];exact⟨hl,ext h' hk⟩
  ·intro tm' h' q0 q1 q5 qb qk rng Gg;exact am9 S ho hlen uC rng Gg q0 q1 q5 qb (by omega) (o1.ext (ext h' qk)) (fun h2 aN e=>⟨rfl,(ext h' qk).trans e⟩) hPr
 simp only[bR,cp]at main;have ht:=arl os.length;rcases id uC with⟨e,e'⟩|e
 ·have e0':os.length=0:=by rw[e'];rfl
  have ht0:Ts 0 []=[]:=rfl;rw[e0',ht0]at main;simp[tZ,e];refine main _ ?_ ?_ ?_<;>simp[e]
 ·simp[tZ,e,hm,ht];refine main _ ?_ ?_ ?_<;>simp[e]
end Ln
namespace Ln
open Go.Sx Go
theorem Ord.cases{c:AV}{l:List Int}{h:T ag}{nx:Key}(o:Ord c l l.length h nx):(c=.nils∧l=[])∨(∃f,c=.sl (ai eI l) l.length 1 f)∨∃(b:Key) (k:CK),c=.slice b 0 l.length 1∧ae b h=some (.cells (ai eI l) k)∧b.toNat<nx.toNat:=by
 obtain⟨_,oc⟩:=o;rcases oc with⟨e,h0⟩|⟨f,e⟩|e
 ·exact .inl ⟨e,zqr h0⟩
 ·rw[List.take_length]at e;exact .inr (.inl ⟨f,e⟩)
 ·exact .inr (.inr e)
variable{C:bU}{X:Kn}(S:Std C X)
include S
end Ln
namespace Ln
open Go.Sx Go
theorem Wz(z:Op)(H:T ag):cn (aW 9998) (eO z) H=(eO z,H):=dw (dP.wH _)
theorem De(z:Op):List.take 10 (eO z)=eO z:=rfl
theorem Mg(z:Op):(eO z).length=10:=rfl
variable{C:bU}{X:Kn}(S:Std C X)
include S
end Ln
namespace Ln
open Go.Sx Go
variable{C:bU}{X:Kn}(S:Std C X)
include S
theorem ar9{ord:List Int}{c1:AV}{h:T ag}{nx:Key}(o1:Ord c1 ord ord.length h nx):(c1=.nils∧ord.length=0)∨(∃l f,c1=.sl l ord.length 1 f)∨∃b,c1=.slice b 0 ord.length 1:=by
 rcases o1.cases with⟨e,rfl⟩|⟨f,e⟩|⟨b,kd,e,_⟩
 ·exact .inl ⟨e,rfl⟩
 ·exact .inr (.inl ⟨_,f,e⟩)
 ·exact .inr (.inr ⟨b,e⟩)
end Ln
namespace Ln
open Go.Sx Go
variable{C:bU}{X:Kn}(S:Std C X)
include S
end Ln
namespace Ln
open Go.Sx Go
def Pj(i:Nat)(name:Nat×Nat):Int:=match (aU i).findIdx? fun c=>c.name==name with
 |some t=>t
 |none=>-1
theorem ajr(i:Nat):(aU i).length≤3:=by unfold aU;split<;>simp
theorem arI{i:Nat}{name:Nat×Nat}(h:∀(t:Nat) (ht:t<(aU i).length),(aU i)[t].name≠name):Pj i name=-1∧w7 i name=none:=by
 have h1:(aU i).findIdx? (fun c=>c.name==name)=none:=by rw[List.findIdx?_eq_none_iff];intro c hc;obtain⟨t,ht,rfl⟩:=List.getElem_of_mem hc;simpa using h t ht
 have h2:(aU i).find? (fun c=>c.name==name)=none:=by rw[List.find?_eq_none];intro c hc;obtain⟨t,ht,rfl⟩:=List.getElem_of_mem hc;simpa using h t ht
 exact⟨by unfold Pj;rw[h1],h2⟩
theorem arH{i t:Nat}{name:Nat×Nat}(ht:t<(aU i).length)(h:∀(s:Nat) (hs:s<(aU i).length),s<t→(aU i)[s].name≠name)(he:(aU i)[t].name=name):Pj i name=t∧w7 i name=some (aU i)[t]:=by
 have h1:(aU i).findIdx? (fun c=>c.name==name)=some t:=by rw[List.findIdx?_eq_some_iff_getElem];exact⟨ht,by simpa using he,fun s hs=>by simpa using h s (by omega) hs⟩
 have h2:(aU i).find? (fun c=>c.name==name)=some (aU i)[t]:=by rw[List.find?_eq_some_iff_getElem];refine⟨by simpa using he,t,ht,rfl,fun s hs=>?_⟩;simpa using h s (by omega) hs
 exact⟨by unfold Pj;rw[h1],h2⟩
def ux(i:Nat):List Op→Int
 | []=>0
 |o ::l=>match w7 i o.name with
  |none=>6
  |some c=>if o.args.length=c.ar then ux i l else 1
theorem Yx{i:Nat}:∀{l:List Op},ux i l=0→∀o∈l,∃c,w7 i o.name=some c∧o.args.length=c.ar
 | [],_,o,ho=>by simp at ho
 |x ::l,h,o,ho=>by
  unfold ux at h;cases hc:w7 i x.name with
  |none=>rw[hc]at h;simp at h
  |some c=>
   rw[hc]at h;simp only at h;by_cases ha:x.args.length=c.ar
   ·rw[if_pos ha]at h;rcases M4.1 ho with rfl|ho
    ·exact⟨c,hc,ha⟩
    ·exact Yx h o ho
   ·rw[if_neg ha]at h;simp at h
variable{C:bU}{X:Kn}(S:Std C X)
include S
theorem ahA{i t:Nat}(ht:t<(aU i).length):List.take 23 (List.drop (t*23) (ai (X.cmd i) (List.range (aU i).length)))=X.cmd i t:=by have:=(S.ok.aec i).at (l:=List.range (aU i).length) (i:=t) (by simpa using ht);simpa using this
theorem ahB{i:Nat}:(ai (X.cmd i) (List.range (aU i).length)).length=(aU i).length*23:=by have:=(S.ok.aec i).rows (List.range (aU i).length);simpa using this
theorem aBb{i t:Nat}(hi:i<3)(ht:t<(aU i).length)(o:Op){h:T ag}{nx b:Key}{k:CK}(hb:ae b h=some (.cells (eO o) k))(Ch:b.toNat<nx.toNat):aM C fN [.agg (X.cmd i t),.ptr b 0] h nx (fun out h' nx'=>out=.ret (.bool (decide ((aU i)[t].name=o.name)))∧Ext h nx h' nx'):=by
 have s1:=kTSu nx;have h0:=S.ok.aHI i hi t _ (A6 ht);have hl:=(S.ok.aec i).len t;have hc:(X.cmd i t).all AV.aV=true:=AQ.2 ((S.ok.aec i).cell t);have IW:ae b (au nx (Qw (X.cmd i t)) h)=some (.cells (eO o) k):=by rw[aw Ch];exact hb
 refine S.BU.call ?_;simp[xJ];simp[Ay,hc];generalize (aU i)[t]=c at *;rcases hn:c.name with⟨n1,n2⟩
 rcases hm:o.name with⟨m1,m2⟩
 rw[hn]at h0;have h0':∀hh,(X.cmd i t)[0]'hh=.str n1 n2:=fun hh=>by have q:=A6 hh;rw[h0]at q;exact(Option.some.inj q).symm
 simp[Az,h0',hl,IW,eO,hm];exact E0 h nx _
end Ln
namespace Ln
open Go.Sx Go
variable{C:bU}{X:Kn}(S:Std C X)
include S
abbrev awJ(X:Kn)(i:Nat):AV:=.sl (ai (X.cmd i) (List.range (aU i).length)) (aU i).length 23 .any
theorem aIq(i t:Nat)(H:T ag):cn (aW 9998) (X.cmd i t) H=(X.cmd i t,H):=dw ((S.ok.aec i).wH t)
omit S in
theorem arG{i j:Nat}{name:Nat×Nat}(hj:j<(aU i).length)(h:∀(s:Nat) (hs:s<(aU i).length),s<j→(aU i)[s].name≠name)(hn:(aU i)[j].name≠name):∀(s:Nat) (hs:s<(aU i).length),s<j+1→(aU i)[s].name≠name:=by
 intro s hs hsj;by_cases e:s=j
 ·subst e;exact hn
 ·exact h s hs (by omega)
def IxI(i:Nat)(o:Op)(b:Key)(X:Kn)(h:T ag)(nx:Key)(m:Nat)(tm':T AV)(h':T ag)(nx':Key):Prop:=∃j:Nat,m=(aU i).length-j∧j≤(aU i).length∧ae (K 0) tm'=some (awJ X i)∧ae (K 1) tm'=some (.fn fN [] [.ptr b 0])∧ae (K 7) tm'=some (I (aU i).length)∧ae (K 8) tm'=some (I j)∧Ext h nx h' nx'∧∀(s:Nat) (hs:s<(aU i).length),s<j→(aU i)[s].name≠o.name
theorem ann{i:Nat}(hi:i<3)(o:Op){h:T ag}{nx b:Key}{k:CK}(hb:ae b h=some (.cells (eO o) k))(Ch:b.toNat<nx.toNat):aM C cv [awJ X i,.fn fN [] [.ptr b 0]] h nx (fun out h' nx'=>out=.ret (I (Pj i o.name))∧Ext h nx h' nx'):=by
 have hn3:=ajr i;have rc:=S.r fN;refine S.jg.call ?_;simp[fO];simp[iE];simp[iF];refine W.eB (n:=(aU i).length) (IxI i o b X h nx) ⟨0,by simp,by omega,by simp,by simp,by simp,by simp,Ext.refl _ _,fun s _ hs=>absurd hs (by omega)⟩ ?_;rintro m dF h1 bW ⟨j,rfl,hj,g0,g1,g7,g8,e1,lC⟩;refine W.of ?_;simp[iG];by_cases bY:j<(aU i).length
 ·have Bh:(j:Int)<(aU i).length:=by omega
  have ec:=ahA S bY;have hr:=ahB S (i:=i);have hl:=(S.ok.aec i).len j;have t23:23≤(aU i).length*23-j*23:=by omega
  have ht:List.take 23 (X.cmd i j)=X.cmd i j:=PV (by omega);simp[eK,g7,g8,Bh];simp[iH,g8];simp[iI,g0,g1,bY,hr,t23,ec,hl,ht,rc,aIq S];refine(aBb S hi bY o (by rw[e1.g b Ch];exact hb) (by have:=e1.n;omega)).mono ?_;rintro out h2 aN ⟨rfl,e2⟩;by_cases hn:(aU i)[j].name=o.name
  ·simp[hn];simp[iJ];exact⟨(arH bY lC hn).1.symm,e1.trans e2⟩
  ·simp[hn];simp[iK,g8];rw[aH (by omega) (by omega)];exact⟨(aU i).length-(j+1),by omega,j+1,rfl,by omega,by simp[g0],by simp[g1],by simp[g7],by simp,e1.trans e2,arG bY lC hn⟩
 ·have yi:j=(aU i).length:=by omega
  subst yi;simp[eK,g7,g8];simp[iL];exact⟨(arI (fun s hs=>lC s hs hs)).1.symm,e1⟩
end Ln
