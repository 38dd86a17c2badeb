/- A part of the proof. No condition. -/
import Derived.Test.YtecbfpngkfdkoaaGreatP9
import Derived.Test.YtecbfpngkfdkoaaGreatP11
import Derived.Test.YtecbfpngkfdkoaaGreatP6
set_option linter.unusedSimpArgs false
set_option linter.unusedVariables false
set_option linter.unusedSectionVars false
namespace Ln
open Go.Sx Go
structure FnR(C:bP)(f:Nat)(p:fq):Prop where
 get:HA C f=some p
 off:∀l h nx,C.sum f l h nx=none
 ma:C.ma f=true
def WY(f:Nat):Bool:=Nat.beq f 30||Nat.beq f 82||Nat.beq f 63||Nat.beq f 16||Nat.beq f 57||Nat.beq f 32||Nat.beq f 86||Nat.beq f 106||Nat.beq f 173
structure Std(C:bP)(X:Kn):Prop where
 orc:C.orc=[]
 raw:∀f,C.raw f=WY f
 ok:X.Ok
 zS:Fn C hU uo
 mo:FnR C dm jb
 Hz:Fn C eH DZ
 Bs:Fn C iR xf
 M9:Fn C r8 K1
 Fj:Fn C iF cmp_isNaN_int
 C0:Fn C dX Aa
 C1:Fn C jA Ab
 I4:Fn C nX Gn
 Cz:Fn C jv zu
 HP:FnR C l7 Ed
 HD:Fn C fV Ea
 MJ:Fn C iK KX
 HQ:Fn C mc Ee
 Jo:Fn C n9 Hh
 CJ:Fn C fI zJ
 C2:Fn C fM Ac
 HR:Fn C hN Ef
 Bt:Fn C eX xg
 C3:Fn C fJ Ad
 ql:Fn C cq kR
 qq:Fn C dV kU
 tr:Fn C cU nR
 tv:Fn C fD nU
 jd:Fn C bZ kj
 sj:Fn C eQ mv
 we:Fn C di pL
 HB:Fn C bI D0
 HC:Fn C mu D9
 hZ:Fn C bR eZ
 fe:Fn C bx cV
 s_InitP:∀i,i<3→∀h nx,C.sum Ek [X.m,fT i,iW] h nx=some (.tuple [.agg (eS (bJ i)),I 0],h,nx)
 s_CanP:∀c s aZZ,jL c.fm s→aZZ.length=c.ar→∀h nx,C.sum Hw [X.m,fT c.fm,.str c.name.1 c.name.2,.agg (eS s),aV aZZ,iW] h nx=some (.tuple [.bool (X.UR c s aZZ),I (X.US c s aZZ)],h,nx)
 s_HoldsP:∀c s aZZ r,jL c.fm s→aZZ.length=c.ar→∀h nx,C.sum BW [X.m,fT c.fm,.str c.name.1 c.name.2,.agg (eS s),aV aZZ,.agg (eU r),iW] h nx=some (.tuple [.bool (X.zf c s aZZ r),I (X.zg c s aZZ r)],h,nx)
 s_NextP:∀c s aZZ r,jL c.fm s→aZZ.length=c.ar→∀h nx,C.sum DX [X.m,fT c.fm,.str c.name.1 c.name.2,.agg (eS s),aV aZZ,.agg (eU r),iW] h nx=some (.tuple [.agg (eS (X.Ct c s aZZ r)),I (X.Ez c s aZZ r)],h,nx)
 s_InitR:∀i,i<3→∀h nx,C.sum YE [X.m,fT i,iW] h nx=some (.tuple [.agg (eS (bJ i)),I 0],h,nx)
 s_CanR:∀c s aZZ,jL c.fm s→aZZ.length=c.ar→∀h nx,C.sum abO [X.m,fT c.fm,.str c.name.1 c.name.2,.agg (eS s),aV aZZ,iW] h nx=some (.tuple [.bool (X.UR c s aZZ),I (X.US c s aZZ)],h,nx)
 s_HoldsR:∀c s aZZ r,jL c.fm s→aZZ.length=c.ar→∀h nx,C.sum Vx [X.m,fT c.fm,.str c.name.1 c.name.2,.agg (eS s),aV aZZ,.agg (eU r),iW] h nx=some (.tuple [.bool (X.zf c s aZZ r),I (X.zg c s aZZ r)],h,nx)
 s_NextR:∀c s aZZ r,jL c.fm s→aZZ.length=c.ar→∀h nx,C.sum YF [X.m,fT c.fm,.str c.name.1 c.name.2,.agg (eS s),aV aZZ,.agg (eU r),iW] h nx=some (.tuple [.agg (eS (X.Ct c s aZZ r)),I (X.Ez c s aZZ r)],h,nx)
 s_parser_Decl:∀i,i<3→∀h nx,C.sum B7 [X.m,I 4,fT i] h nx=some (.tuple [.agg (X.dec i),.bool true],h,nx)
 s_ref09_Decl:∀i,i<3→∀h nx,C.sum YG [X.m,I 4,fT i] h nx=some (.tuple [.agg (X.dec i),.bool true],h,nx)
 s_values_Valid:∀u,∀h nx,C.sum cP [.agg (eU u)] h nx=some (I (if sH u=true then 0 else 1),h,nx)
 s_values_Compare:∀s t:St,s.kids.length≤3→t.kids.length≤3→∀h nx,C.sum jw [.agg (eS s),.agg (eS t)] h nx=some (I (qz s t),h,nx)
 s_ref10_Valid:∀u,∀h nx,C.sum Vy [.agg (eU u)] h nx=some (I (if sH u=true then 0 else 1),h,nx)
 s_ref10_Compare:∀s t:St,s.kids.length≤3→t.kids.length≤3→∀h nx,C.sum QG [.agg (eS s),.agg (eS t)] h nx=some (I (qz s t),h,nx)
 s_Equal:∀s t:St,s.kids.length≤3→t.kids.length≤3→∀h nx,C.sum Vz [.agg (eS s),.agg (eS t)] h nx=some (.bool (decide (s=t)),h,nx)
 s_Clone:∀s:St,s.kids.length≤3→∀h nx,C.sum dH [.agg (eS s)] h nx=some (.agg (eS s),h,nx)
 s_Module:∀h nx,C.sum zQ [] h nx=some (X.m,h,nx)
 s_lives:∀h nx,C.sum uY [] h nx=some (.bool true,h,nx)
theorem Std.rw{C:bP}{X:Kn}(S:Std C X){f:Nat}(h:WY f=true):C.raw f=true:=by rw[S.raw,h]
theorem Std.nr{C:bP}{X:Kn}(S:Std C X){f:Nat}(h:WY f=false):C.raw f=false:=by rw[S.raw,h]
theorem Std.r{C:bP}{X:Kn}(S:Std C X)(f:Nat)(h:WY f=false:=by decide):C.raw f=false:=S.nr h
theorem aJ.known{C:bP}{f:Nat}{l:List AV}{h:T ah}{nx:Key}{v:AV}{R:Out→T ah→Key→Prop}(hs:C.sum f l h nx=some (v,h,nx))(hR:R (.ret v) h nx):aJ C f l h nx R:=.inl ⟨v,h,nx,hs,hR⟩
theorem bq{a b:Int}(h:a≠b):(a==b)=false:=by simpa using h
theorem bt{a b:Int}(h:a=b):(a==b)=true:=by simpa using h
variable{C:bP}{X:Kn}(S:Std C X)
include S
end Ln
namespace Ln
open Go.Sx Go
variable{C:bP}{X:Kn}(S:Std C X)
include S
omit S in
theorem aAE{client:Int}{nl nc:Nat}{args:List U}{res:U}(hz:zU res=true)(hn:¬(nl=0∧nc=0))(hl:nl≤16)(ha:args.length≤16)(c0:0≤client)(c3:client≤3):zk ⟨0,client,(nl,nc),args,res⟩=args.all sH:=by
 rw[Bool.eq_iff_iff];unfold zk;rw[decide_eq_true_eq];constructor
 ·rintro⟨_,_,_,_,h|h|h⟩
  ·exact h.2.2.2.2.2
  ·exact absurd h.1 (by simp)
  ·exact absurd h.1 (by simp)
 ·intro h;exact⟨by simp,by simp,c0,c3,.inl ⟨rfl,hz,by simpa using hn,hl,ha,h⟩⟩
omit S in
theorem aAF{client:Int}{res:U}(c0:0≤client)(c3:client≤3):zk ⟨1,client,(0,0),[],res⟩=sH res:=by
 rw[Bool.eq_iff_iff];unfold zk;rw[decide_eq_true_eq];constructor
 ·rintro⟨_,_,_,_,h|h|h⟩
  ·exact absurd h.1 (by simp)
  ·exact h.2.2.2
  ·exact absurd h.1 (by simp)
 ·intro h;exact⟨by simp,by simp,c0,c3,.inr (.inl ⟨rfl,rfl,rfl,h⟩)⟩
omit S in
theorem atJ{res:U}:zk ⟨2,0,(0,0),[],res⟩=zU res:=by
 rw[Bool.eq_iff_iff];unfold zk;rw[decide_eq_true_eq];constructor
 ·rintro⟨_,_,_,_,h|h|h⟩
  ·exact absurd h.1 (by simp)
  ·exact absurd h.1 (by simp)
  ·exact h.2.2.2.2
 ·intro h;exact⟨by simp,by simp,by simp,by simp,.inr (.inr ⟨rfl,rfl,rfl,rfl,h⟩)⟩
omit S in
theorem aAH{res:U}(hz:zU res=true):sH res=true:=by unfold zU at hz;unfold sH;simp at hz ⊢;exact .inl hz.1
omit S in
theorem Q9{x:Ev}(h:¬(0≤x.kind∧x.kind≤2∧0≤x.client∧x.client≤3)):zk x=false:=by unfold zk;rw[decide_eq_false_iff_not];rintro⟨a,b,c,d,_⟩;exact h ⟨a,b,c,d⟩
end Ln
namespace Ln
open Go.Sx Go
variable{C:bP}{X:Kn}(S:Std C X)
include S
end Ln
namespace Ln
open Go.Sx Go
def Gt:Nat→Int
 |0=>0|1=>1|2=>20|_=>25
variable{C:bP}{X:Kn}(S:Std C X)
include S
end Ln
namespace Ln
open Go.Sx Go
theorem Tf:∀(l:List Ev) (i:Nat),(aR i l).length≤l.length
 | [],i=>by simp[aR]
 |x ::l,i=>by have:=Tf l (i+1);simp only[aR,DG,ZW];split<;>simp<;>omega
structure adD(l:List Ev):Prop where
 len:l.length≤40
 beg:(aR 0 l).length≤16
 args:∀x∈l,x.args.length≤1000
theorem aaP{l:List Ev}{j:Nat}(h:j<l.length):(aR 0 (l.take (j+1))).length=(aR 0 (l.take j)).length+if l[j].kind=0 then 1 else 0:=by rw[zqu h,CM,DG,List.length_map];split<;>rfl
theorem awb{l:List Ev}{j:Nat}:(aR 0 (l.take j)).length≤j:=by have:=Tf (l.take j) 0;rw[UD]at this;omega
variable{C:bP}{X:Kn}(S:Std C X)
include S
end Ln
namespace Ln
open Go.Sx Go
def RQ(l:List Ev)(h:T ah)(nx:Key)(m:Nat)(aD:T AV)(h':T ah)(nx':Key):Prop:=∃(i:Nat) (c:AV) (os:List Op),m=l.length-i∧i≤l.length∧os.length≤i∧ag (K 0) aD=some (.sl (aq eE l) l.length 8 .any)∧ag (K 5) aD=some c∧ag (K 6) aD=some (I i)∧App c (aq eO os) os.length 10 h' nx' nx∧aR 0 l=os++aR i (l.drop i)∧Ext h nx h' nx'
def azV(l:List Ev)(o:Out):Prop:=∃c,o=.ret (.tuple [c,I (Gt (cM [] l))])∧nW 10 eO c (if cM [] l=0 then aR 0 l else [])
variable{C:bP}{X:Kn}(S:Std C X)
include S
end Ln
namespace Ln
open Go.Sx Go
theorem al8(u:U):qz ⟨u.k,u.n,[]⟩ ⟨0,0,[]⟩=0↔zU u=true:=by rw[Ik];unfold zU;rw[decide_eq_true_eq];simp
variable{C:bP}{X:Kn}(S:Std C X)
include S
theorem Yh{x:Ev}{R:Out→T ah→Key→Prop}{Q:cH}{tm:T AV}{h:T ah}{nx nx0:Key}(hlen:x.args.length≤1000)(h0:nx0.toNat<nx.toNat)(f1:ag (K 1) tm=some (.ptr nx0 0))(hb:ag nx0 h=QZ (eE x))
  (zm:∀h' nx',x.args.all sH=false→Ext h nx h' nx'→R (.ret (I 1)) h' nx') (gJ:∀aD h' nx',ag (K 1) aD=some (.ptr nx0 0)→x.args.all sH=true→Ext h nx h' nx'→Q .norm aD h' nx')
  (hq:∀aD h' nx',fQ [.tmp (K 2)] R .ret aD h' nx'→Q .ret aD h' nx') :
  iT C (.seq (.ops fY) (.block 0 (.loop fZ))) Q tm h nx:=by
 have rv:=S.r cP;obtain⟨kind,client,name,args,res⟩:=x;have dI:aV args=.nils∧args=[]∨aV args=.sl (aq eU args) args.length 4 .any∧args≠[]:=by
  cases args with
  |nil=>exact .inl ⟨rfl,rfl⟩
  |cons a t=>exact .inr ⟨rfl,by simp⟩
 simp;have aAD:args.length≤1000:=hlen;rcases dI with⟨e,rfl⟩|⟨e,bW⟩
 ·simp[fY,f1,hb,eE,e];refine W.wO (W.of ?_);simp[fZ];simp[qR];refine gJ _ _ _ ?_ rfl (Ext.refl _ _);simp[f1]
 ·simp[fY,f1,hb,eE,e];refine W.fh (n:=args.length) (fun m aD h' nx'=>∃j:Nat,m=args.length-j∧j≤args.length∧ag (K 1) aD=some (.ptr nx0 0)∧ag (K 53) aD=some (.sl (aq eU args) args.length 4 .any)∧ag (K 54) aD=some (I args.length)∧ag (K 55) aD=some (I j)∧Ext h nx h' nx'∧(args.take j).all sH=true) ?_ ?_
  ·exact⟨0,by simp,by omega,by simp[f1],by simp,by simp,by simp,Ext.refl _ _,by simp⟩
  ·rintro m dc h1 bw ⟨j,rfl,hj,g1,g53,g54,g55,e1,ha⟩;refine W.of ?_;simp[fZ];simp[qR,g54,g55];refine⟨fun cQ=>?_,fun P9=>?_⟩
   ·have da:j<args.length:=by omega
    have hr:=Cu.rows args;have h4:4≤args.length*4-j*4:=by omega
    have ec:=Cu.at da;have he:List.take 4 (eU args[j])=eU args[j]:=rfl;have ZA:(eU args[j]).length=4:=rfl;have hz:∀H,aS 9999 (.agg (eU args[j])) H=(.agg (eU args[j]),H):=fun H=>by simp[eU]
    have hpc:(eU args[j]).all AV.aM=true:=rfl;simp[AY,g53,g55,da,hr,h4,ec,he,ZA,hpc];simp[zn,rv,he,ZA,hz];refine aJ.known (S.s_values_Valid _ _ _) ?_;have e2:=e1.trans (E0 h1 bw (.cells (eU args[j]) .fix));cases ho:sH args[j]with
    |false=>simp[pC,zp];refine hq _ _ _ ?_;simp;refine zm _ _ ?_ e2;rw[List.all_eq_false];exact⟨_,LA da,by simp[ho]⟩
    |true=>
     simp[pC,zt,g55];refine⟨args.length-(j+1),by omega,j+1,rfl,by omega,by simp[g1],by simp[g53],by simp[g54],?_,e2,?_⟩
     ·rw[aO (by omega) (by omega)];simp
     ·intro x hx;rw[zqu da,List.mem_append,List.mem_singleton]at hx;rcases hx with hx|rfl
      ·exact sF.1 ha x hx
      ·exact ho
   ·have da:j=args.length:=by omega
    subst da;rw[List.take_length]at ha;exact gJ _ _ _ (by simp[g1]) ha e1
theorem Yi{x:Ev}{R:Out→T ah→Key→Prop}{tm:T AV}{h:T ah}{nx nx0:Key}(hlen:x.args.length≤1000)(h0:nx0.toNat<nx.toNat)(f1:ag (K 1) tm=some (.ptr nx0 0))(f3:ag (K 3) tm=some (.bool (zU x.res)))(hb:ag nx0 h=QZ (eE x))
  (hk:0≤x.kind∧x.kind≤2) (hc:0≤x.client∧x.client≤3) (hR:∀h' nx',Ext h nx h' nx'→R (.ret (I (if zk x=true then 0 else 1))) h' nx') :
  iT C (.seq (.seq (.ops iL) (.cond (.t (K 32)) (.seq (.seq (.ops dB) (.cond (.t (K 51)) (.seq (.ops gf) .ret) .skip)) (.seq (.seq (.ops fY) (.block 0 (.loop fZ))) (.seq (.ops j0) .ret))) .skip))
   (.seq (.seq (.ops bX) (.cond (.t (K 87)) (.seq (.ops dh) .ret) .skip)) (.seq (.ops j5) .ret))) (fQ [.tmp (K 2)] R) tm h nx:=by
 have rv:=S.r cP;have fail:zk x=false→R (.ret (I 1)) h nx:=fun e=>by simpa[e]using hR h nx (Ext.refl _ _)
 obtain⟨kind,client,⟨nl,nc⟩,args,res⟩:=x;have aAD:args.length≤1000:=hlen;have c0:0≤client:=hc.1;have c3:client≤3:=hc.2;have dI:aV args=.nils∧args=[]∨∃l,aV args=.sl l args.length 4 .any∧args≠[]:=by
  cases args with
  |nil=>exact .inl ⟨rfl,rfl⟩
  |cons a t=>exact .inr ⟨_,rfl,by simp⟩
 have FQ:kind=0∨kind=1∨kind=2:=by have:=hk.1;have:=hk.2;simp at *;omega
 have last:∀tm2:T AV,ag (K 1) tm2=some (.ptr nx0 0)→zk ⟨kind,client,(nl,nc),args,res⟩=sH res→iT C (.seq (.ops j5) .ret) (fQ [.tmp (K 2)] R) tm2 h nx:=by
  intro tm2 q1 e;have hz:∀H,aS 9999 (.agg (eU res)) H=(.agg (eU res),H):=fun H=>by simp[eU]
  simp;simp[j5,q1,hb,eE,rv];refine aJ.known (S.s_values_Valid res _ _) ?_;simp;have:=hR h nx (Ext.refl _ _);rw[e]at this;exact this
 simp only[dO,fo]at last;rcases FQ with rfl|rfl|rfl
 ·simp[iL,f1,hb,eE];cases hz:zU res with
  |false=>rw[hz]at f3;simp[dB,f1,f3,hb,eE,gf];exact fail (by unfold zk;simp[hz])
  |true=>
   rw[hz]at f3;by_cases hn:nl=0∧nc=0
   ·simp[dB,f1,f3,hb,eE,hn,gf];exact fail (by unfold zk;simp[hn])
   ·by_cases hl:16<nl
    ·have WA:(16:Int)<nl:=by omega
     simp[dB,f1,f3,hb,eE,hn,hl,WA,gf];exact fail (by unfold zk;simp;omega)
    ·have WA:¬(16:Int)<nl:=by omega
     have go:∀(Q:cH) (tm2:T AV),args.length≤16→ag (K 1) tm2=some (.ptr nx0 0)→(∀aD h' nx',fQ [.tmp (K 2)] R .ret aD h' nx'→Q .ret aD h' nx')→iT C (.seq (.seq (.ops fY) (.block 0 (.loop fZ))) (.seq (.ops j0) .ret)) Q tm2 h nx:=by
      intro Q tm2 ha q1 hq;have eok:=aAE (client:=client) hz hn (by omega) ha c0 c3;rw[dO];refine Yh S (x:=⟨0,client,(nl,nc),args,res⟩) (R:=R) hlen h0 q1 hb ?_ ?_ ?_
      ·intro h' nx' e1 e2;have:=hR h' nx' e2;rw[eok,e1]at this;exact this
      ·intro aD h' nx' q e1 e2;simp;simp[j0];refine hq _ _ _ ?_;simp;have:=hR h' nx' e2;rw[eok,e1]at this;exact this
      ·intro aD h' nx' q;exact hq _ _ _ q
     simp only[dO,fo]at go;rcases dI with⟨ea,rfl⟩|⟨l,ea,bW⟩
     ·simp[dB,f1,f3,hb,eE,hn,hl,WA,ea];refine go _ _ (by simp) ?_ (fun _ _ _ q=>q);simp[f1]
     ·by_cases ha:16<args.length
      ·have ha2:(16:Int)<args.length:=by omega
       simp[dB,f1,f3,hb,eE,hn,hl,WA,ea,ha,ha2,gf];exact fail (by unfold zk;simp;omega)
      ·have ha2:¬(16:Int)<args.length:=by omega
       simp[dB,f1,f3,hb,eE,hn,hl,WA,ea,ha,ha2];refine go _ _ (by omega) ?_ (fun _ _ _ q=>q);simp[f1]
 ·simp[iL,f1,hb,eE];by_cases hn:nl=0∧nc=0
  ·obtain⟨rfl,rfl⟩:=hn;rcases dI with⟨ea,rfl⟩|⟨l,ea,bW⟩
   ·simp[bX,f1,f3,hb,eE,ea];refine last _ ?_ (aAF c0 c3);simp[f1]
   ·simp[bX,f1,f3,hb,eE,ea,List.length_pos_iff.2 bW,dh];exact fail (by unfold zk;simp[bW])
  ·simp[bX,f1,f3,hb,eE,hn,dh];exact fail (by unfold zk;simp;intros;omega)
 ·simp[iL,f1,hb,eE];by_cases hn:nl=0∧nc=0
  ·obtain⟨rfl,rfl⟩:=hn;rcases dI with⟨ea,rfl⟩|⟨l,ea,bW⟩
   ·by_cases SZ:client=0
    ·subst SZ;cases hz:zU res with
     |false=>rw[hz]at f3;simp[bX,f1,f3,hb,eE,ea,dh];exact fail (by rw[atJ,hz])
     |true=>rw[hz]at f3;simp[bX,f1,f3,hb,eE,ea];refine last _ ?_ (by rw[atJ,hz,aAH hz]);simp[f1]
    ·simp[bX,f1,f3,hb,eE,ea,bq SZ,dh];exact fail (by unfold zk;simp[SZ])
   ·simp[bX,f1,f3,hb,eE,ea,List.length_pos_iff.2 bW,dh];exact fail (by unfold zk;simp[bW])
  ·simp[bX,f1,f3,hb,eE,hn,dh];exact fail (by unfold zk;simp;intros;omega)
theorem aeh(x:Ev)(hlen:x.args.length≤1000):Pur C jv [.agg (eE x)] (·=.ret (I (if zk x=true then 0 else 1))):=by
 intro h nx;have s1:=kTSu nx;have rc:=S.r jw;have ac:=du x.args;refine S.Cz.call ?_;simp[zu];simp[AZ,eE,ac.1];have hb1:ag nx (aw nx (QZ (eE x)) h)=QZ (eE x):=by simp
 have he:=E0 h nx (.cells (eE x) .fix);have hcz:(qz ⟨x.res.k,x.res.n,[]⟩ ⟨0,0,[]⟩==0)=zU x.res:=by rw[Bool.eq_iff_iff,beq_iff_eq];exact al8 _
 unfold eE at hb1 he;simp[A5,rc];refine aJ.known (S.s_values_Compare ⟨x.res.k,x.res.n,[]⟩ ⟨0,0,[]⟩ (by simp) (by simp) _ _) ?_;simp[hcz];by_cases hk:x.kind<0
 ·simp[gh,hk,iM,Q9 (x:=x) (by omega)];exact he
 by_cases ZF:2<x.kind
 ·simp[gh,hk,ZF,iM,Q9 (x:=x) (by omega)];exact he
 by_cases hc:x.client<0
 ·simp[gh,hk,ZF,hc,iM,Q9 (x:=x) (by omega)];exact he
 by_cases hc2:3<x.client
 ·have AN:¬x.client<4:=by omega
  simp[gh,hk,ZF,hc,AN,iM,Q9 (x:=x) (by omega)];exact he
 have AN:x.client<4:=by omega
 simp[gh,hk,ZF,hc,AN];have key:=fun tm2 g1 g3=>Yi S (x:=x) (nx0:=nx) (nx:=nx.succ) (h:=aw nx (QZ (eE x)) h) (tm:=tm2) (R:=fun o h' nx'=>o=.ret (I (if zk x=true then 0 else 1))∧Ext h nx h' nx') hlen (by omega) g1 g3 hb1 (by omega) (by omega) (fun h' nx' e=>⟨rfl,he.trans e⟩);simp only[dO,fo]at key;refine key _ ?_ ?_<;>simp
end Ln
namespace Go.Sx
open Go
section
variable{α:Type}{z:Nat}{enc:α→List AV}
theorem Flat.parts(F:Flat z enc){l:List α}{j:Nat}(hj:j<l.length):aq enc l=aq enc (l.take j)++(enc l[j]++aq enc (l.drop (j+1))):=by
 conv=>lhs;rw[←List.take_append_drop j l,zqt hj]
 rw[ju,dg]
theorem Flat.Nz(F:Flat z enc){l:List α}{j off:Nat}{vs:List AV}{y:α}(hj:j<l.length)(ho:off+vs.length≤z)(hy:enc y=(enc l[j]).take off++(vs++(enc l[j]).drop (off+vs.length))) :
  (aq enc l).take (j*z+off)++(vs++(aq enc l).drop (j*z+off+vs.length))=aq enc (l.set j y):=by
 have ht:(l.take j).length=j:=by simp;omega
 have hr:(aq enc (l.take j)).length=j*z:=by rw[F.rows,ht]
 have hz:(enc l[j]).length=z:=F.len _;rw[List.set_eq_take_append_cons_drop,if_pos hj,ju,dg,hy,F.parts hj];have h1:List.take (j*z+off) (aq enc (l.take j))=aq enc (l.take j):=Lm (by rw[hr];omega);have h2:List.drop (j*z+off+vs.length) (aq enc (l.take j))=[]:=List.drop_eq_nil_of_le (by rw[hr];omega);rw[zqw,zqq,hr,h1,h2];rw[show j*z+off-j*z=off by omega,show j*z+off+vs.length-j*z=off+vs.length by omega];rw[List.take_append_of_le_length (by omega),List.drop_append_of_le_length (by omega)];simp
theorem Flat.put(F:Flat z enc){l:List α}{j:Nat}(hj:j<l.length)(y:α):(aq enc l).take (j*z)++(enc y++(aq enc l).drop (j*z+z))=aq enc (l.set j y):=by have h1:=F.len y;have:=F.Nz (off:=0) (vs:=enc y) (y:=y) hj (by omega) (by rw[List.take_zero,List.drop_eq_nil_of_le (by rw[F.len];omega)];simp);rw[h1]at this;exact this
end
end Go.Sx
namespace Ln
open Go.Sx Go
def abc(res:List RV)(R:Out→T ah→Key→Prop):cH:=fun e tm h nx=>match e with
 |.norm|.ret=>∃l,resultsA h tm res=some l∧R (.ret (nM l)) h nx
 |.pan a=>R (.pan a) h nx
 |.exit _=>False
@[simp] theorem azt(res:List RV)(R:Out→T ah→Key→Prop)(tm:T AV)(h:T ah)(nx:Key):abc res R .ret tm h nx=∃l,resultsA h tm res=some l∧R (.ret (nM l)) h nx:=yC Iff.rfl
@[simp] theorem axb(res:List RV)(R:Out→T ah→Key→Prop)(tm:T AV)(h:T ah)(nx:Key):abc res R .norm tm h nx=∃l,resultsA h tm res=some l∧R (.ret (nM l)) h nx:=yC Iff.rfl
theorem FnR.call{C:bP}{f:Nat}{p:fq}(S:FnR C f p){l:List AV}{h:T ah}{nx:Key}{R:Out→T ah→Key→Prop}(hw:iT C p.body (abc p.res R) (ic l (K 0) .nil) h nx):aJ C f l h nx R:=by
 refine aJ.of_wp (S.off _ _ _) S.get ?_;have e:CT C f p.res R=abc p.res R:=by funext e tm h nx;cases e<;>simp only[CT,abc,S.ma]<;>rfl
 rw[e];exact hw
def Gro(c:AV)(os:List Op)(h:T ah)(nx n0:Key):Prop:=(c=.nils∧os=[])∨∃b:Key,c=.slice b 0 os.length 10∧ag b h=some (.cells (aq eO os) .part)∧n0.toNat≤b.toNat∧b.toNat<nx.toNat
theorem Gro.ext{c:AV}{os:List Op}{h h':T ah}{nx nx' n0:Key}(g:Gro c os h nx n0)(e:Ext h nx h' nx'):Gro c os h' nx' n0:=by
 rcases g with g|⟨b,h1,h2,h3,h4⟩
 ·exact .inl g
 ·exact .inr ⟨b,h1,by rw[e.g b h4];exact h2,h3,by have:=e.n;omega⟩
theorem Gro.ne{c:AV}{os:List Op}{h h':T ah}{nx nx' n0 k:Key}(g:Gro c os h nx n0)(hn:nx.toNat≤nx'.toNat)(hk:∀l,ag k h≠some (.cells l .part))(e:∀b:Key,b.toNat<nx.toNat→b≠k→ag b h'=ag b h):Gro c os h' nx' n0:=by
 rcases g with g|⟨b,h1,h2,h3,h4⟩
 ·exact .inl g
 ·exact .inr ⟨b,h1,by rw[e b h4 (fun q=>by subst q;exact hk _ h2)];exact h2,h3,by omega⟩
theorem Gro.add{c:AV}{os:List Op}{h:T ah}{nx n0:Key}(g:Gro c os h nx n0)(h0:n0.toNat≤nx.toNat)(hl:os.length≤1000)(y:Op) :
  ∃c' h' nx',appendTo 10 c (eO y) 1 h nx=.val c' h' nx'∧Gro c' (os ++ [y]) h' nx' n0∧nx.toNat≤nx'.toNat∧(∀b:Key,b.toNat<n0.toNat→ag b h'=ag b h)∧∀b:Key,b.toNat<nx.toNat→(∀l,ag b h≠some (.cells l .part))→ag b h'=ag b h:=by
 have s1:=kTSu nx;have hc:(eO y).all AV.aM=true:=sF.2 (gV.cell y);rcases g with⟨rfl,rfl⟩|⟨b,rfl,h2,h3,h4⟩
 ·exact⟨.slice nx 0 1 10,aw nx (some (.cells (eO y) .part)) h,nx.succ,by simp,.inr ⟨nx,rfl,by simp[iC],h0,by omega⟩,by omega,fun b hb=>aA (by omega),fun b hb _=>aA hb⟩
 ·have hr:=gV.rows os;have WA:os.length+1≤1048576:=by omega
  refine⟨.slice nx 0 (os.length+1) 10,aw nx (some (.cells (aq eO os++eO y) .part)) (aw b none h),nx.succ,?_,.inr ⟨nx,by simp,by rw[ju,iC];simp,h0,by omega⟩,by omega,fun x hx=>?_,fun x hx hk=>?_⟩
  ·simp[WA,hc,h2,hr,Jb]
  ·rw[aA (by omega),aA (by omega)]
  ·rw[aA hx,aP];rintro rfl;exact hk _ h2
def Gf(s:Sc):List AV:=[I s.o0,I s.o1,I s.o2,I s.o3]
theorem ME(s:Sc):(Gf s).length=4:=rfl
theorem Rb(s:Sc){c:Nat}(h:c<4):(Gf s)[c]?=some (I (s.op c)):=by
 have:c=0∨c=1∨c=2∨c=3:=by omega
 rcases this with rfl|rfl|rfl|rfl<;>simp[Gf,Sc.op]
theorem Ym(s:Sc){c:Nat}(h:c<4)(v:Int):List.take c (Gf s)++I v ::List.drop (c+1) (Gf s)=Gf (s.set c v):=by
 have:c=0∨c=1∨c=2∨c=3:=by omega
 rcases this with rfl|rfl|rfl|rfl<;>simp[Gf,Sc.set]
abbrev Oe:aK:=(.block 4 (.seq (.ops jy)
 (.cond (.t (K 53))
 (.seq (.seq (.ops mS)
 (.cond (.t (K 56))
 (.seq (.ops uv)
 .ret)
 .skip))
 (.seq (.ops mT)
 (.ops mU)))
 (.seq (.ops mP)
 (.cond (.t (K 73))
 (.seq (.seq (.ops mV)
 (.cond (.t (K 76))
 (.seq (.ops uw)
 .ret)
 .skip))
 (.seq (.staged ux ⟨[K 77,K 78,K 79,K 80,K 81,K 82,K 83,K 84,K 85,K 86,K 87],[]⟩)
 (.ops uy)))
 (.seq (.ops ue)
 (.cond (.t (K 91))
 (.seq (.ops ug)
 (.block 5 (.loop xc)))
 .skip)))))))
structure At(ce:AV)(l:List Ev)(s:Sc)(i:Nat)(bo n0:Key)(tm:T AV)(h:T ah)(nx:Key):Prop where
 g8:ag (K 8) tm=some (.ptr bo 0)
 g35:ag (K 35) tm=some ce
 g36:ag (K 36) tm=some (I l.length)
 g37:ag (K 37) tm=some (I i)
 gro:∃c,ag (K 7) tm=some c∧Gro c s.ops h nx n0
 Gf:ag bo h=QZ (Gf s)
 bo0:n0.toNat≤bo.toNat
 bo1:bo.toNat<nx.toNat
variable{C:bP}
theorem ane{ce:AV}{l:List Ev}{s:Sc}{i:Nat}{bo n0 nb:Key}{x:Ev}{Q:cH}{tm:T AV}{h:T ah}{nx:Key}(A:At ce l s i bo n0 tm h nx)(hx:zk x=true)(hk:x.kind=0)(hl:s.ops.length≤1000)(bW:bo≠nb)(OV:nb.toNat<nx.toNat)
  (g9:ag (K 9) tm=some (I i)) (g10:ag (K 10) tm=some (.ptr nb 0)) (gb:ag nb h=QZ (eE x)) (g12:ag (K 12) tm=some (I (s.op x.client))) (g52:ag (K 52) tm=some (I x.kind))
  (zm:∀aD,vY s x=2→ag (K 2) aD=some .nils→ag (K 3) aD=some (I 20)→Q .ret aD h nx)
  (gJ:∀aD h' nx',vY s x=0→At ce l (kz i s x) i bo n0 aD h' nx'→(∀b:Key,b.toNat<n0.toNat→ag b h'=ag b h)→nx.toNat≤nx'.toNat→Q .norm aD h' nx') :
  iT C Oe Q tm h nx:=by
 have ZB:=hx;unfold zk at ZB;rw[decide_eq_true_eq]at ZB;obtain⟨_,_,c0,c3,_⟩:=ZB;obtain⟨g8,g35,g36,g37,⟨c7,g7,gro⟩,go,bo0,bo1⟩:=A;have hb:vY s x=if 0≤s.op x.client then 2 else 0:=by unfold vY;rw[hx];simp[hk]
 obtain⟨kind,client,⟨nl,nc⟩,args,res⟩:=x;have hk:kind=0:=hk;subst hk;obtain⟨c,rfl⟩:=Int.eq_ofNat_of_zero_le c0;have hc4:c<4:=by have:((c:Nat):Int)≤3:=c3;omega
 have hg:=Rb s hc4;have hp:=fun v=>Ym s hc4 v;have ol:=ME s;have AN:c≤3:=by omega
 simp;simp[jy,g52];by_cases ho:s.op c<0
 ·have UJ:vY s ⟨0,c,(nl,nc),args,res⟩=0:=by rw[hb,if_neg];simpa using ho
  simp[mS,g12,ho];have Xt:∀ls,ag bo h≠some (.cells ls .part):=fun ls e=>by rw[go]at e;cases e
  have ac:=du args;have af:∀n H,aS n (aV args) H=(aV args,H):=gx args;have s1:=kTSu nx;have aBz:Gro c7 s.ops (aw bo (QZ (Gf (s.set c s.ops.length))) h) nx n0:=gro.ne (fE _) Xt (fun b _ hb=>aP _ _ _ _ hb);have go1:ag bo (aw bo (QZ (Gf (s.set c s.ops.length))) h)=QZ (Gf (s.set c s.ops.length)):=by simp
  have gb1:ag nb (aw bo (QZ (Gf (s.set c s.ops.length))) h)=QZ (eE ⟨0,c,(nl,nc),args,res⟩):=by rw[aP _ _ _ _ (Ne.symm bW)];exact gb
  have aus:∀b:Key,b.toNat<n0.toNat→ag b (aw bo (QZ (Gf (s.set c s.ops.length))) h)=ag b h:=fun b hb=>aA (by omega);have fin:∀tm2:T AV,(∀k:Key,k=K 7∨k=K 8∨k=K 9∨k=K 10∨k=K 35∨k=K 36∨k=K 37→ag k tm2=ag k tm)→qy C (aG 4 Q) mU tm2 (aw bo (QZ (Gf (s.set c s.ops.length))) h) nx:=by
   intro tm2 q;have q7:=(q (K 7) (by simp)).trans g7;have q8:=(q (K 8) (by simp)).trans g8;have q9:=(q (K 9) (by simp)).trans g9;have q10:=(q (K 10) (by simp)).trans g10;generalize aw bo (QZ (Gf (s.set c s.ops.length))) h=h1 at aBz go1 gb1 aus ⊢;have amG:=aBz.ext (E0 h1 nx (.cells (eO (CW i ⟨0,c,(nl,nc),args,res⟩)) .fix));obtain⟨c',h',nx',ga,aI5,n3,aI6,aBA⟩:=amG.add (by omega) hl (CW i ⟨0,c,(nl,nc),args,res⟩);have ey:eO (CW i ⟨0,c,(nl,nc),args,res⟩)=[I c,I i,I (-1),I (-1),.str nl nc,aV args,I 0,I 0,.str 0 0,.nils]:=rfl;rw[ey]at ga;simp[-appendTo,mU,q7,q9,q10,gb1,eE,ac.1,ac.2,af,ga];have hn:kz i s ⟨0,c,(nl,nc),args,res⟩={s.set c s.ops.length with ops:=s.ops ++ [CW i ⟨0,c,(nl,nc),args,res⟩]}:=by unfold kz;simp
   refine gJ _ _ _ UJ ⟨by simp[q8],?_,?_,?_,⟨c',by simp,?_⟩,?_,bo0,by omega⟩ ?_ (by omega)
   ·simp;exact(q (K 35) (by simp)).trans g35
   ·simp;exact(q (K 36) (by simp)).trans g36
   ·simp;exact(q (K 37) (by simp)).trans g37
   ·rw[hn];exact aI5
   ·rw[hn,aBA bo (by omega) (fun ls e=>by rw[aA bo1,go1]at e;cases e),aA bo1,go1];rfl
   ·intro b fF;rw[aI6 b fF,aA (by omega),aus b fF]
  rcases gro with⟨e7,eo⟩|⟨b7,e7,hb7,_,aq3⟩
  ·rw[e7]at g7;have e0:s.ops.length=0:=by simp[eo]
   rw[e0]at fin;have hp0:=hp 0;simp[mT,g7,g8,g10,gb,eE,go,ol,hc4,hp0,hg,AN];refine fin _ ?_;rintro k (rfl|rfl|rfl|rfl|rfl|rfl|rfl)<;>simp[g7]
  ·rw[e7]at g7;have hp0:=hp s.ops.length;simp[mT,g7,g8,g10,gb,eE,go,ol,hc4,hp0,hg,AN];refine fin _ ?_;rintro k (rfl|rfl|rfl|rfl|rfl|rfl|rfl)<;>simp[g7]
 ·have UJ:vY s ⟨0,c,(nl,nc),args,res⟩=2:=by rw[hb,if_pos];simpa using ho
  simp[mS,g12,ho];simp[uv];refine zm _ UJ ?_ ?_<;>simp
theorem axd{ce:AV}{l:List Ev}{s:Sc}{i:Nat}{bo n0 nb:Key}{x:Ev}{Q:cH}{tm:T AV}{h:T ah}{nx:Key}(A:At ce l s i bo n0 tm h nx)(hx:zk x=true)(hk:x.kind=1)(yI:s.op x.client<s.ops.length)(bW:bo≠nb)(OV:nb.toNat<nx.toNat)
  (g9:ag (K 9) tm=some (I i)) (g10:ag (K 10) tm=some (.ptr nb 0)) (gb:ag nb h=QZ (eE x)) (g12:ag (K 12) tm=some (I (s.op x.client))) (g52:ag (K 52) tm=some (I x.kind))
  (zm:∀aD,vY s x=3→ag (K 2) aD=some .nils→ag (K 3) aD=some (I 25)→Q .ret aD h nx)
  (gJ:∀aD h' nx',vY s x=0→At ce l (kz i s x) i bo n0 aD h' nx'→(∀b:Key,b.toNat<n0.toNat→ag b h'=ag b h)→nx.toNat≤nx'.toNat→Q .norm aD h' nx') :
  iT C Oe Q tm h nx:=by
 have ZB:=hx;unfold zk at ZB;rw[decide_eq_true_eq]at ZB;obtain⟨_,_,c0,c3,_⟩:=ZB;obtain⟨g8,g35,g36,g37,⟨c7,g7,gro⟩,go,bo0,bo1⟩:=A;have hb:vY s x=if s.op x.client<0 then 3 else 0:=by unfold vY;rw[hx];simp[hk]
 obtain⟨kind,client,⟨nl,nc⟩,args,res⟩:=x;have hk:kind=1:=hk;subst hk;obtain⟨c,rfl⟩:=Int.eq_ofNat_of_zero_le c0;have hc4:c<4:=by have:((c:Nat):Int)≤3:=c3;omega
 have hg:=Rb s hc4;have hp:=fun v=>Ym s hc4 v;have ol:=ME s;have AN:c≤3:=by omega
 simp;simp[jy,g52];simp[mP,g52];by_cases ho:s.op c<0
 ·have UJ:vY s ⟨1,c,(nl,nc),args,res⟩=3:=by rw[hb,if_pos];simpa using ho
  simp[mV,g12,ho];simp[uw];refine zm _ UJ ?_ ?_<;>simp
 ·have UJ:vY s ⟨1,c,(nl,nc),args,res⟩=0:=by rw[hb,if_neg];simpa using ho
  simp[mV,g12,ho];have yI:s.op c<s.ops.length:=yI;obtain⟨a,ha⟩:=Int.eq_ofNat_of_zero_le (show 0≤s.op c by omega);have hal:a<s.ops.length:=by omega
  rcases gro with⟨e7,eo⟩|⟨b7,e7,hb7,awt,aq3⟩
  ·rw[eo]at hal;simp at hal
  ·rw[e7]at g7;have aq4:b7≠bo:=by rintro rfl;rw[go]at hb7;simp at hb7
   have aI7:b7≠nb:=by rintro rfl;rw[gb]at hb7;simp at hb7
   have hr:=gV.rows s.ops;have p1:=gV.Nz (l:=s.ops) (j:=a) (off:=2) (vs:=[I i]) (y:={s.ops[a]with e:=i}) hal (by simp) rfl;have aI8:a<(s.ops.set a {s.ops[a]with e:=i}).length:=by simpa using hal
   have N9:=gV.rows (s.ops.set a {s.ops[a]with e:=i});have p2:=gV.Nz (l:=s.ops.set a {s.ops[a]with e:=i}) (j:=a) (off:=6) (vs:=eU res) (y:={s.ops[a]with e:=i,res:=res}) aI8 (by simp[eU]) (by simp[eO,eU]);simp[eU]at p1 p2 N9;rw[ha]at g12;have hb1:a*10+2<s.ops.length*10:=by omega
   have hb2:a*10+2+1≤s.ops.length*10:=by omega
   have hb3:a*10+6+4≤s.ops.length*10:=by omega
   have gnb:∀B,ag nb (aw b7 B h)=QZ (eE ⟨1,c,(nl,nc),args,res⟩):=fun B=>by rw[aP _ _ _ _ (Ne.symm aI7)];exact gb
   have gbo:∀B,ag bo (aw b7 B h)=QZ (Gf s):=fun B=>by rw[aP _ _ _ _ (Ne.symm aq4)];exact go
   have hbr:AV.beq (.agg [I res.k,I res.n,.str 0 0,.nils]) (.agg [I res.k,I res.n,.str 0 0,.nils])=true:=beq_refl _ rfl;simp[ux,g7,g9,g10,g12,gb,eE,hal,hb7,hr,N9,hb2,hb3,p1,p2,gnb,hbr];have hp1:=hp (-1);simp[uy,g8,g10,gnb,gbo,eE,ol,hc4,hp1,AN];have hn:kz i s ⟨1,c,(nl,nc),args,res⟩={s.set c (-1)with ops:=s.ops.modify a fun o=>{o with e:=i,res:=res}}:=by unfold kz;simp[ha]
   have hm:s.ops.modify a (fun o=>{o with e:=(i:Int),res:=res})=s.ops.set a {s.ops[a]with e:=i,res:=res}:=by
    apply List.ext_getElem?;intro q;rw[List.getElem?_modify,List.getElem?_set];by_cases hq:a=q
    ·subst hq;simp[hal]
    ·simp[hq]
   refine gJ _ _ _ UJ ⟨by simp[g8],by simp[g35],by simp[g36],by simp[g37],⟨.slice b7 0 s.ops.length 10,by simp[g7],.inr ⟨b7,?_,?_,awt,aq3⟩⟩,?_,bo0,bo1⟩ ?_ (fE _)
   ·rw[hn];simp
   ·rw[hn];show ag b7 _=some (ah.cells (aq eO (s.ops.modify a _)) CK.part);rw[hm,aP _ _ _ _ aq4];simp
   ·rw[hn];simp;rfl
   ·intro b fF;rw[aA (by omega),aA (by omega)]
end Ln
namespace Ln
open Go.Sx Go
def zK(i:Nat)(s:Sc):Nat→List Op
 |0=>s.ops
 |j+1=>nQ i (s.op j) (zK i s j)
def clr(s:Sc):Nat→Sc
 |0=>s
 |j+1=>(clr s j).set j (-1)
theorem aaQ(i:Nat)(v:Int)(l:List Op):(nQ i v l).length=l.length:=by unfold nQ;split<;>simp
theorem WM(i:Nat)(s:Sc):∀j,(zK i s j).length=s.ops.length
 |0=>rfl
 |j+1=>by show(nQ i (s.op j) (zK i s j)).length=_;rw[aaQ,WM i s j]
theorem amD{i a:Nat}{v:Int}{l:List Op}(hv:v=a)(ha:a<l.length):nQ i v l=l.set a {l[a]with lost:=i}:=by
 subst hv;unfold nQ;rw[if_pos (by omega)];apply List.ext_getElem?;intro q;rw[List.getElem?_modify,List.getElem?_set];by_cases hq:a=q
 ·subst hq;simp[ha]
 ·simp[hq]
theorem aq1{i:Nat}{v:Int}{l:List Op}(hv:v<0):nQ i v l=l:=by unfold nQ;rw[if_neg (by omega)]
def SwI(ce:AV)(l:List Ev)(s:Sc)(i:Nat)(bo n0:Key)(h:T ah)(nx:Key)(c7:AV)(m:Nat)(aD:T AV)(h':T ah)(nx':Key):Prop:=∃j:Nat,m=4-j∧j≤4∧nx'=nx∧
 ag (K 7) aD=some c7∧ag (K 8) aD=some (.ptr bo 0)∧ag (K 9) aD=some (I i)∧ag (K 35) aD=some ce∧ag (K 36) aD=some (I l.length)∧ag (K 37) aD=some (I i)∧
 ag (K 93) aD=some (.agg (Gf s))∧ag (K 94) aD=some (I j)∧Gro c7 (zK i s j) h' nx n0∧ag bo h'=QZ (Gf (clr s j))∧(∀b:Key,b.toNat<n0.toNat→ag b h'=ag b h)
variable{C:bP}
theorem amE{ce:AV}{l:List Ev}{s:Sc}{i:Nat}{bo n0:Key}{x:Ev}{Q:cH}{tm:T AV}{h:T ah}{nx:Key}(A:At ce l s i bo n0 tm h nx)(hx:zk x=true)(hk:x.kind=2)(yI:∀c,0≤c→c≤3→s.op c<s.ops.length)(hl:s.ops.length≤1000)
  (g9:ag (K 9) tm=some (I i)) (g52:ag (K 52) tm=some (I x.kind))
  (gJ:∀aD h' nx',vY s x=0→At ce l (kz i s x) i bo n0 aD h' nx'→(∀b:Key,b.toNat<n0.toNat→ag b h'=ag b h)→nx.toNat≤nx'.toNat→Q .norm aD h' nx') :
  iT C Oe Q tm h nx:=by
 obtain⟨g8,g35,g36,g37,⟨c7,g7,gro⟩,go,bo0,bo1⟩:=A;have UJ:vY s x=0:=by unfold vY;rw[hx];simp[hk]
 have hn:kz i s x=⟨nQ i s.o3 (nQ i s.o2 (nQ i s.o1 (nQ i s.o0 s.ops))),-1,-1,-1,-1⟩:=by unfold kz;simp[hk]
 rw[hk]at g52;simp;simp[jy,g52];simp[mP,g52];simp[ue,g52];have ol:=ME s;have ot:List.take 4 (Gf s)=Gf s:=rfl;have oz:∀H,aS 9999 (.agg (Gf s)) H=(.agg (Gf s),H):=fun H=>by simp[Gf]
 simp[ug,g8,go,ol,ot,oz];refine W.fh (n:=4) (SwI ce l s i bo n0 h nx c7) ?_ ?_
 ·refine⟨0,rfl,by omega,rfl,?_,?_,?_,?_,?_,?_,?_,?_,gro,go,fun _ _=>rfl⟩<;>simp[*]
 ·rintro m dc h1 bw ⟨j,rfl,hj,rfl,g7,g8,g9,g35,g36,g37,g93,g94,gro,go,ajq⟩;refine W.of ?_;simp[xc];simp[CO,g94];refine⟨fun cQ=>?_,fun P9=>?_⟩
  ·have hj4:j<4:=by omega
   have hj3:j≤3:=by omega
   have hg:=Rb s hj4;have hp:=Ym (clr s j) hj4 (-1);have ol2:=ME (clr s j);have hjb:=yI j (by omega) (by omega);have hlen:=WM i s j;simp[CP,g93,g94,hj4,hg];have fin:∀(tm2:T AV) (h2:T ah),(∀k:Key,k=K 7∨k=K 8∨k=K 9∨k=K 35∨k=K 36∨k=K 37∨k=K 93∨k=K 94→ag k tm2=ag k dc)→ag (K 13) tm2=some (I j)→Gro c7 (zK i s (j+1)) h2 bw n0→ag bo h2=QZ (Gf (clr s j))→(∀b:Key,b.toNat<n0.toNat→ag b h2=ag b h)→
     qy C (aG 6 (aW (iT C (.ops uh) (aW (fun tm h' nx=>∃m,m<4-j∧SwI ce l s i bo n0 h bw c7 m tm h' nx) (aG 5 (aG 4 Q)))) (aW (fun tm h' nx=>∃m,m<4-j∧SwI ce l s i bo n0 h bw c7 m tm h' nx) (aG 5 (aG 4 Q))))) ui tm2 h2 bw:=by
    intro tm2 h2 q q13 amG go2 aHF;have q7:=(q (K 7) (by simp)).trans g7;have q8:=(q (K 8) (by simp)).trans g8;have q9:=(q (K 9) (by simp)).trans g9;have q35:=(q (K 35) (by simp)).trans g35;have q36:=(q (K 36) (by simp)).trans g36;have q37:=(q (K 37) (by simp)).trans g37;have q93:=(q (K 93) (by simp)).trans g93;have q94:=(q (K 94) (by simp)).trans g94;simp[ui,q13,q8,go2,hj4,hj3,ol2,hp];simp[uh,q94];rw[aO (by omega) (by omega)];refine⟨4-(j+1),by omega,j+1,rfl,by omega,rfl,by simp[q7],by simp[q8],by simp[q9],by simp[q35],by simp[q36],by simp[q37],by simp[q93],by simp,?_,by simp[clr],fun b hb=>?_⟩
    ·exact amG.ne (fE _) (fun ls e=>by rw[go2]at e;simp at e) (fun b _ hb=>aP _ _ _ _ hb)
    ·rw[aA (by omega)];exact aHF b hb
   by_cases ho:s.op j<0
   ·simp[uj,ho];refine fin _ h1 ?_ ?_ ?_ go ajq
    ·rintro k (rfl|rfl|rfl|rfl|rfl|rfl|rfl|rfl)<;>simp
    ·simp
    ·show Gro c7 (nQ i (s.op j) (zK i s j)) h1 bw n0;rw[aq1 ho];exact gro
   ·obtain⟨a,ha⟩:=Int.eq_ofNat_of_zero_le (show 0≤s.op j by omega);have hal:a<(zK i s j).length:=by omega
    have ho2:¬(a:Int)<0:=by omega
    rcases gro with⟨e7,eo⟩|⟨b7,e7,hb7,awt,aq3⟩
    ·rw[eo]at hal;simp at hal
    ·have g7':=g7;rw[e7]at g7;have aq4:b7≠bo:=by rintro rfl;rw[go]at hb7;simp at hb7
     have hr:=gV.rows (zK i s j);have p1:=gV.Nz (l:=zK i s j) (j:=a) (off:=3) (vs:=[I i]) (y:={(zK i s j)[a]with lost:=i}) hal (by simp) rfl;simp at p1;have hb2:a*10+3+1≤(zK i s j).length*10:=by omega
     simp[uj,ha,ho2];simp[CQ,g7,g9,hal,hb7,hr,hb2,p1];refine fin _ _ ?_ ?_ ?_ ?_ ?_
     ·rintro k (rfl|rfl|rfl|rfl|rfl|rfl|rfl|rfl)<;>simp[g7]
     ·simp
     ·refine .inr ⟨b7,by rw[e7];simp[zK,aaQ],?_,awt,aq3⟩;show _=some (ah.cells (aq eO (nQ i (s.op j) (zK i s j))) CK.part);rw[amD ha hal];simp
     ·rw[aP _ _ _ _ (Ne.symm aq4)];exact go
     ·intro b hb;rw[aA (by omega)];exact ajq b hb
  ·have:j=4:=by omega
   subst this;refine gJ _ _ _ UJ ⟨by simp[g8],by simp[g35],by simp[g36],by simp[g37],⟨c7,by simp[g7],?_⟩,?_,bo0,bo1⟩ ajq (fE _)
   ·rw[hn];have:zK i s 4=nQ i s.o3 (nQ i s.o2 (nQ i s.o1 (nQ i s.o0 s.ops))):=by simp[zK,Sc.op]
    rw[this]at gro;exact gro
   ·rw[hn,go];simp[clr,Sc.set,Gf]
end Ln
namespace Go.Sx
open Go
def Gr(z:Nat)(c:AV)(l:List AV)(len:Nat)(h:T ah)(nx:Key)(ob:Option Key):Prop:=
 (c=.nils∧l=[]∧len=0∧ob=none)∨(∃(b:Key) (k:CK),ob=some b∧c=.slice b 0 len z∧ag b h=some (.cells l k)∧b.toNat<nx.toNat∧l.length=len*z∧(k=.part∨k=.fix))∨
 (∃t:Key,ob=some t∧c=.sl l len z (.tok t)∧ag t h=some .tok∧t.toNat<nx.toNat)
structure Qs(h:T ah)(nx:Key)(ob:Option Key)(h':T ah)(nx':Key)(ob':Option Key):Prop where
 n:nx.toNat≤nx'.toNat
 g:∀b:Key,b.toNat<nx.toNat→ob≠some b→ag b h'=ag b h
 o:ob'=ob∨∃b:Key,ob'=some b∧nx.toNat≤b.toNat
theorem Qs.refl(h:T ah)(nx:Key)(ob:Option Key):Qs h nx ob h nx ob:=⟨fE _,fun _ _ _=>rfl,.inl rfl⟩
theorem Qs.ahp{h h':T ah}{nx nx':Key}(e:Ext h nx h' nx')(ob:Option Key):Qs h nx ob h' nx' ob:=⟨e.n,fun b hb _=>e.g b hb,.inl rfl⟩
theorem Qs.ne{h h':T ah}{nx nx' b:Key}{ob ob':Option Key}(a:Qs h nx ob h' nx' ob')(hb:b.toNat<nx.toNat)(hn:ob≠some b):ob'≠some b:=by
 rcases a.o with e|⟨x,e,hx⟩
 ·rw[e];exact hn
 ·rw[e];intro q;cases q;omega
theorem Qs.trans{h h' h2:T ah}{nx nx' n2:Key}{ob ob' o2:Option Key}(a:Qs h nx ob h' nx' ob')(b:Qs h' nx' ob' h2 n2 o2):Qs h nx ob h2 n2 o2:=by
 have h1:=a.n;refine⟨Nat.le_trans a.n b.n,fun x hx hn=>?_,?_⟩
 ·rw[b.g x (by omega) (a.ne hx hn)];exact a.g x hx hn
 ·rcases b.o with e|⟨y,e,hy⟩
  ·rw[e];exact a.o
  ·exact .inr ⟨y,e,by omega⟩
section
variable{z:Nat}{c:AV}{l new:List AV}{len m:Nat}{h h':T ah}{nx nx':Key}{ob:Option Key}
theorem Gr.nil(z:Nat)(h:T ah)(nx:Key):Gr z .nils [] 0 h nx none:=.inl ⟨rfl,rfl,rfl,rfl⟩
theorem Gr.lt(g:Gr z c l len h nx ob):∀b,ob=some b→b.toNat<nx.toNat:=by
 intro b hb;rcases g with⟨_,_,_,e⟩|⟨b',k,e,_,_,h4,_⟩|⟨t,e,_,_,h4⟩
 ·rw[hb]at e;cases e
 ·rw[hb]at e;cases e;exact h4
 ·rw[hb]at e;cases e;exact h4
theorem Gr.cv(g:Gr z c l len h nx ob)(hn:nx.toNat≤nx'.toNat)(hk:∀b,ob=some b→ag b h'=ag b h):Gr z c l len h' nx' ob:=by
 rcases g with g|⟨b,k,e,h1,h2,h3,h4⟩|⟨t,e,h1,h2,h3⟩
 ·exact .inl g
 ·exact .inr (.inl ⟨b,k,e,h1,by rw[hk b e];exact h2,by omega,h4⟩)
 ·exact .inr (.inr ⟨t,e,h1,by rw[hk t e];exact h2,by omega⟩)
theorem Gr.ext(g:Gr z c l len h nx ob)(e:Ext h nx h' nx'):Gr z c l len h' nx' ob:=g.cv e.n fun b hb=>e.g b (g.lt b hb)
theorem Gr.add(g:Gr z c l len h nx ob)(hw:Jb z=false)(hz:0<z)(hm:0<m)(hs:∀x∈l,KD x)(hn:new.length=m*z)(hl:len+m≤1048576)(hc:new.all AV.aM=true) :
  ∃c' h' nx' ob',appendTo z c new m h nx=.val c' h' nx'∧Gr z c' (l++new) (len+m) h' nx' ob'∧Qs h nx ob h' nx' ob':=by
 have s1:=kTSu nx;have NY:m≠0:=by omega
 rcases g with⟨rfl,rfl,rfl,rfl⟩|⟨b,k,rfl,rfl,h2,h3,h4,hk⟩|⟨t,rfl,rfl,h2,h3⟩
 ·have MI:m≤1048576:=by omega
  exact⟨.slice nx 0 m z,aw nx (some (.cells new .part)) h,nx.succ,some nx,by simp[NY,MI],.inr (.inl ⟨nx,.part,rfl,by simp,by simp,by omega,by simpa using hn,.inl rfl⟩),by omega,fun b hb _=>aA hb,.inr ⟨nx,rfl,fE _⟩⟩
 ·rcases hk with rfl|rfl
  ·refine⟨.sl (l++new) (len+m) z (.tok nx),aw nx (some .tok) (aw b none h),nx.succ,some nx,?_,.inr (.inr ⟨nx,rfl,by simp,by simp,by omega⟩),by omega,fun x hx hk=>?_,.inr ⟨nx,rfl,fE _⟩⟩
   ·simp[hl,hc,h2,h4,NY,hw]
   ·rw[aA hx,aP];rintro rfl;exact hk rfl
  ·have Pt:¬(len+m)*z≤len*z:=by rw[Nat.add_mul];have:=Nat.mul_pos hm hz;omega
   have Yl:bA (aS 9999) l h=(l,h):=bF hs;have htl:List.take (len*z) l=l:=Lm (by omega);refine⟨.slice nx 0 (len+m) z,aw nx (some (.cells (l++new) .part)) h,nx.succ,some nx,?_,.inr (.inl ⟨nx,.part,rfl,rfl,by simp,by omega,by rw[DG,h4,hn,Nat.add_mul],.inl rfl⟩),by omega,fun b hb _=>aA hb,.inr ⟨nx,rfl,fE _⟩⟩;simp[hl,hc,h2,h4,Pt,htl,Yl]
 ·refine⟨.sl (l++new) (len+m) z (.tok nx),aw nx (some .tok) (aw t none h),nx.succ,some nx,?_,.inr (.inr ⟨nx,rfl,by simp,by simp,by omega⟩),by omega,fun x hx hk=>?_,.inr ⟨nx,rfl,fE _⟩⟩
  ·simp[hl,hc,h2,NY]
  ·rw[aA hx,aP];rintro rfl;exact hk rfl
theorem Gr.Z7{α:Type}{enc:α→List AV}(F:Flat z enc){us:List α}(g:Gr z c (aq enc us) us.length h nx ob)(hw:Jb z=false)(hz:0<z)(hl:us.length+1≤1048576)(x:α) :
  ∃c' h' nx' ob',appendTo z c (enc x) 1 h nx=.val c' h' nx'∧Gr z c' (aq enc (us ++ [x])) (us ++ [x]).length h' nx' ob'∧Qs h nx ob h' nx' ob':=by
 obtain⟨c',h',nx',ob',a,b,r⟩:=g.add (new:=enc x) (m:=1) hw hz (by omega) (F.FM us) (by rw[F.len,Nat.one_mul]) hl (sF.2 (F.cell x));exact⟨c',h',nx',ob',a,by rw[ju,iC,DG];exact b,r⟩
end
def Rd(z:Nat)(c:AV)(l:List AV)(len:Nat)(h:T ah)(nx:Key):Prop:=(c=.nils∧l=[]∧len=0)∨(∃f,c=.sl l len z f)∨∃(b:Key) (k:CK),c=.slice b 0 len z∧ag b h=some (.cells l k)∧b.toNat<nx.toNat∧l.length=len*z
theorem Gr.rd{z:Nat}{c:AV}{l:List AV}{len:Nat}{h:T ah}{nx:Key}{ob:Option Key}(g:Gr z c l len h nx ob):Rd z c l len h nx:=by
 rcases g with⟨h1,h2,h3,_⟩|⟨b,k,_,h1,h2,h3,h4,_⟩|⟨t,_,h1,_⟩
 ·exact .inl ⟨h1,h2,h3⟩
 ·exact .inr (.inr ⟨b,_,h1,h2,h3,h4⟩)
 ·exact .inr (.inl ⟨_,h1⟩)
theorem nW.rde{α:Type}{z:Nat}{enc:α→List AV}{c:AV}{l:List α}(g:nW z enc c l)(h:T ah)(nx:Key):Rd z c (aq enc l) l.length h nx:=by
 rcases g with⟨rfl,rfl⟩|rfl
 ·exact .inl ⟨rfl,rfl,rfl⟩
 ·exact .inr (.inl ⟨_,rfl⟩)
theorem Rd.ext{z:Nat}{c:AV}{l:List AV}{len:Nat}{h h':T ah}{nx nx':Key}(g:Rd z c l len h nx)(e:Ext h nx h' nx'):Rd z c l len h' nx':=by
 rcases g with g|g|⟨b,k,h1,h2,h3,h4⟩
 ·exact .inl g
 ·exact .inr (.inl g)
 ·exact .inr (.inr ⟨b,k,h1,by rw[e.g b h3];exact h2,by have:=e.n;omega,h4⟩)
def IN(z i:Nat):AV→AV
 |.sl l _ _ _=>.cref (List.take z (List.drop (i*z) l))
 |.slice b off _ _=>.ptr b (off+i*z)
 |_=>.nils
theorem Rd.ix{z:Nat}{c:AV}{α:Type}{enc:α→List AV}(F:Flat z enc){us:List α}{h:T ah}{nx:Key}(g:Rd z c (aq enc us) us.length h nx){i:Nat}(hi:i<us.length){C:bP}{Q:cH}{L:List aC}{tm:T AV}{n2 k1 k2 d1 d2:Key}(h1:ag k1 tm=some c)(h2:ag k2 tm=some (I i)) :
  qy C Q (⟨some d1,.indexL z (.t k1) (.t k2),none⟩ ::⟨some d2,.load true z (.t d1),none⟩ ::L) tm h n2=qy C Q L (aw d2 (some (.agg (enc us[i]))) (aw d1 (some (IN z i c)) tm)) h n2:=by
 have hr:=F.rows us;have he:=F.at hi;have hl:=F.len us[i];have tx:z≤us.length*z-i*z:=by rw[←Nat.sub_mul];exact Nat.le_mul_of_pos_left z (by omega)
 have tk:List.take z (enc us[i])=enc us[i]:=Lm (by omega);rcases g with⟨_,_,e⟩|⟨f,rfl⟩|⟨b,k,rfl,hb,_,_⟩
 ·omega
 ·simp[h1,h2,hi,hr,tx,he,hl,tk,IN]
 ·simp[h1,h2,hi,hr,tx,he,hl,tk,IN,hb]
theorem Rd.ln{z:Nat}{c:AV}{l:List AV}{len:Nat}{h:T ah}{nx:Key}(g:Rd z c l len h nx){C:bP}{Q:cH}{L:List aC}{tm:T AV}{h2:T ah}{n2 k1 d1:Key}(h1:ag k1 tm=some c) :
  qy C Q (⟨some d1,.lenL (.t k1),none⟩ ::L) tm h2 n2=qy C Q L (aw d1 (some (I len)) tm) h2 n2:=by
 rcases g with⟨rfl,_,rfl⟩|⟨f,rfl⟩|⟨b,k,rfl,_⟩
 ·simp[h1]
 ·simp[h1]
 ·simp[h1]
end Go.Sx
namespace Ln
open Go.Sx Go
def sc0:Sc:=⟨[],-1,-1,-1,-1⟩
theorem kp0:Kp [] sc0:=by
 refine⟨rfl,?_,?_,?_,?_⟩
 ·intro c a b;unfold sc0 Sc.op kC;repeat' split<;>simp
 ·intro c _;unfold sc0 Sc.op;simp
 ·intro c a b h;unfold sc0 Sc.op at h;simp at h
 ·intro j o h;simp[sc0]at h
theorem Kp.lt{p:List Ev}{s:Sc}(h:Kp p s):∀c,0≤c→c≤3→s.op c<s.ops.length:=by
 intro c a b;by_cases h0:0≤s.op c
 ·obtain⟨o,h1,_⟩:=h.here c a b h0;have:=(List.getElem?_eq_some_iff.1 h1).1;omega
 ·omega
def ScI(ce:AV)(l:List Ev)(bo:Key)(h:T ah)(nx:Key)(m:Nat)(aD:T AV)(h':T ah)(nx':Key):Prop:=∃(i:Nat) (s:Sc),m=l.length-i∧i≤l.length∧At ce l s i bo nx aD h' nx'∧Kp (l.take i).reverse s∧scan 0 sc0 l=scan i s (l.drop i)∧Ext h nx h' nx'
def auU(l:List Ev)(h:T ah)(nx:Key)(o:Out)(h':T ah)(nx':Key):Prop:=(∃c,o=.ret (.tuple [c,I (Gt (cM [] l))])∧Gro c (if cM [] l=0 then aR 0 l else []) h' nx' nx)∧Ext h nx h' nx'
variable{C:bP}{X:Kn}(S:Std C X)
include S
omit S in
theorem Ue{l:List Ev}{s:Sc}{i:Nat}{x:Ev}{t:List Ev}{n:Nat}(hs:scan 0 sc0 l=scan i s (x ::t))(hb:vY s x=n+1):cM [] l=n+1:=by
 have h1:=abU l;have h2:scan i s (x ::t)=(n+1,[]):=by show(match vY s x with|0=>scan (i+1) (kz i s x) t|n=>(n,[]))=_;rw[hb];rfl
 have:(⟨[],-1,-1,-1,-1⟩:Sc)=sc0:=rfl;rw[this,hs,h2]at h1;exact(congrArg Prod.fst h1).symm
omit S in
theorem ao8{l:List Ev}{s:Sc}{i:Nat}(hs:scan 0 sc0 l=scan i s []):cM [] l=0∧aR 0 l=s.ops:=by have h1:=abU l;have:(⟨[],-1,-1,-1,-1⟩:Sc)=sc0:=rfl;have h2:scan i s []=(0,s.ops):=rfl;rw[this,hs,h2]at h1;have h3:=(congrArg Prod.fst h1).symm;have h4:=(congrArg Prod.snd h1).symm;simp only at h3 h4;rw[if_pos h3]at h4;exact⟨h3,h4⟩
theorem agH{ce:AV}{l:List Ev}(hl:adD l){h:T ah}{nx:Key}(hR:Rd 8 ce (aq eE l) l.length h nx){dc:T AV}{h1:T ah}{bw bo:Key}{s:Sc}{i:Nat}{Q:cH}(hi:i<l.length)(A:At ce l s i bo nx dc h1 bw)(kp:Kp (l.take i).reverse s)(hs:scan 0 sc0 l=scan i s (l.drop i))(e1:Ext h nx h1 bw)
  (Gb:∀aD h' nx',ag (K 2) aD=some .nils→ag (K 3) aD=some (I (Gt (cM [] l)))→cM [] l≠0→Ext h nx h' nx'→Q .ret aD h' nx')
  (acU:∀aD h' nx' m,m<l.length-i→ScI ce l bo h nx m aD h' nx'→Q .norm aD h' nx') :
  iT C pt Q dc h1 bw:=by
 have aKP:=hl.len;have aKQ:=hl.beg;have rf:=S.r jv;have s1:=kTSu bw;have A':=A;obtain⟨g8,g35,g36,g37,⟨c7,g7,gro⟩,go,bo0,bo1⟩:=A';have hii:(i:Int)<l.length:=by omega
 have hlen:=nZ.rows l;have hR1:=hR.ext e1;have hix:=fun {Q:cH} {L:List aC} {tm:T AV} {k1 k2 d1 d2:Key} (yG:ag k1 tm=some ce) (Nq:ag k2 tm=some (I i))=>hR1.ix nZ hi (C:=C) (Q:=Q) (L:=L) (tm:=tm) (n2:=bw) (k1:=k1) (k2:=k2) (d1:=d1) (d2:=d2) yG Nq;have Is:=hl.args _ (LA hi);have hz:∀H,aS 9999 (.agg (eE l[i])) H=(.agg (eE l[i]),H):=fun H=>by have:=bF (n:=9998) (l:=eE l[i]) (h:=H) (nZ.wU _);simp only[WR];rw[this]
 have he:List.take 8 (eE l[i])=eE l[i]:=rfl;have hl8:(eE l[i]).length=8:=rfl;have hac:(eE l[i]).all AV.aM=true:=sF.2 (nZ.cell _);rw[zqt hi]at hs;have Nu:(l.take (i+1)).reverse=l[i] ::(l.take i).reverse:=by rw[zqu hi];simp
 have xz:(l.take i).reverse.length=i:=by simp;omega
 generalize l[i]=x at *;simp[pt];simp[uO,g36,g37,hii];simp only[De,sM,xK,xL,sN,xM,sO,xN,xO,sP,sQ,xP,xQ,xR,xS];simp[↓hix,g35,g37,he,hl8,hac];simp[Df,rf,he,hl8,hz];have Gi:=e1.trans (E0 h1 bw (.cells (eE x) .fix));refine(aeh S x Is _ _).mono ?_;rintro o h2 bu ⟨rfl,e2⟩;have e12:=Gi.trans e2;have gb2:ag bw h2=QZ (eE x):=by rw[e2.g bw (by omega)];simp
 have go2:ag bo h2=QZ (Gf s):=by rw[e2.g bo (by omega),aA bo1];exact go
 have amG:Gro c7 s.ops h2 bu nx:=(gro.ext (E0 h1 bw (.cells (eE x) .fix))).ext e2;have n2:=e2.n;simp;cases pB:zk x with
 |false=>
  simp[uP];simp[Dg];have hv:=Ue hs (n:=0) (by unfold vY;rw[pB];rfl);refine Gb _ _ _ ?_ ?_ (by omega) e12
  ·simp
  ·simp[hv,Gt]
 |true=>
  simp[uP];have hx2:0≤x.client∧x.client≤3:=by have h0:=pB;unfold zk at h0;rw[decide_eq_true_eq]at h0;exact⟨h0.2.2.1,h0.2.2.2.1⟩
  obtain⟨c,hc⟩:=Int.eq_ofNat_of_zero_le hx2.1;have hc4:c<4:=by omega
  have AN:c≤3:=by omega
  have hg:=Rb s hc4;have ol:=ME s;simp[Dh,g8,gb2,eE,hc,hc4,AN,go2,hg,ol];simp[Di,gb2,eE];have FQ:x.kind=0∨x.kind=1∨x.kind=2:=by unfold zk at pB;rw[decide_eq_true_eq]at pB;omega
  have bW:bo≠bw:=by rintro rfl;omega
  have sol:s.ops.length≤1000:=by have:=Tf (l.take i) 0;have h3:=kp.ops;rw[List.reverse_reverse]at h3;rw[h3];simp at this;omega
  have hcx:x.client=(c:Int):=hc;have fin:∀(Eu:T AV) (h3:T ah) (dZ:Key),vY s x=0→At ce l (kz i s x) i bo nx Eu h3 dZ→(∀b:Key,b.toNat<nx.toNat→ag b h3=ag b h2)→bu.toNat≤dZ.toNat→
    (aG 3 (aW (iT C (.ops gT) Q) Q)) .norm Eu h3 dZ:=by
   intro Eu h3 dZ hb A3 low n3;obtain⟨a8,a35,a36,a37,⟨d7,a7,ax8⟩,ao,ab0,ab1⟩:=A3;simp;simp[gT,a37];rw[aO (by omega) (by omega)];refine acU _ _ _ (l.length-(i+1)) (by omega) ⟨i+1,kz i s x,rfl,by omega,⟨by simp[a8],by simp[a35],by simp[a36],by simp,⟨d7,by simp[a7],ax8⟩,ao,ab0,ab1⟩,?_,?_,?_⟩
   ·have:=aik kp pB hb;rw[xz]at this;rw[Nu];exact this
   ·rw[hs];show(match vY s x with|0=>scan (i+1) (kz i s x) _|n=>(n,[]))=_;rw[hb];rfl
   ·exact⟨by have:=e12.n;omega,fun b hb=>by rw[low b hb];exact e12.g b hb⟩
  have hg2:∀hh,(Gf s)[c]'hh=I (s.op c):=fun hh=>by have:=pY hh;rw[hg]at this;exact(Option.some.inj this).symm
  simp only[hg2];have A2:∀Eu:T AV,(∀k:Key,k=K 7∨k=K 8∨k=K 35∨k=K 36∨k=K 37→ag k Eu=ag k dc)→At ce l s i bo nx Eu h2 bu:=fun Eu q=>
   ⟨(q (K 8) (by simp)).trans g8,(q (K 35) (by simp)).trans g35,(q (K 36) (by simp)).trans g36,(q (K 37) (by simp)).trans g37,⟨c7,(q (K 7) (by simp)).trans g7,amG⟩,go2,bo0,by omega⟩
  rcases FQ with k0|k0|k0
  ·have key:=fun Eu A g9 g10 g12 g52=>ane (C:=C) (Q:=aG 3 (aW (iT C (.ops gT) Q) Q)) (tm:=Eu) A pB k0 sol bW (by omega) g9 g10 gb2 g12 g52 (fun aD hb e2 e3=>by simp;have hv:=Ue hs (n:=1) hb;exact Gb _ _ _ e2 (by rw[hv];exact e3) (by omega) e12) (fun aD h' nx' hb A' low n=>fin aD h' nx' hb A' low n)
   simp only[Oe,jl,dO,fo]at key;refine key _ (A2 _ ?_) ?_ ?_ ?_ ?_
   ·rintro k (rfl|rfl|rfl|rfl|rfl)<;>simp
   all_goals simp[hcx]
  ·have key:=fun Eu A g9 g10 g12 g52=>axd (C:=C) (Q:=aG 3 (aW (iT C (.ops gT) Q) Q)) (tm:=Eu) A pB k0 (kp.lt _ hx2.1 hx2.2) bW (by omega) g9 g10 gb2 g12 g52 (fun aD hb e2 e3=>by simp;have hv:=Ue hs (n:=2) hb;exact Gb _ _ _ e2 (by rw[hv];exact e3) (by omega) e12) (fun aD h' nx' hb A' low n=>fin aD h' nx' hb A' low n)
   simp only[Oe,jl,dO,fo]at key;refine key _ (A2 _ ?_) ?_ ?_ ?_ ?_
   ·rintro k (rfl|rfl|rfl|rfl|rfl)<;>simp
   all_goals simp[hcx]
  ·have key:=fun Eu A g9 g52=>amE (C:=C) (Q:=aG 3 (aW (iT C (.ops gT) Q) Q)) (tm:=Eu) A pB k0 kp.lt sol g9 g52 (fun aD h' nx' hb A' low n=>fin aD h' nx' hb A' low n);simp only[Oe,jl,dO,fo]at key;refine key _ (A2 _ ?_) ?_ ?_
   ·rintro k (rfl|rfl|rfl|rfl|rfl)<;>simp
   all_goals simp
theorem ap6{ev:AV}{l:List Ev}(hl:adD l)(h:T ah)(nx:Key)(hv:Rd 8 ev (aq eE l) l.length h nx):aJ C l7 [ev] h nx (auU l h nx):=by
 have aKP:=hl.len;have aKQ:=hl.beg;have s1:=kTSu nx;refine S.HP.call ?_;simp[Ed];simp[Fu];simp[Fv];have NO:∀{c:AV} {h':T ah} {nx':Key} {s:Sc} {i:Nat},scan 0 sc0 l=scan i s []→Gro c s.ops h' nx' nx→Ext h nx h' nx'→auU l h nx (.ret (.tuple [c,I 0])) h' nx':=by intro c h' nx' s i hs g e;obtain⟨h1,h2⟩:=ao8 hs;refine⟨⟨c,by rw[h1];rfl,?_⟩,e⟩;rw[if_pos h1,h2];exact g
 simp[↓hv.ln,Fw]
 ·refine W.fh (n:=l.length) (fun m aD h' nx'=>∃j b:Nat,m=l.length-j∧j≤l.length∧b≤(aR 0 (l.take j)).length∧ag (K 0) aD=some ev∧ag (K 15) aD=some ev∧ag (K 16) aD=some (I l.length)∧ag (K 17) aD=some (I j)∧ag (K 4) aD=some (I b)∧Ext h nx h' nx') ?_ ?_
  ·exact⟨0,0,by simp,by omega,by simp[aR],by simp,by simp,by simp,by simp,by simp,Ext.refl _ _⟩
  ·rintro m dc h1 bw ⟨j,b,rfl,hj,hb,g0,g15,g16,g17,g4,e1⟩;have s11:=kTSu bw;have hbj:=awb (l:=l) (j:=j);refine W.of ?_;have hR1:=hv.ext e1;simp[Fx];simp[Fy,g16,g17];refine⟨fun cQ=>?_,fun P9=>?_⟩
   ·have da:j<l.length:=by omega
    have hlen:=nZ.rows l;have hix:=fun {Q:cH} {L:List aC} {tm:T AV} {k1 k2 d1 d2:Key} (yG:ag k1 tm=some ev) (Nq:ag k2 tm=some (I j))=>hR1.ix nZ da (C:=C) (Q:=Q) (L:=L) (tm:=tm) (n2:=bw) (k1:=k1) (k2:=k2) (d1:=d1) (d2:=d2) yG Nq;have hac:(eE l[j]).all AV.aM=true:=sF.2 (nZ.cell _);have he:List.take 8 (eE l[j])=eE l[j]:=rfl;have hl8:(eE l[j]).length=8:=rfl;have hk0:(eE l[j])[0]?=some (I l[j].kind):=rfl;have e2:=e1.trans (E0 h1 bw (.cells (eE l[j]) .fix));simp only[Fz,sM,xK,xL,sN,xM,sO,xN,xO,sP,sQ,xP,xQ,xR,xS];simp[↓hix,g15,g17,he,hl8,hac];by_cases k0:l[j].kind=0
    ·simp[xm,hl8,k0,eE];simp[FB,g4];simp[xn,g17];rw[aO (by omega) (by omega),aO (by omega) (by omega)];exact⟨l.length-(j+1),by omega,j+1,rfl,by omega,b+1,by rw[aaP da,if_pos k0];omega,g0,g15,g16,by omega,by omega,by simpa[eE,k0]using e2⟩
    ·simp[xm,hl8,bq k0,eE];simp[xn,g17];rw[aO (by omega) (by omega)];exact⟨l.length-(j+1),by omega,j+1,rfl,by omega,b,by rw[aaP da,if_neg k0];omega,g0,g15,g16,by omega,g4,by simpa[eE]using e2⟩
   ·have aKS:¬(64:Int)<l.length:=by omega
    have aKT:l.take j=l:=Lm (by omega);have aKU:¬(16:Int)<b:=by rw[aKT]at hb;omega
    simp[↓hR1.ln,FC,g0,g4,aKS,aKU];simp[Dj];simp[Dk];have hR2:=hR1.ext (E0 h1 bw (.cells [I (-1),I (-1),I (-1),I (-1)] .fix));simp[↓hR2.ln,Dl,g0];have n1:=e1.n;refine W.fh (n:=l.length) (ScI ev l bw h nx) ?_ ?_
    ·refine⟨0,sc0,by simp,by omega,⟨by simp,by simp,by simp,by simp,⟨.nils,by simp,.inl ⟨rfl,rfl⟩⟩,by simp[Gf,sc0],by omega,by omega⟩,kp0,rfl,e1.trans (E0 h1 bw _)⟩
    ·rintro m tm2 h2 bu ⟨i,s,rfl,hi,A,kp,hs,e2⟩;by_cases RJ:i<l.length
     ·refine W.of (agH S hl hv RJ A kp hs e2 ?_ ?_)
      ·intro aD h' nx' q2 q3 hv e';simp[q2,q3];exact⟨⟨.nils,rfl,.inl ⟨rfl,by rw[if_neg hv]⟩⟩,e'⟩
      ·intro aD h' nx' m hm hI;simp;exact⟨m,hm,hI⟩
     ·have Qu:i=l.length:=by omega
      subst Qu;obtain⟨a8,a35,a36,a37,⟨d7,a7,ax8⟩,ao,ab0,ab1⟩:=A;refine W.of ?_;simp[pt];simp[uO,a36,a37];simp[Dm,a7];rw[List.drop_length]at hs;exact NO hs ax8 e2
end Ln
namespace Ln
open Go.Sx Go
variable{C:bP}{X:Kn}(S:Std C X)
include S
def ClI(l:List U)(b:Key)(h:T ah)(nx:Key)(m:Nat)(aD:T AV)(h':T ah)(nx':Key):Prop:=∃(j:Nat) (ls:List U),m=l.length-j∧j≤l.length∧ls.length=l.length∧ls.take j=l.take j∧
 ag (K 0) aD=some (.sl (aq eU l) l.length 4 .any)∧ag (K 1) aD=some (.fn dH [] [])∧ag (K 5) aD=some (.slice b 0 l.length 4)∧ag (K 14) aD=some (I l.length)∧ag (K 15) aD=some (I j)∧ag b h'=QZ (aq eU ls)∧(∀k:Key,k.toNat<b.toNat→ag k h'=ag k h)∧nx'=nx
theorem ajx(l:List U)(hl:l.length≤1000):Pur C hU [aV l,.fn dH [] []] (·=.ret (aV l)):=by
 intro h nx;have s1:=kTSu nx;have rc:=S.r dH;refine S.zS.call ?_;simp[uo];simp[yb];have dI:aV l=.nils∧l=[]∨aV l=.sl (aq eU l) l.length 4 .any∧l≠[]:=by
  cases l with
  |nil=>exact .inl ⟨rfl,rfl⟩
  |cons a t=>exact .inr ⟨rfl,by simp⟩
 rcases dI with⟨e,rfl⟩|⟨e,bW⟩
 ·simp[nT,e];simp[yc];exact Ext.refl _ _
 ·have h0:l.length≠0:=by simpa using bW
  have UJ:((l.length:Int)==0)=false:=bq (by omega);have hm:l.length≤1048576:=by omega
  simp[nT,e,UJ,h0];have hz:(List.replicate l.length [I 0,I 0,.str 0 0,.nils]).flatten=aq eU (List.replicate l.length ⟨0,0⟩):=by unfold aq;rw[List.flatMap_def,List.map_replicate];rfl
  simp[yd,hm,hz];simp[ye];refine W.fh (n:=l.length) (ClI l nx h nx.succ) ?_ ?_
  ·exact⟨0,List.replicate l.length ⟨0,0⟩,by simp,by omega,by simp,by simp,by simp,by simp,by simp,by simp,by simp,by simp,fun k hk=>aA hk,rfl⟩
  ·rintro m dc h1 bw ⟨j,ls,rfl,hj,ZE,Nu,g0,g1,g5,g14,g15,gb,ajq,rfl⟩;refine W.of ?_;simp[yf];simp[yg,g14,g15];refine⟨fun cQ=>?_,fun P9=>?_⟩
   ·have da:j<l.length:=by omega
    have hr:=Cu.rows l;have N9:=Cu.rows ls;have h4:4≤l.length*4-j*4:=by omega
    have ec:=Cu.at da;have he:List.take 4 (eU l[j])=eU l[j]:=rfl;have ZA:(eU l[j]).length=4:=rfl;have hz:∀H,aS 9999 (.agg (eU l[j])) H=(.agg (eU l[j]),H):=fun H=>by simp[eU]
    have hjs:j<ls.length:=by omega
    have hp:=Cu.put hjs l[j];have h44:j*4+4≤l.length*4:=by omega
    simp[yh,g15];simp[yi,g0,g1,g5,da,hr,h4,ec,he,ZA,rc,hz];refine aJ.known (v:=.agg (eU l[j])) (S.s_Clone ⟨l[j].k,l[j].n,[]⟩ (by simp) _ _) ?_;simp[g0,g1,g5,da,gb,N9,ZE,h44,ZA,hp];simp[yj,g15];rw[aO (by omega) (by omega)];refine⟨l.length-(j+1),by omega,j+1,ls.set j l[j],rfl,by omega,by simpa using ZE,?_,by simp[g0],by simp[g1],by simp[g5],by simp[g14],by simp,by simp,fun k hk=>?_,rfl⟩
    ·have q:(ls.set j l[j]).take j=ls.take j:=by rw[List.take_set];exact List.set_eq_of_length_le (by simp;omega)
     rw[zqu da,zqu (by simpa using hjs),q,Nu,List.getElem_set_self]
    ·rw[aA hk];exact ajq k hk
   ·have da:j=l.length:=by omega
    subst da;rw[List.take_length,Lm (by omega)]at Nu;subst Nu;simp[yl,g5];have hf:=o9 (n:=9998) gb (Cu.rows ls) (Cu.FM ls);simp only[hf];refine⟨trivial,?_⟩;exact⟨by omega,fun k hk=>by rw[aA hk];exact ajq k hk⟩
theorem NA(l:List U)(hl:l.length≤1000):Pur C eH [aV l] (·=.ret (aV l)):=by intro h nx;have rc:=S.r hU;have hf:∀n H,aS n (aV l) H=(aV l,H):=gx l;refine S.Hz.call ?_;simp[DZ];simp[E7];simp[E8,rc,hf];refine(ajx S l hl _ _).mono ?_;rintro o h1 bw ⟨rfl,e1⟩;simp[hf];exact e1
end Ln
namespace Ln
open Go.Sx Go
variable{C:bP}{X:Kn}(S:Std C X)
omit S in
theorem OS:∀(l:List Ev) (o:Op) (i:Nat),(follow o i l).args=o.args
 | [],o,i=>rfl
 |x ::l,o,i=>by show(follow (kn i x o) (i+1) l).args=_;rw[OS l];unfold kn;(repeat' split)<;>rfl
theorem Wb{n:Nat}:∀{l:List Ev} {i:Nat},(∀x∈l,x.args.length≤n)→∀o∈aR i l,o.args.length≤n
 | [],i,_,o,ho=>by simp[aR]at ho
 |x ::l,i,h,o,ho=>by
  simp only[aR,List.mem_append]at ho;rcases ho with ho|ho
  ·split at ho
   ·simp at ho;subst ho;rw[OS];exact h x (by simp)
   ·simp at ho
  ·exact Wb (fun x hx=>h x (by simp[hx])) o ho
def OpI(os:List Op)(code:Int)(b n0:Key)(h:T ah)(nx:Key)(m:Nat)(aD:T AV)(h':T ah)(nx':Key):Prop:=∃j:Nat,m=os.length-j∧j≤os.length∧ag (K 4) aD=some (.slice b 0 os.length 10)∧ag (K 5) aD=some (I code)∧ag (K 13) aD=some (I os.length)∧ag (K 14) aD=some (I j)∧
 ag b h'=some (.cells (aq eO os) .part)∧b.toNat<nx'.toNat∧Ext h nx h' nx'
include S
theorem ap5{ev:AV}{l:List Ev}(hl:adD l)(h:T ah)(nx:Key)(hv:Rd 8 ev (aq eE l) l.length h nx):aJ C nX [ev] h nx (fun o h' nx'=>azV l o∧Ext h nx h' nx'):=by
 have s1:=kTSu nx;have rs:C.raw l7=true:=S.rw (by decide);have rc:=S.r eH;have rv:=S.r dH;refine S.I4.call ?_;simp[Gn];simp[Gp];simp[Gq,rs];refine(ap6 S hl _ _ hv).mono ?_;rintro o h1 bw ⟨⟨c,rfl,gro⟩,e1⟩;have dI:∀o∈(if cM [] l=0 then aR 0 l else []),o.args.length≤1000:=by
  intro o ho;split at ho
  ·exact Wb hl.args o ho
  ·simp at ho
 simp;unfold azV;have Gs:(if cM [] l=0 then aR 0 l else []).length≤16:=by
  split
  ·exact hl.beg
  ·simp
 generalize (if cM [] l=0 then aR 0 l else [])=os at *;generalize Gt (cM [] l)=code at *;rcases gro with⟨rfl,rfl⟩|⟨b,rfl,hb,UJ,FL⟩
 ·simp[yM];refine W.wO (W.of ?_);simp[yN];simp[yO];simp[yP];exact⟨.inl ⟨rfl,rfl⟩,e1⟩
 ·simp[yM];refine W.fh (n:=os.length) (OpI os code b nx h1 bw) ?_ ?_
  ·exact⟨0,by simp,by omega,by simp,by simp,by simp,by simp,hb,FL,Ext.refl _ _⟩
  ·rintro m dc h2 bu ⟨j,rfl,hj,g4,g5,g13,g14,gb,aE9,e2⟩;refine W.of ?_;simp[yN];simp[yO,g13,g14];refine⟨fun cQ=>?_,fun P9=>?_⟩
   ·have da:j<os.length:=by omega
    have hr:=gV.rows os;have ec:=gV.at da;have hax:=dI _ (LA da);have ha:((aq eO os))[j*10+5]?=some (aV os[j].args):=by have:=congrArg (fun l=>l[5]?) ec;rw[List.getElem?_take,List.getElem?_drop]at this;simpa[eO]using this
    have ha2:∀hh,(aq eO os)[j*10+5]'hh=aV os[j].args:=fun hh=>by have q:=pY hh;rw[ha]at q;exact(Option.some.inj q).symm
    have Qa:List.take 4 (List.drop (j*10+6) (aq eO os))=eU os[j].res:=by have:=congrArg (fun l=>List.take 4 (List.drop 6 l)) ec;simp only[List.drop_take,List.drop_drop,List.take_take]at this;simpa[eO,eU]using this
    have hz1:∀n H,aS n (aV os[j].args) H=(aV os[j].args,H):=gx _;have hz2:∀H,aS 9999 (.agg (eU os[j].res)) H=(.agg (eU os[j].res),H):=fun H=>by simp[eU]
    have p1:=gV.Nz (l:=os) (j:=j) (off:=5) (vs:=[aV os[j].args]) (y:=os[j]) da (by simp) rfl;have p2:=gV.Nz (l:=os) (j:=j) (off:=6) (vs:=eU os[j].res) (y:=os[j]) da (by simp[eU]) rfl;have Rk:os.set j os[j]=os:=List.set_getElem_self da;rw[Rk]at p1 p2;simp[eU]at p1 p2;have yG:j*10+5<os.length*10:=by omega
    have Nq:j*10+5+1≤os.length*10:=by omega
    have UA:j*10+6+4≤os.length*10:=by omega
    have h4':4≤os.length*10-(j*10+6):=by omega
    have ac:=du os[j].args;simp[Gu,g14];simp[Gv,g4,da,gb,hr,ha2,yG,rc,hz1];refine(NA S _ hax _ _).mono ?_;rintro o h3 dZ ⟨rfl,e3⟩;have gb3:ag b h3=some (.cells (aq eO os) .part):=by rw[e3.g b aE9];exact gb
    simp[g4,da,gb3,hr,Nq,ac.1,ac.2,p1];simp[Gw,g4,da,gb3,hr,Qa,h4',rv,hz2];refine aJ.known (v:=.agg (eU os[j].res)) (S.s_Clone ⟨os[j].res.k,os[j].res.n,[]⟩ (by simp) _ _) ?_;simp[g4,da,gb3,hr,UA,eU,p2];simp[Gx,g14];rw[aO (by omega) (by omega)];have n3:=e3.n;have n2:=e2.n;refine⟨os.length-(j+1),by omega,j+1,rfl,by omega,by simp[g4],by simp[g5],by simp[g13],by simp,by simp,by omega,?_⟩;refine⟨by omega,fun k hk=>?_⟩;by_cases hkb:k=b
    ·subst hkb;simp[hb]
    ·rw[aP _ _ _ _ hkb,e3.g k (by omega)];exact e2.g k hk
   ·simp[yP,g4,g5];have hf:=yQ (n:=9998) gb (gV.rows os) (gV.FM os);simp only[hf];refine⟨.inr rfl,?_⟩;have e12:=e1.trans e2;exact⟨e12.n,fun k hk=>by rw[aA (by omega)];exact e12.g k hk⟩
end Ln
namespace Ln
open Go.Sx Go
def eI(n:Int):List AV:=[I n]
theorem L0:Flat 1 eI where
 len _:=rfl
 wU x y hy:=by simp[eI]at hy;subst hy;exact c5 _ _
 cell x y hy:=by simp[eI]at hy;subst hy;rfl
 lits x:=by simp[eI,AV.dU,AV.lits,I]
theorem fC(l:List Int):(aq eI l).length=l.length:=by rw[L0.rows];omega
theorem ac5:∀l:List Int,aq eI l=l.map I
 | []=>rfl
 |a ::t=>by rw[dg,ac5 t];rfl
theorem TX{l:List Int}{i:Nat}(hi:i<l.length):(aq eI l)[i]?=some (I l[i]):=by rw[ac5];simp[hi]
@[simp] theorem azQ{l:List Int}{i:Nat}(hh:i<(aq eI l).length):(aq eI l)[i]=I (l[i]'(by rw[fC]at hh;exact hh)):=by
 have h1:i<l.length:=by rw[fC]at hh;exact hh
 have:=pY hh;rw[TX h1]at this;exact(Option.some.inj this).symm
theorem akx(l:List Int)(i:Nat):(aq eI l).take i=aq eI (l.take i):=by have:=L0.take l i;simpa using this
theorem ur{l:List Int}{i:Nat}(hi:i<l.length):List.take 1 (List.drop i (aq eI l))=[I l[i]]:=by have:=L0.at hi;rw[Nat.mul_one]at this;exact this
def Ord(c:AV)(l:List Int)(n:Nat)(h:T ah)(nx:Key):Prop:=n≤l.length∧((c=.nils∧n=0)∨(∃f,c=.sl (aq eI (l.take n)) n 1 f)∨∃(b:Key) (k:CK),c=.slice b 0 n 1∧ag b h=some (.cells (aq eI l) k)∧b.toNat<nx.toNat)
theorem Ord.ext{c:AV}{l:List Int}{n:Nat}{h h':T ah}{nx nx':Key}(o:Ord c l n h nx)(e:Ext h nx h' nx'):Ord c l n h' nx':=by
 obtain⟨h0,o⟩:=o;refine⟨h0,?_⟩;rcases o with o|o|⟨b,k,h1,h2,h3⟩
 ·exact .inl o
 ·exact .inr (.inl o)
 ·exact .inr (.inr ⟨b,k,h1,by rw[e.g b h3];exact h2,by have:=e.n;omega⟩)
variable{C:bP}{X:Kn}(S:Std C X)
include S
theorem Lb(a b:Op):Pur C dX [.agg (eO a),.agg (eO b)] (·=.ret (.bool (before a b))):=by
 intro h nx;have s1:=kTSu nx;have s2:=kTSu nx.succ;have ac1:=du a.args;have ac2:=du b.args;refine S.C0.call ?_;simp[Aa];simp[BG,eO,ac1.1,ac2.1];have e1:=(E0 h nx (.cells (eO a) .fix)).trans (E0 _ nx.succ (.cells (eO b) .fix));simp[eO]at e1;have Gg:before a b=(decide (0≤a.e)&&decide (a.e<b.b)||decide (0≤a.lost)&&decide (a.lost<b.b)):=by unfold before;rw[Bool.eq_iff_iff];simp
 by_cases h1:a.e<0
 ·by_cases h2:a.lost<0
  ·simp[dE,h1,h2];exact⟨by rw[Gg];simp;omega,e1⟩
  ·by_cases h3:a.lost<b.b
   ·simp[dE,h1,h2,h3];exact⟨by rw[Gg];simp;omega,e1⟩
   ·simp[dE,h1,h2,h3];exact⟨by rw[Gg];simp;omega,e1⟩
 ·by_cases h4:a.e<b.b
  ·simp[dE,h1,h4];exact⟨by rw[Gg];simp;omega,e1⟩
  ·by_cases h2:a.lost<0
   ·simp[dE,h1,h4,h2];exact⟨by rw[Gg];simp;omega,e1⟩
   ·by_cases h3:a.lost<b.b
    ·simp[dE,h1,h4,h2,h3];exact⟨by rw[Gg];simp;omega,e1⟩
    ·simp[dE,h1,h4,h2,h3];exact⟨by rw[Gg];simp;omega,e1⟩
end Ln
namespace Ln
open Go.Sx Go
theorem Yj{os:List Op}{x:Int}{i:Nat}(hx:x=i)(hi:i<os.length):at_ os x=os[i]:=by subst hx;unfold at_;rw[List.getD_eq_getElem?_getD,Int.toNat_natCast,pY hi];rfl
theorem agy{l:List Int}{n j:Nat}(hn:n≤l.length)(hj:j<n)(hl:j<l.length):List.take 1 (List.drop j (aq eI (l.take n)))=[I l[j]]:=by
 have h1:j<(l.take n).length:=by simp;omega
 have:=ur h1;rw[this];simp
theorem asx{os:List Op}{ord:List Int}{j:Nat}(hj:j<ord.length)(hp:(ord.take j).Pairwise fun x y=>before (at_ os y) (at_ os x)=false)(hn:∀k (hk:k<ord.length),k<j→before (at_ os ord[j]) (at_ os ord[k])=false):(ord.take (j+1)).Pairwise fun x y=>before (at_ os y) (at_ os x)=false:=by rw[zqu hj,List.pairwise_append];refine⟨hp,by simp,?_⟩;intro a ha b hb;simp at hb;subst hb;obtain⟨k,hk,rfl⟩:=List.getElem_of_mem ha;simp at hk;simp;exact hn k (by omega) (by omega)
variable{C:bP}{X:Kn}(S:Std C X)
include S
def PwI(os:List Op)(ord:List Int)(c0 c1:AV)(h:T ah)(nx:Key)(m:Nat)(aD:T AV)(h':T ah)(nx':Key):Prop:=∃j:Nat,m=ord.length-j∧j≤ord.length∧ag (K 0) aD=some c0∧ag (K 1) aD=some c1∧ag (K 10) aD=some (.bool true)∧ag (K 60) aD=some c1∧ag (K 61) aD=some (I ord.length)∧ag (K 62) aD=some (I j)∧
 Ord c1 ord ord.length h' nx'∧Ext h nx h' nx'∧(ord.take j).Pairwise fun x y=>before (at_ os y) (at_ os x)=false
def PiI(os:List Op)(ord:List Int)(c0 c1:AV)(h:T ah)(nx:Key)(j:Nat)(hj:j<ord.length)(c69:AV)(m:Nat)(aD:T AV)(h':T ah)(nx':Key):Prop:=∃k:Nat,m=j-k∧k≤j∧ag (K 0) aD=some c0∧ag (K 1) aD=some c1∧ag (K 10) aD=some (.bool true)∧ag (K 60) aD=some c1∧ag (K 61) aD=some (I ord.length)∧ag (K 62) aD=some (I j)∧
 ag (K 12) aD=some (I ord[j])∧ag (K 69) aD=some c69∧ag (K 70) aD=some (I j)∧ag (K 71) aD=some (I k)∧Ord c1 ord ord.length h' nx'∧Ord c69 ord j h' nx'∧Ext h nx h' nx'∧∀q (hq:q<ord.length),q<k→before (at_ os ord[j]) (at_ os ord[q])=false
theorem asy{os:List Op}{ord:List Int}(ho:os.length≤16)(hlen:ord.length≤1000){c0 c1 c69:AV}(AF:nW 10 eO c0 os)(rng:∀x∈ord,0≤x∧x<os.length){Q:cH}{tm:T AV}{h h1:T ah}{nx bw:Key}{j:Nat}(hj:j<ord.length){m:Nat}(A:PiI os ord c0 c1 h nx j hj c69 m tm h1 bw)
  (zm:∀aD h' nx' k (hk:k<ord.length),k<j→ag (K 10) aD=some (.bool false)→before (at_ os ord[j]) (at_ os ord[k])=true→Ext h nx h' nx'→Q (.exit 4) aD h' nx')
  (gJ:∀aD h' nx',PiI os ord c0 c1 h nx j hj c69 0 aD h' nx'→Q .norm aD h' nx') :
  W C (.loop lT) (aG 6 Q) tm h1 bw:=by
 have rb:=S.r dX;refine W.fh (PiI os ord c0 c1 h nx j hj c69) A ?_;rintro m dc h2 bu ⟨k,rfl,hk,g0,g1,g10,g60,g61,g62,g12,g69,g70,g71,o1,o69,e2,hq⟩;refine W.of ?_;simp[lT];simp[Ae,g70,g71];refine⟨fun cQ=>?_,fun P9=>?_⟩
 ·have hkj:k<j:=by omega
  have hko:k<ord.length:=by omega
  have rj:=rng _ (LA hj);have rk:=rng _ (LA hko);obtain⟨x,hx⟩:=Int.eq_ofNat_of_zero_le rj.1;obtain⟨y,hy⟩:=Int.eq_ofNat_of_zero_le rk.1;have Tk:x<os.length:=by omega
  have hyl:y<os.length:=by omega
  have ax:=Yj hx Tk;have ay:=Yj hy hyl;have ecx:=gV.at Tk;have ecy:=gV.at hyl;have hr:=gV.rows os;have tx:10≤os.length*10-x*10:=by omega
  have ty:10≤os.length*10-y*10:=by omega
  have hz:∀(z:Op) H,aS 9999 (.agg (eO z)) H=(.agg (eO z),H):=fun z H=>by have:=bF (n:=9998) (l:=eO z) (h:=H) (gV.wU _);simp only[WR];rw[this]
  have aKd:∀z:Op,(eO z).length=10:=fun z=>rfl;have aKe:∀z:Op,List.take 10 (eO z)=eO z:=fun z=>rfl;have Vk:c0=.sl (aq eO os) os.length 10 .any:=by
   rcases AF with⟨_,rfl⟩|e
   ·simp at Tk
   ·exact e
  have fin:∀tm2:T AV,(∀k:Key,k=K 0∨k=K 1∨k=K 10∨k=K 60∨k=K 61∨k=K 62∨k=K 12∨k=K 69∨k=K 70∨k=K 71→ag k tm2=ag k dc)→ag (K 14) tm2=some (I ord[k])→
    iT C (.seq (.staged pN ⟨[K 75,K 76,K 77,K 78,K 79,K 80,K 81,K 82,K 83],[]⟩) (.cond (.t (K 83)) (.seq (.ops pO) (.exit 4)) .skip)) (aG 7 (aW (iT C (.ops pP) (aW (fun tm h' nx'=>∃m,m<j-k∧PiI os ord c0 c1 h nx j hj c69 m tm h' nx') (aG 6 Q))) (aW (fun tm h' nx'=>∃m,m<j-k∧PiI os ord c0 c1 h nx j hj c69 m tm h' nx') (aG 6 Q)))) tm2 h2 bu:=by
   intro tm2 q q14;have q0:=(q (K 0) (by simp)).trans g0;have q1:=(q (K 1) (by simp)).trans g1;have q10:=(q (K 10) (by simp)).trans g10;have q60:=(q (K 60) (by simp)).trans g60;have q61:=(q (K 61) (by simp)).trans g61;have q62:=(q (K 62) (by simp)).trans g62;have q12:=(q (K 12) (by simp)).trans g12;have q69:=(q (K 69) (by simp)).trans g69;have q70:=(q (K 70) (by simp)).trans g70;have q71:=(q (K 71) (by simp)).trans g71;rw[Vk]at q0;rw[hx]at q12;rw[hy]at q14;simp;simp[pN,q0,q12,q14,Tk,hyl,hr,tx,ty,ecx,ecy,rb,hz,aKd,aKe];refine(Lb S os[x] os[y] _ _).mono ?_;rintro o h3 dZ ⟨rfl,e3⟩;have UE:=e2.trans e3;cases Gg:before os[x] os[y]with
   |true=>simp;simp[pO];refine zm _ _ _ k hko hkj ?_ (by rw[ax,ay];exact Gg) UE;simp
   |false=>
    simp;simp[pP,q71];rw[aO (by omega) (by omega)];refine⟨j-(k+1),by omega,k+1,rfl,by omega,by simp[q0,Vk],by simp[q1],by simp[q10],by simp[q60],by simp[q61],by simp[q62],by simp[q12,hx],by simp[q69],by simp[q70],by simp,o1.ext e3,o69.ext e3,UE,?_⟩;intro q hql hqk;by_cases hqe:q=k
    ·subst hqe;rw[ax,ay];exact Gg
    ·exact hq q hql (by omega)
  simp only[dO,jQ,fo,vk]at fin;obtain⟨hnj,oc⟩:=o69;rcases oc with⟨_,e⟩|⟨f,e⟩|⟨b,kd,e,hb,_⟩
  ·omega
  ·have GL:(aq eI (ord.take j)).length=j:=by rw[fC];simp;omega
   have rd:=agy hnj hkj hko;have h1:1≤j-k:=by omega
   subst e;simp[pQ,g69,g71,hkj,GL,rd,h1];refine fin _ ?_ ?_
   ·rintro q (rfl|rfl|rfl|rfl|rfl|rfl|rfl|rfl|rfl|rfl)<;>simp[g69]
   ·simp
  ·have rd:=TX hko;have GL:(aq eI ord).length=ord.length:=fC _;subst e;have aSJ:=fC ord;simp[pQ,g69,g71,hkj,hb,rd,GL];refine fin _ ?_ ?_
   ·rintro q (rfl|rfl|rfl|rfl|rfl|rfl|rfl|rfl|rfl|rfl)<;>simp[g69]
   ·simp
 ·have hkj:k=j:=by omega
  subst hkj;exact gJ _ _ _ ⟨k,by omega,by omega,by simp[g0],by simp[g1],by simp[g10],by simp[g60],by simp[g61],by simp[g62],by simp[g12],by simp[g69],by simp[g70],by simp[g71],o1,o69,e2,hq⟩
end Ln
namespace Ln
open Go.Sx Go
variable{C:bP}{X:Kn}(S:Std C X)
include S
theorem aeH{os:List Op}{ord:List Int}(ho:os.length≤16)(hlen:ord.length≤1000){c0 c1:AV}(AF:nW 10 eO c0 os)(rng:∀x∈ord,0≤x∧x<os.length)(Ge:ord.Nodup)(axi:∀(i:Nat) (o:Op),os[i]?=some o→o.e≠-1→(i:Int)∈ord)
  {R:Out→T ah→Key→Prop} {Q:cH} {tm:T AV} {h:T ah} {nx:Key} (g0:ag (K 0) tm=some c0) (g1:ag (K 1) tm=some c1) (g10:ag (K 10) tm=some (.bool true)) (o1:Ord c1 ord ord.length h nx)
  (hR:∀h' nx',Ext h nx h' nx'→R (.ret (.bool (jt os ord))) h' nx') (hQ:∀aD h' nx',fQ [.tmp (K 4)] R .ret aD h' nx'→Q .ret aD h' nx') :
  iT C (.seq (.seq (.ops cG) (.block 4 (.loop dD))) (.seq (.ops bQ) .ret)) Q tm h nx:=by
 have fin:∀(tm2:T AV) (h2:T ah) (bu:Key) (v:Bool),ag (K 10) tm2=some (.bool v)→jt os ord=v→Ext h nx h2 bu→qy C (aW (iT C .ret Q) Q) bQ tm2 h2 bu:=by intro tm2 h2 bu v q10 hl e;simp[bQ,q10];refine hQ _ _ _ ?_;have:=hR h2 bu e;rw[hl]at this;simpa using this
 have NO:(ord.Pairwise fun x y=>before (at_ os y) (at_ os x)=false)→jt os ord=true:=fun hp=>O6 ⟨rng,axi,(List.Pairwise.and Ge hp).imp fun q=>⟨q.1,q.2⟩⟩;have bad:∀(j k:Nat) (hj:j<ord.length) (hk:k<ord.length),k<j→before (at_ os ord[j]) (at_ os ord[k])=true→jt os ord=false:=by intro j k hj hk hkj hb;refine mW fun L=>?_;have:=List.pairwise_iff_getElem.1 L.pair k j hk hj hkj;rw[hb]at this;exact absurd this.2 (by simp)
 simp;have body:∀dc,ag (K 0) dc=some c0→ag (K 1) dc=some c1→ag (K 10) dc=some (.bool true)→ag (K 60) dc=some c1→ag (K 61) dc=some (I ord.length)→ag (K 62) dc=some (I 0)→
   W C (.loop dD) (aG 4 (aW (iT C (.seq (.ops bQ) .ret) Q) Q)) dc h nx:=by
  intro dc g0 g1 g10 g60 g61 g62;refine W.fh (n:=ord.length) (PwI os ord c0 c1 h nx) ?_ ?_
  ·exact⟨0,by simp,by omega,g0,g1,g10,g60,g61,by simpa using g62,o1,Ext.refl _ _,by simp⟩
  ·clear g0 g1 g10 g60 g61 g62;rintro m dc h1 bw ⟨j,rfl,hj,g0,g1,g10,g60,g61,g62,o1,e1,hp⟩;refine W.of ?_;simp[dD];simp[AA,g61,g62];refine⟨fun cQ=>?_,fun P9=>?_⟩
   ·have da:j<ord.length:=by omega
    have Xc:∀(tm2:T AV) (c69:AV),(∀k:Key,k=K 0∨k=K 1∨k=K 10∨k=K 60∨k=K 61∨k=K 62→ag k tm2=ag k dc)→ag (K 12) tm2=some (I ord[j])→ag (K 69) tm2=some c69→ag (K 70) tm2=some (I j)→ag (K 71) tm2=some (I 0)→Ord c69 ord j h1 bw→
      W C (.loop lT) (aG 6 (aG 5 (aW (iT C (.ops pT) (aW (fun tm h' nx'=>∃m,m<ord.length-j∧PwI os ord c0 c1 h nx m tm h' nx') (aG 4 (aW (iT C (.seq (.ops bQ) .ret) Q) Q)))) (aW (fun tm h' nx'=>∃m,m<ord.length-j∧PwI os ord c0 c1 h nx m tm h' nx') (aG 4 (aW (iT C (.seq (.ops bQ) .ret) Q) Q)))))) tm2 h1 bw:=by
     intro tm2 c69 q q12 q69 q70 q71 o69;refine asy S ho hlen AF rng (h:=h) (nx:=nx) da (c1:=c1) (c69:=c69) (m:=j) ?_ ?_ ?_
     ·exact⟨0,by simp,by omega,(q (K 0) (by simp)).trans g0,(q (K 1) (by simp)).trans g1,(q (K 10) (by simp)).trans g10,(q (K 60) (by simp)).trans g60,(q (K 61) (by simp)).trans g61,(q (K 62) (by simp)).trans g62,q12,q69,q70,by simpa using q71,o1,o69,e1,fun q _ hq=>absurd hq (by omega)⟩
     ·intro aD h' nx' k hk hkj q10 hb e';simp;exact fin _ _ _ false q10 (bad j k da hk hkj hb) e'
     ·rintro aD h' nx' ⟨k,hk0,hk,q0,q1,q10,q60,q61,q62,_,_,_,_,o1',_,e',hq⟩;have:k=j:=by omega
      subst this;simp;simp[pT,q62];rw[aO (by omega) (by omega)];exact⟨ord.length-(k+1),by omega,k+1,rfl,by omega,by simp[q0],by simp[q1],by simp[q10],by simp[q60],by simp[q61],by simp,o1',e',asx da hp (fun k hk hkj=>hq k hk hkj)⟩
    obtain⟨hnj,oc⟩:=o1;rcases oc with⟨_,e⟩|⟨f,e⟩|⟨b,kd,e,hb,FL⟩
    ·omega
    ·have GL:(aq eI (ord.take ord.length)).length=ord.length:=by rw[fC];simp
     have rd:=agy (fE _) da da;have yG:1≤ord.length-j:=by omega
     have asY:j≤ord.length:=by omega
     have tk:List.take j (aq eI (ord.take ord.length))=aq eI (ord.take j):=by rw[akx,List.take_take,Nat.min_eq_left asY]
     simp at GL rd tk;have bW:j≠ord.length:=by omega
     have WO:=g1;have apg:=g60;rw[e]at WO apg;simp[pU,apg,g62,da,GL,rd,yG];simp[pV,WO,GL,asY,tk,bW];refine Xc _ (.sl (aq eI (ord.take j)) j 1 .any) ?_ ?_ ?_ ?_ ?_ ⟨by omega,.inr (.inl ⟨.any,rfl⟩)⟩
     ·rintro q (rfl|rfl|rfl|rfl|rfl|rfl)<;>simp[g1,g60]
     all_goals simp
    ·have rd:=TX da;have GL:(aq eI ord).length=ord.length:=fC _;have asY:j≤ord.length:=by omega
     have WO:=g1;have apg:=g60;rw[e]at WO apg;simp[pU,apg,g62,da,hb,rd,GL];simp[pV,WO,GL,asY];refine Xc _ (.slice b 0 j 1) ?_ ?_ ?_ ?_ ?_ ⟨by omega,.inr (.inr ⟨b,kd,rfl,hb,FL⟩)⟩
     ·rintro q (rfl|rfl|rfl|rfl|rfl|rfl)<;>simp[g1,g60]
     all_goals simp
   ·have Jk:j=ord.length:=by omega
    subst Jk;rw[List.take_length]at hp;refine fin _ _ _ true ?_ (NO hp) e1;simp[g10]
 obtain⟨hnj,oc⟩:=id o1;rcases oc with⟨e,e'⟩|⟨f,e⟩|⟨b,kd,e,hb,FL⟩
 ·have hl0:(ord.length:Int)=0:=by omega
  rw[hl0]at body;simp[cG,g1,e];refine body _ ?_ ?_ ?_ ?_ ?_ ?_<;>simp[g0,g1,g10,e]
 ·simp[cG,g1,e];refine body _ ?_ ?_ ?_ ?_ ?_ ?_<;>simp[g0,g1,g10,e]
 ·simp[cG,g1,e];refine body _ ?_ ?_ ?_ ?_ ?_ ?_<;>simp[g0,g1,g10,e]
end Ln
namespace Ln
open Go.Sx Go
def Tw(n:Nat)(l:List Int):List AV:=(List.range n).map fun(k:Nat)=>AV.bool (decide ((k:Int)∈l))
theorem Re(n:Nat)(l:List Int):(Tw n l).length=n:=by simp[Tw]
theorem arD(n:Nat):(List.replicate n [AV.bool false]).flatten=Tw n []:=by
 unfold Tw
 induction n with
 |zero=>rfl
 |succ n ih=>rw[List.replicate_succ',List.flatten_append,ih,List.range_succ];simp
theorem CX{n:Nat}{l:List Int}{i:Nat}(hh:i<(Tw n l).length):(Tw n l)[i]=.bool (decide ((i:Int)∈l)):=by simp[Tw]
theorem arE{n:Nat}{l:List Int}{x:Nat}(h:x<n):List.take x (Tw n l)++AV.bool true ::List.drop (x+1) (Tw n l)=Tw n (l ++ [(x:Int)]):=by
 have e:List.take x (Tw n l)++AV.bool true ::List.drop (x+1) (Tw n l)=(Tw n l).set x (.bool true):=by rw[List.set_eq_take_append_cons_drop,if_pos (by rw[Re];exact h)]
 rw[e];apply List.ext_getElem
 ·simp[Re]
 ·intro i h1 h2;rw[List.getElem_set,CX,CX];by_cases hi:x=i
  ·subst hi;simp
  ·simp[hi];intro h;exfalso;omega
variable{C:bP}{X:Kn}(S:Std C X)
include S
def EnI(os:List Op)(ord:List Int)(c0 c1:AV)(bt:Key)(h:T ah)(nx:Key)(m:Nat)(aD:T AV)(h':T ah)(nx':Key):Prop:=∃j:Nat,m=os.length-j∧j≤os.length∧ag (K 0) aD=some c0∧ag (K 1) aD=some c1∧ag (K 5) aD=some (.slice bt 0 os.length 1)∧ag (K 42) aD=some c0∧ag (K 43) aD=some (I os.length)∧ag (K 44) aD=some (I j)∧
 ag bt h'=QZ (Tw os.length ord)∧bt.toNat<nx'.toNat∧Ord c1 ord ord.length h' nx'∧Ext h nx h' nx'∧∀(i:Nat) (o:Op),i<j→os[i]?=some o→o.e≠-1→(i:Int)∈ord
theorem anm{os:List Op}{ord:List Int}(ho:os.length≤16)(hlen:ord.length≤1000){c0 c1:AV}(AF:nW 10 eO c0 os)(rng:∀x∈ord,0≤x∧x<os.length)(Ge:ord.Nodup)
  {R:Out→T ah→Key→Prop} {Q:cH} {tm:T AV} {h:T ah} {nx bt:Key} (g0:ag (K 0) tm=some c0) (g1:ag (K 1) tm=some c1) (g5:ag (K 5) tm=some (.slice bt 0 os.length 1)) (gb:ag bt h=QZ (Tw os.length ord)) (hbt:bt.toNat<nx.toNat) (o1:Ord c1 ord ord.length h nx)
  (hR:∀h' nx',Ext h nx h' nx'→R (.ret (.bool (jt os ord))) h' nx') (hQ:∀aD h' nx',fQ [.tmp (K 4)] R .ret aD h' nx'→Q .ret aD h' nx') :
  iT C (.seq (.seq (.ops iO) (.block 2 (.loop iP))) (.seq (.ops fK) (.seq .skip (.seq (.seq (.ops cG) (.block 4 (.loop dD))) (.seq (.ops bQ) .ret))))) Q tm h nx:=by
 have fin:∀(tm2:T AV) (h2:T ah) (bu:Key),ag (K 0) tm2=some c0→ag (K 1) tm2=some c1→Ord c1 ord ord.length h2 bu→Ext h nx h2 bu→(∀(i:Nat) (o:Op),os[i]?=some o→o.e≠-1→(i:Int)∈ord)→iT C (.seq (.ops fK) (.seq .skip (.seq (.seq (.ops cG) (.block 4 (.loop dD))) (.seq (.ops bQ) .ret)))) Q tm2 h2 bu:=by intro tm2 h2 bu q0 q1 o2 e2 axi;have key:=fun Eu a0 a1 a10=>aeH S ho hlen AF rng Ge axi (R:=R) (Q:=Q) (tm:=Eu) (h:=h2) (nx:=bu) a0 a1 a10 o2 (fun h' nx' e=>hR h' nx' (e2.trans e)) hQ;simp only[dO,fo]at key;simp;simp[fK];refine key _ ?_ ?_ ?_<;>simp[q0,q1]
 simp only[dO,fo]at fin;simp;rcases AF with⟨e,rfl⟩|e
 ·have g0':=g0;rw[e]at g0';simp[iO,g0'];refine W.wO (W.of ?_);simp[iP];simp[pJ];refine fin _ _ _ ?_ ?_ o1 (Ext.refl _ _) (fun i o hi=>by simp at hi)
  ·simp[g0]
  ·simp[g1]
 ·have g0':=g0;rw[e]at g0';simp[iO,g0'];refine W.fh (n:=os.length) (EnI os ord c0 c1 bt h nx) ?_ ?_
  ·exact⟨0,by simp,by omega,by simp[g0],by simp[g1],by simp[g5],by simp[e],by simp,by simp,gb,hbt,o1,Ext.refl _ _,fun i o hi=>absurd hi (by omega)⟩
  ·rintro m dc h1 bw ⟨j,rfl,hj,q0,q1,q5,q42,q43,q44,qb,qbt,o2,e2,hen⟩;refine W.of ?_;simp[iP];simp[pJ,q43,q44];refine⟨fun cQ=>?_,fun P9=>?_⟩
   ·have da:j<os.length:=by omega
    have ec:=gV.at da;have hr:=gV.rows os;have tx:10≤os.length*10-j*10:=by omega
    have s1:=kTSu bw;have ac:=du os[j].args;have eo:eO os[j]=[I os[j].client,I os[j].b,I os[j].e,I os[j].lost,.str os[j].name.1 os[j].name.2,aV os[j].args,I os[j].res.k,I os[j].res.n,.str 0 0,.nils]:=rfl;have aBI:=q42;rw[e]at aBI;rw[eo]at ec;have e3:=E0 h1 bw (.cells (eO os[j]) .fix);rw[eo]at e3;have qb3:ag bt (aw bw (QZ [I os[j].client,I os[j].b,I os[j].e,I os[j].lost,.str os[j].name.1 os[j].name.2,aV os[j].args,I os[j].res.k,I os[j].res.n,.str 0 0,.nils]) h1)=QZ (Tw os.length ord):=by rw[e3.g bt qbt];exact qb
    have tl:=Re os.length ord;simp[zZ,aBI,q44,da,hr,tx,ec,ac.1,ac.2];have next:∀tm2:T AV,ag (K 0) tm2=some c0→ag (K 1) tm2=some c1→ag (K 5) tm2=some (.slice bt 0 os.length 1)→ag (K 42) tm2=some c0→ag (K 43) tm2=some (I os.length)→ag (K 44) tm2=some (I j)→(os[j].e≠-1→(j:Int)∈ord)→
      qy C (aW (fun tm h' nx'=>∃m,m<os.length-j∧EnI os ord c0 c1 bt h nx m tm h' nx') (aG 2 (aW (iT C (.seq (.ops fK) (.seq .skip (.seq (.seq (.ops cG) (.block 4 (.loop dD))) (.seq (.ops bQ) .ret)))) Q) Q))) pK tm2 (aw bw (QZ [I os[j].client,I os[j].b,I os[j].e,I os[j].lost,.str os[j].name.1 os[j].name.2,aV os[j].args,I os[j].res.k,I os[j].res.n,.str 0 0,.nils]) h1) bw.succ:=by
     intro tm2 a0 a1 a5 a42 a43 a44 pB;simp[pK,a44];rw[aO (by omega) (by omega)];refine⟨os.length-(j+1),by omega,j+1,rfl,by omega,by simp[a0],by simp[a1],by simp[a5],by simp[a42],by simp[a43],by simp,qb3,by omega,o2.ext e3,e2.trans e3,?_⟩;intro i o hi hio hoe;by_cases hij:i=j
     ·subst hij;rw[pY da]at hio;cases hio;exact pB hoe
     ·exact hen i o (by omega) hio hoe
    by_cases hoe:os[j].e=-1
    ·simp[kl,hoe];rw[hoe]at next
     refine next _ ?_ ?_ ?_ ?_ ?_ ?_ (fun h=>absurd rfl h)<;>simp[q0,q1,q5,q42,q43,q44,e]
    ·by_cases yI:(j:Int)∈ord
     ·simp[kl,bq hoe,q5,da,qb3,tl,CX,yI];refine next _ ?_ ?_ ?_ ?_ ?_ ?_ (fun h=>yI)<;>simp[q0,q1,q5,q42,q43,q44,e]
     ·simp[kl,bq hoe,q5,da,qb3,tl,CX,yI];simp[z6];refine hQ _ _ _ ?_;have:=hR _ _ (e2.trans e3);rw[mW (fun L=>yI (L.ended j _ (pY da) hoe))]at this;simpa using this
   ·have Jk:j=os.length:=by omega
    subst Jk;refine fin _ _ _ ?_ ?_ o2 e2 (fun i o hio=>hen i o (List.getElem?_eq_some_iff.1 hio).1 hio)
    ·simp[q0]
    ·simp[q1]
end Ln
namespace Ln
open Go.Sx Go
variable{C:bP}{X:Kn}(S:Std C X)
def ThI(os:List Op)(ord:List Int)(c0 c1:AV)(bt:Key)(h:T ah)(nx:Key)(m:Nat)(aD:T AV)(h':T ah)(nx':Key):Prop:=∃j:Nat,m=ord.length-j∧j≤ord.length∧ag (K 0) aD=some c0∧ag (K 1) aD=some c1∧ag (K 5) aD=some (.slice bt 0 os.length 1)∧ag (K 18) aD=some c1∧ag (K 19) aD=some (I ord.length)∧ag (K 20) aD=some (I j)∧
 ag bt h'=QZ (Tw os.length (ord.take j))∧nx'=nx∧(∀k:Key,k≠bt→ag k h'=ag k h)∧(∀x∈ord.take j,0≤x∧x<os.length)∧(ord.take j).Nodup
theorem aoW{os:List Op}{ord:List Int}(ho:os.length≤16)(hlen:ord.length≤1000){c0 c1:AV}(AF:nW 10 eO c0 os){h h1:T ah}{nx bt:Key}{P:cH}{tm2:T AV}{j:Nat}(da:j<ord.length)(q0:ag (K 0) tm2=some c0)(q1:ag (K 1) tm2=some c1)(q5:ag (K 5) tm2=some (.slice bt 0 os.length 1))(q18:ag (K 18) tm2=some c1)(q19:ag (K 19) tm2=some (I ord.length))(q20:ag (K 20) tm2=some (I j))(q7:ag (K 7) tm2=some (I ord[j]))
  (gb:ag bt h1=QZ (Tw os.length (ord.take j))) (gk:∀k:Key,k≠bt→ag k h1=ag k h) (aoX:∀x∈ord.take j,0≤x∧x<os.length) (Ge:(ord.take j).Nodup)
  (zm:∀aD h',ag (K 4) aD=some (.bool false)→jt os ord=false→(∀k:Key,k≠bt→ag k h'=ag k h)→P .ret aD h' nx)
  (gJ:∀aD h' m,m<ord.length-j→ThI os ord c0 c1 bt h nx m aD h' nx→P .norm aD h' nx) :
  iT C (.seq (.seq (.ops fg) (.cond (.t (K 37)) (.seq (.ops gj) .ret) .skip)) (.ops sw)) (aG 1 (aW (iT C (.ops sx) P) P)) tm2 h1 nx:=by
 have Nu:=zqu da;have tl:=Re os.length (ord.take j);have mem:ord[j]∈ord:=LA da;simp;by_cases h0:ord[j]<0
 ·simp[fg,q7,h0];simp[gj];refine zm _ _ ?_ (mW fun L=>by have:=(L.rng _ mem).1;omega) gk;simp
 ·obtain⟨x,hx⟩:=Int.eq_ofNat_of_zero_le (show 0≤ord[j] by omega);have hx0:¬(x:Int)<0:=by omega
  rw[hx]at q7;by_cases Tk:x<os.length
  ·have asK:(x:Int)<os.length:=by omega
   have Vk:c0=.sl (aq eO os) os.length 10 .any:=by
    rcases AF with⟨_,rfl⟩|e
    ·simp at Tk
    ·exact e
   have q0':=q0;rw[Vk]at q0';by_cases yI:(x:Int)∈ord.take j
   ·simp[fg,q7,hx0,asK,q0',q5,Tk,gb,tl,CX,yI];simp[gj];refine zm _ _ ?_ (mW fun L=>?_) gk
    ·simp
    ·obtain⟨k,hk,ZF⟩:=List.getElem_of_mem yI;simp at hk ZF;have:=List.pairwise_iff_getElem.1 L.pair k j (by omega) da (by omega);exact this.1 (by rw[ZF,hx])
   ·have hp:=arE (n:=os.length) (l:=ord.take j) Tk;have aKB:x+1≤os.length:=by omega
    simp[fg,q7,hx0,asK,q0',q5,Tk,gb,tl,CX,yI];simp[sw,q7,q5,Tk,gb,tl,hp,aKB];simp[sx,q20];rw[aO (by omega) (by omega)];refine gJ _ _ (ord.length-(j+1)) (by omega) ⟨j+1,rfl,by omega,by simp[q0],by simp[q1],by simp[q5],by simp[q18],by simp[q19],by simp,?_,rfl,fun k hk=>?_,?_,?_⟩
    ·rw[Nu,hx];simp
    ·rw[aP _ _ _ _ hk];exact gk k hk
    ·intro y hy;rw[Nu,List.mem_append,List.mem_singleton]at hy;rcases hy with hy|rfl
     ·exact aoX y hy
     ·omega
    ·rw[Nu,List.nodup_append];refine⟨Ge,by simp,?_⟩;intro a ha b hb;simp at hb;subst hb;rintro rfl;rw[hx]at ha;exact yI ha
  ·have asK:¬(x:Int)<os.length:=by omega
   have hl:jt os ord=false:=mW fun L=>by have:=(L.rng _ mem).2;omega
   rcases AF with⟨e,rfl⟩|e
   ·rw[e]at q0;simp[fg,q7,hx0,q0];simp[gj];refine zm _ _ ?_ hl gk;simp
   ·rw[e]at q0;simp[fg,q7,hx0,asK,q0];simp[gj];refine zm _ _ ?_ hl gk;simp
theorem aoY{os:List Op}{ord:List Int}(ho:os.length≤16)(hlen:ord.length≤1000){c0 c1:AV}(AF:nW 10 eO c0 os){h:T ah}{nx bt:Key}{Q:cH}(o1:∀h',(∀k:Key,k≠bt→ag k h'=ag k h)→Ord c1 ord ord.length h' nx){tm:T AV}
  (g0:ag (K 0) tm=some c0) (g1:ag (K 1) tm=some c1) (g5:ag (K 5) tm=some (.slice bt 0 os.length 1)) (gb:ag bt h=QZ (Tw os.length []))
  (zm:∀aD h',ag (K 4) aD=some (.bool false)→jt os ord=false→(∀k:Key,k≠bt→ag k h'=ag k h)→Q .ret aD h' nx)
  (gJ:∀aD h',ag (K 0) aD=some c0→ag (K 1) aD=some c1→ag (K 5) aD=some (.slice bt 0 os.length 1)→ag bt h'=QZ (Tw os.length ord)→(∀k:Key,k≠bt→ag k h'=ag k h)→(∀x∈ord,0≤x∧x<os.length)→ord.Nodup→Q .norm aD h' nx) :
  iT C (.seq (.ops gn) (.block 0 (.loop iS))) Q tm h nx:=by
 have body:∀dc,ag (K 0) dc=some c0→ag (K 1) dc=some c1→ag (K 5) dc=some (.slice bt 0 os.length 1)→ag (K 18) dc=some c1→ag (K 19) dc=some (I ord.length)→ag (K 20) dc=some (I 0)→W C (.loop iS) (aG 0 Q) dc h nx:=by
  clear g0 g1 g5 tm;intro dc g0 g1 g5 g18 g19 g20;refine W.fh (n:=ord.length) (ThI os ord c0 c1 bt h nx) ?_ ?_
  ·exact⟨0,by simp,by omega,g0,g1,g5,g18,g19,by simpa using g20,by simpa using gb,rfl,fun _ _=>rfl,by simp,by simp⟩
  ·clear g0 g1 g5 g18 g19 g20 gb;rintro m dc h1 bw ⟨j,rfl,hj,g0,g1,g5,g18,g19,g20,gb,rfl,gk,aoX,Ge⟩;refine W.of ?_;simp[iS];simp[Bz,g19,g20];refine⟨fun cQ=>?_,fun P9=>?_⟩
   ·have da:j<ord.length:=by omega
    have Xc:=fun(tm2:T AV) a0 a1 a5 a18 a19 a20 a7=>aoW (C:=C) ho hlen AF (c1:=c1) (h:=h) (h1:=h1) (nx:=bw) (bt:=bt) (tm2:=tm2) da a0 a1 a5 a18 a19 a20 a7 gb gk aoX Ge (P:=aW (fun tm h' nx'=>∃m,m<ord.length-j∧ThI os ord c0 c1 bt h bw m tm h' nx') (aG 0 Q)) (fun aD h' e2 hl hk=>by simp;exact zm _ _ e2 hl hk) (fun aD h' m hm hI=>by simp;exact⟨m,hm,hI⟩);simp only[dO,fo]at Xc;obtain⟨hnj,oc⟩:=o1 h1 gk;rcases oc with⟨_,e⟩|⟨f,e⟩|⟨b,kd,e,hb,FL⟩
    ·omega
    ·have GL:(aq eI (ord.take ord.length)).length=ord.length:=by rw[fC];simp
     have rd:=agy (fE _) da da;have yG:1≤ord.length-j:=by omega
     simp at GL rd;have akq:=g18;rw[e]at akq;simp[sy,akq,g20,da,GL,rd,yG];have e2:c1=.sl (aq eI ord) ord.length 1 f:=by simpa using e
     have aCH:=g18;rw[e2]at aCH;refine Xc _ ?_ ?_ ?_ ?_ ?_ ?_ ?_<;>simp[g0,g1,g5,aCH,g19,g20,e2]
    ·have GL:(aq eI ord).length=ord.length:=fC _;have akq:=g18;rw[e]at akq;simp[sy,akq,g20,da,hb,GL];refine Xc _ ?_ ?_ ?_ ?_ ?_ ?_ ?_<;>simp[g0,g1,g5,g19,g20,akq,e]
   ·have Jk:j=ord.length:=by omega
    subst Jk;rw[List.take_length]at aoX Ge gb;refine gJ _ h1 ?_ ?_ ?_ gb gk aoX Ge
    ·simp[g0]
    ·simp[g1]
    ·simp[g5]
 obtain⟨hnj,oc⟩:=o1 h (fun _ _=>rfl);simp;rcases oc with⟨e,e'⟩|⟨f,e⟩|⟨b,kd,e,hb,FL⟩
 ·have hl0:(ord.length:Int)=0:=by omega
  rw[hl0]at body;have WO:=g1;rw[e]at WO;simp[gn,WO];refine body _ ?_ ?_ ?_ ?_ ?_ ?_<;>simp[g0,g1,g5,e]
 ·have WO:=g1;rw[e]at WO;simp[gn,WO];refine body _ ?_ ?_ ?_ ?_ ?_ ?_<;>simp[g0,g1,g5,e]
 ·have WO:=g1;rw[e]at WO;simp[gn,WO];refine body _ ?_ ?_ ?_ ?_ ?_ ?_<;>simp[g0,g1,g5,e]
include S
theorem asL{os:List Op}{ord:List Int}(ho:os.length≤16)(hlen:ord.length≤1000){c0 c1:AV}(AF:nW 10 eO c0 os){h:T ah}{nx:Key}(o1:Ord c1 ord ord.length h nx) :
  aJ C jA [c0,c1] h nx (fun o h' nx'=>o=.ret (.bool (jt os ord))∧Ext h nx h' nx'):=by
 have s1:=kTSu nx;refine S.C1.call ?_;simp only[Ab,dO,fo];simp[BA];have hm:os.length≤1048576:=by omega
 have ext:∀h',(∀k:Key,k≠nx→ag k h'=ag k (aw nx (QZ (Tw os.length [])) h))→Ext h nx h' nx.succ:=fun h' qk=>⟨by omega,fun b hb=>by rw[qk b (fun e=>by subst e;omega),aA hb]⟩;generalize hP:(aW (iT C .skip (fQ [.tmp (K 4)] fun o h' nx'=>o=.ret (.bool (jt os ord))∧Ext h nx h' nx')) (fQ [.tmp (K 4)] fun o h' nx'=>o=.ret (.bool (jt os ord))∧Ext h nx h' nx'))=P;have hPr:∀aD h' nx',fQ [.tmp (K 4)] (fun o h' nx'=>o=.ret (.bool (jt os ord))∧Ext h nx h' nx') .ret aD h' nx'→P .ret aD h' nx':=fun aD h' nx' q=>by rw[←hP];exact q
 have main:∀dc:T AV,ag (K 0) dc=some c0→ag (K 1) dc=some c1→ag (K 5) dc=some (.slice nx 0 os.length 1)→
   iT C (.seq (.ops gn) (.block 0 (.loop iS))) (aW (iT C (.seq (.seq (.ops iO) (.block 2 (.loop iP))) (.seq (.ops fK) (.seq .skip (.seq (.seq (.ops cG) (.block 4 (.loop dD))) (.seq (.ops bQ) .ret))))) P) P) dc (aw nx (QZ (Tw os.length [])) h) nx.succ:=by
  intro dc g0 g1 g5;refine aoY ho hlen AF (bt:=nx) (fun h' hk=>o1.ext (ext h' hk)) g0 g1 g5 (by simp) ?_ ?_
  ·intro aD h' q4 hl hk;refine hPr _ _ _ ?_;simp[q4];exact⟨hl,ext h' hk⟩
  ·intro aD h' q0 q1 q5 qb qk rng Ge;exact anm S ho hlen AF rng Ge q0 q1 q5 qb (by omega) (o1.ext (ext h' qk)) (fun h2 bu e=>⟨rfl,(ext h' qk).trans e⟩) hPr
 simp only[dO,fo]at main;have ht:=arD os.length;rcases id AF with⟨e,e'⟩|e
 ·have e0':os.length=0:=by rw[e'];rfl
  have ht0:Tw 0 []=[]:=rfl;rw[e0',ht0]at main;simp[sA,e];refine main _ ?_ ?_ ?_<;>simp[e]
 ·simp[sA,e,hm,ht];refine main _ ?_ ?_ ?_<;>simp[e]
end Ln
namespace Ln
open Go.Sx Go
theorem Ord.cases{c:AV}{l:List Int}{h:T ah}{nx:Key}(o:Ord c l l.length h nx):(c=.nils∧l=[])∨(∃f,c=.sl (aq eI l) l.length 1 f)∨∃(b:Key) (k:CK),c=.slice b 0 l.length 1∧ag b h=some (.cells (aq eI l) k)∧b.toNat<nx.toNat:=by
 obtain⟨_,oc⟩:=o;rcases oc with⟨e,h0⟩|⟨f,e⟩|e
 ·exact .inl ⟨e,zqr h0⟩
 ·rw[List.take_length]at e;exact .inr (.inl ⟨f,e⟩)
 ·exact .inr (.inr e)
variable{C:bP}{X:Kn}(S:Std C X)
include S
end Ln
namespace Ln
open Go.Sx Go
theorem atT(z:Op)(H:T ah):bA (aS 9998) (eO z) H=(eO z,H):=bF (gV.wU _)
theorem aaO(z:Op):List.take 10 (eO z)=eO z:=rfl
theorem ajo(z:Op):(eO z).length=10:=rfl
variable{C:bP}{X:Kn}(S:Std C X)
include S
end Ln
namespace Ln
open Go.Sx Go
variable{C:bP}{X:Kn}(S:Std C X)
include S
theorem asE{ord:List Int}{c1:AV}{h:T ah}{nx:Key}(o1:Ord c1 ord ord.length h nx):(c1=.nils∧ord.length=0)∨(∃l f,c1=.sl l ord.length 1 f)∨∃b,c1=.slice b 0 ord.length 1:=by
 rcases o1.cases with⟨e,rfl⟩|⟨f,e⟩|⟨b,kd,e,_⟩
 ·exact .inl ⟨e,rfl⟩
 ·exact .inr (.inl ⟨_,f,e⟩)
 ·exact .inr (.inr ⟨b,e⟩)
end Ln
namespace Ln
open Go.Sx Go
variable{C:bP}{X:Kn}(S:Std C X)
include S
end Ln
namespace Ln
open Go.Sx Go
def PE(i:Nat)(name:Nat×Nat):Int:=match (aZ i).findIdx? fun c=>c.name==name with
 |some t=>t
 |none=>-1
theorem ajV(i:Nat):(aZ i).length≤3:=by unfold aZ;split<;>simp
theorem arZ{i:Nat}{name:Nat×Nat}(h:∀(t:Nat) (ht:t<(aZ i).length),(aZ i)[t].name≠name):PE i name=-1∧y9 i name=none:=by
 have h1:(aZ i).findIdx? (fun c=>c.name==name)=none:=by rw[List.findIdx?_eq_none_iff];intro c hc;obtain⟨t,ht,rfl⟩:=List.getElem_of_mem hc;simpa using h t ht
 have h2:(aZ i).find? (fun c=>c.name==name)=none:=by rw[List.find?_eq_none];intro c hc;obtain⟨t,ht,rfl⟩:=List.getElem_of_mem hc;simpa using h t ht
 exact⟨by unfold PE;rw[h1],h2⟩
theorem arY{i t:Nat}{name:Nat×Nat}(ht:t<(aZ i).length)(h:∀(s:Nat) (hs:s<(aZ i).length),s<t→(aZ i)[s].name≠name)(he:(aZ i)[t].name=name):PE i name=t∧y9 i name=some (aZ i)[t]:=by
 have h1:(aZ i).findIdx? (fun c=>c.name==name)=some t:=by rw[List.findIdx?_eq_some_iff_getElem];exact⟨ht,by simpa using he,fun s hs=>by simpa using h s (by omega) hs⟩
 have h2:(aZ i).find? (fun c=>c.name==name)=some (aZ i)[t]:=by rw[List.find?_eq_some_iff_getElem];refine⟨by simpa using he,t,ht,rfl,fun s hs=>?_⟩;simpa using h s (by omega) hs
 exact⟨by unfold PE;rw[h1],h2⟩
def yx(i:Nat):List Op→Int
 | []=>0
 |o ::l=>match y9 i o.name with
  |none=>6
  |some c=>if o.args.length=c.ar then yx i l else 1
theorem aiw{i:Nat}:∀{l:List Op},yx i l=0→∀o∈l,∃c,y9 i o.name=some c∧o.args.length=c.ar
 | [],_,o,ho=>by simp at ho
 |x ::l,h,o,ho=>by
  unfold yx at h;cases hc:y9 i x.name with
  |none=>rw[hc]at h;simp at h
  |some c=>
   rw[hc]at h;simp only at h;by_cases ha:x.args.length=c.ar
   ·rw[if_pos ha]at h;rcases GP.1 ho with rfl|ho
    ·exact⟨c,hc,ha⟩
    ·exact aiw h o ho
   ·rw[if_neg ha]at h;simp at h
variable{C:bP}{X:Kn}(S:Std C X)
include S
theorem ahX{i t:Nat}(ht:t<(aZ i).length):List.take 23 (List.drop (t*23) (aq (X.cmd i) (List.range (aZ i).length)))=X.cmd i t:=by have:=(S.ok.aeE i).at (l:=List.range (aZ i).length) (i:=t) (by simpa using ht);simpa using this
theorem ahY{i:Nat}:(aq (X.cmd i) (List.range (aZ i).length)).length=(aZ i).length*23:=by have:=(S.ok.aeE i).rows (List.range (aZ i).length);simpa using this
theorem aB2{i t:Nat}(hi:i<3)(ht:t<(aZ i).length)(o:Op){h:T ah}{nx b:Key}{k:CK}(hb:ag b h=some (.cells (eO o) k))(FL:b.toNat<nx.toNat):aJ C eX [.agg (X.cmd i t),.ptr b 0] h nx (fun out h' nx'=>out=.ret (.bool (decide ((aZ i)[t].name=o.name)))∧Ext h nx h' nx'):=by
 have s1:=kTSu nx;have h0:=S.ok.aIR i hi t _ (pY ht);have hl:=(S.ok.aeE i).len t;have hc:(X.cmd i t).all AV.aM=true:=sF.2 ((S.ok.aeE i).cell t);have hb2:ag b (aw nx (QZ (X.cmd i t)) h)=some (.cells (eO o) k):=by rw[aA FL];exact hb
 refine S.Bt.call ?_;simp[xg];simp[Af,hc];generalize (aZ i)[t]=c at *;rcases hn:c.name with⟨n1,n2⟩
 rcases hm:o.name with⟨m1,m2⟩
 rw[hn]at h0;have h0':∀hh,(X.cmd i t)[0]'hh=.str n1 n2:=fun hh=>by have q:=pY hh;rw[h0]at q;exact(Option.some.inj q).symm
 simp[Ag,h0',hl,hb2,eO,hm];exact E0 h nx _
end Ln
namespace Ln
open Go.Sx Go
variable{C:bP}{X:Kn}(S:Std C X)
include S
abbrev axz(X:Kn)(i:Nat):AV:=.sl (aq (X.cmd i) (List.range (aZ i).length)) (aZ i).length 23 .any
theorem aJJ(i t:Nat)(H:T ah):bA (aS 9998) (X.cmd i t) H=(X.cmd i t,H):=bF ((S.ok.aeE i).wU t)
omit S in
theorem arX{i j:Nat}{name:Nat×Nat}(hj:j<(aZ i).length)(h:∀(s:Nat) (hs:s<(aZ i).length),s<j→(aZ i)[s].name≠name)(hn:(aZ i)[j].name≠name):∀(s:Nat) (hs:s<(aZ i).length),s<j+1→(aZ i)[s].name≠name:=by
 intro s hs hsj;by_cases e:s=j
 ·subst e;exact hn
 ·exact h s hs (by omega)
def IxI(i:Nat)(o:Op)(b:Key)(X:Kn)(h:T ah)(nx:Key)(m:Nat)(aD:T AV)(h':T ah)(nx':Key):Prop:=∃j:Nat,m=(aZ i).length-j∧j≤(aZ i).length∧ag (K 0) aD=some (axz X i)∧ag (K 1) aD=some (.fn eX [] [.ptr b 0])∧ag (K 7) aD=some (I (aZ i).length)∧ag (K 8) aD=some (I j)∧Ext h nx h' nx'∧∀(s:Nat) (hs:s<(aZ i).length),s<j→(aZ i)[s].name≠o.name
theorem anJ{i:Nat}(hi:i<3)(o:Op){h:T ah}{nx b:Key}{k:CK}(hb:ag b h=some (.cells (eO o) k))(FL:b.toNat<nx.toNat):aJ C bR [axz X i,.fn eX [] [.ptr b 0]] h nx (fun out h' nx'=>out=.ret (I (PE i o.name))∧Ext h nx h' nx'):=by
 have hn3:=ajV i;have rc:=S.r eX;refine S.hZ.call ?_;simp[eZ];simp[gK];simp[gL];refine W.fh (n:=(aZ i).length) (IxI i o b X h nx) ⟨0,by simp,by omega,by simp,by simp,by simp,by simp,Ext.refl _ _,fun s _ hs=>absurd hs (by omega)⟩ ?_;rintro m dc h1 bw ⟨j,rfl,hj,g0,g1,g7,g8,e1,AB⟩;refine W.of ?_;simp[gM];by_cases da:j<(aZ i).length
 ·have L1:(j:Int)<(aZ i).length:=by omega
  have ec:=ahX S da;have hr:=ahY S (i:=i);have hl:=(S.ok.aeE i).len j;have t23:23≤(aZ i).length*23-j*23:=by omega
  have ht:List.take 23 (X.cmd i j)=X.cmd i j:=Lm (by omega);simp[dK,g7,g8,L1];simp[gO,g8];simp[gP,g0,g1,da,hr,t23,ec,hl,ht,rc,aJJ S];refine(aB2 S hi da o (by rw[e1.g b FL];exact hb) (by have:=e1.n;omega)).mono ?_;rintro out h2 bu ⟨rfl,e2⟩;by_cases hn:(aZ i)[j].name=o.name
  ·simp[hn];simp[gQ];exact⟨(arY da AB hn).1.symm,e1.trans e2⟩
  ·simp[hn];simp[gR,g8];rw[aO (by omega) (by omega)];exact⟨(aZ i).length-(j+1),by omega,j+1,rfl,by omega,by simp[g0],by simp[g1],by simp[g7],by simp,e1.trans e2,arX da AB hn⟩
 ·have Jk:j=(aZ i).length:=by omega
  subst Jk;simp[dK,g7,g8];simp[gS];exact⟨(arZ (fun s hs=>AB s hs hs)).1.symm,e1⟩
end Ln
