/- A part of the proof. No condition. -/
import Derived.Test.YtecbfpngkfdkoaaGreatP34
import Derived.Test.YtecbfpngkfdkoaaGreatP33
set_option linter.unusedSimpArgs false
set_option linter.unusedVariables false
set_option linter.unusedSectionVars false
namespace Go.Sx
theorem C8.mono{C:bQ}{l:Key}{args:List AV}{h:T ah}{nx:Key}{R R':Out→T ah→Key→Prop}(hy:C8 C l args h nx R)(hr:∀o h nx,R o h nx→R' o h nx):C8 C l args h nx R':=by
 obtain⟨fn,tm,res,ps,a,b,d,hl,ef,hz,hw⟩:=hy;refine⟨fn,tm,res,ps,a,b,d,hl,ef,hz,hw.mono ?_⟩;rintro e aJ h2 aN ⟨he,p,hp,OF⟩;refine⟨he,p,hp,OF.mono ?_⟩;rintro e3 Pb h3 bY ⟨hp3,q⟩;refine⟨hp3,?_⟩;cases e3 with
 |norm=>exact hr _ _ _ q
 |ret=>exact hr _ _ _ q
 |exit i=>exact hr _ _ _ q
 |pan a=>exact q
end Go.Sx
namespace Ln
open Go.Sx Go
theorem UX(os:List Op)(q:Nat):∀n:Nat,(jE os n).testBit q=(decide (q<n)&&decide (0≤(os.getD q default).e))
 |0=>by simp[jE]
 |n+1=>by
  unfold jE;have ih:=UX os q n;by_cases he:0≤(os.getD n default).e
  ·rw[if_pos he,Nat.testBit_or,ih,Nat.testBit_two_pow];by_cases e:n=q
   ·subst e;simp;simpa using he
   ·by_cases hq:q<n
    ·simp[hq,show q<n+1 by omega,e]
    ·simp[hq,show ¬q<n+1 by omega,e]
  ·rw[if_neg he,ih];by_cases e:q=n
   ·subst e;simp;simpa using he
   ·by_cases hq:q<n
    ·simp[hq,show q<n+1 by omega]
    ·simp[hq,show ¬q<n+1 by omega]
theorem asq(os:List Op)(d:Nat):(d &&& jE os os.length=jE os os.length)↔C7 os d=true:=by
 unfold C7;rw[wG];constructor
 ·intro h q hq;have hq:=List.mem_range.1 hq;have h2:=congrArg (fun x=>Nat.testBit x q) h;simp only[Nat.testBit_and,UX,hq,decide_true,Bool.true_and]at h2;cases h3:decide (0≤(os.getD q default).e)with
  |false=>rfl
  |true=>rw[h3,Bool.and_true]at h2;rw[h2];rfl
 ·intro h;apply Nat.eq_of_testBit_eq;intro q;rw[Nat.testBit_and,UX];by_cases hq:q<os.length
  ·have:=h q (List.mem_range.2 hq);cases h3:decide (0≤(os.getD q default).e)with
   |false=>simp
   |true=>rw[h3]at this;simp at this;simp[hq,this]
  ·simp[hq]
variable{C:bQ}{X:Kn}(S:Std C X)
include S
theorem ain{i:Nat}{os:List Op}(ho:os.length≤16){cO:AV}{s0:St}{c:Cf St}(hd:c.1<65536){h:T ah}{nx bj:Key}(hb:ae bj h=some (.cells (jB X i cO s0 (jE os os.length)) .fix))(EJ:bj.toNat<nx.toNat) :
  aG C c9 [.ptr bj 0,.agg (eC c)] h nx (fun o h' nx'=>o=.ret (.bool (C7 os c.1))∧Ext h nx h' nx'):=by
 refine S.rm.call ?_;simp[lZ];simp[qc,CM,pr];have e0:=E0 h nx (.cells (eC c) .fix);have bc:ae nx (aw nx (some (.cells (eC c) .fix)) h)=some (.cells (eC c) .fix):=by simp
 have bj1:ae bj (aw nx (some (.cells (eC c) .fix)) h)=some (.cells (jB X i cO s0 (jE os os.length)) .fix):=by rw[e0.g bj EJ];exact hb
 generalize aw nx (some (.cells (eC c) .fix)) h=h1 at *;have elt:=ZM os os.length;have p16:=lC (j:=os.length) ho;have Pp:Ta .i64 (c.1:Int)=c.1:=uO (by omega);have QN:Ta .i64 ((jE os os.length:Nat):Int)=jE os os.length:=uO (by omega);have hle:c.1 &&& jE os os.length≤c.1:=Nat.and_le_left;have hw:aW .i64 ((c.1 &&& jE os os.length:Nat):Int)=((c.1 &&& jE os os.length:Nat):Int):=aB (by omega) (by omega);have ec0:(eC c)[0]?=some (I c.1):=rfl;simp[qd,bc,bj1,jB,ec0,Pp,QN,hw];refine⟨?_,e0⟩;rw[Bool.eq_iff_iff,beq_iff_eq,←asq];omega
theorem akv{bj:Key}{c:Cf St}{h:T ah}{nx:Key}:aG C fT [.ptr bj 0,.agg (eC c)] h nx (fun o h' nx'=>o=.ret (.fn cJ [] [.ptr nx 0,.ptr nx.succ 0])∧ae nx h'=some (.cells [.ptr bj 0] .fix)∧ae nx.succ h'=some (.cells (eC c) .fix)∧nx'=nx.succ.succ∧Ext h nx h' nx'):=by have s1:=kTSu nx;have s2:=kTSu nx.succ;refine S.tO.call ?_;simp[pN];simp[sK,CM,pr];simp[sM];exact(E0 h nx _).trans (E0 _ nx.succ _)
structure axk(C:bQ)(X:Kn)(i:Nat)(os:List Op)(cO:AV)(s0:St)(bj b2 b3 lk:Key)(c:Cf St)(Inv:Nat→T ah→Key→Prop)(R:Out→T ah→Key→Prop):Prop where
 cF:∀k h nx h' nx',Inv k h nx→Ext h nx h' nx'→Inv k h' nx'
 has:∀k h nx,Inv k h nx→ae bj h=some (.cells (jB X i cO s0 (jE os os.length)) .fix)∧ae b2 h=some (.cells [.ptr bj 0] .fix)∧ae b3 h=some (.cells (eC c) .fix)∧bj.toNat<nx.toNat∧b2.toNat<nx.toNat∧b3.toNat<nx.toNat
 skip:∀k h nx,k<os.length→(aP X i os).step c k=none→Inv k h nx→Inv (k+1) h nx
 yld:∀k x h nx,k<os.length→(aP X i os).step c k=some (k,x)→Inv k h nx→C8 C lk [I k,.agg (eC x)] h nx (fun o h' nx'=>(o=.ret (.bool true)∧Inv (k+1) h' nx')∨(o=.ret (.bool false)∧R (.ret (.tuple [])) h' nx'))
 fin:∀h nx,Inv os.length h nx→R (.ret (.tuple [])) h nx
def S1I(os:List Op)(b2 b3 lk:Key)(Inv:Nat→T ah→Key→Prop)(m:Nat)(ay:T AV)(h':T ah)(nx':Key):Prop:=∃k:Nat,m=os.length-k∧k≤os.length∧ae (K 0) ay=some (.yld lk)∧ae (K 1) ay=some (.ptr b2 0)∧ae (K 2) ay=some (.ptr b3 0)∧ae (K 11) ay=some (I os.length)∧ae (K 12) ay=some (I k)∧Inv k h' nx'
theorem akw{i:Nat}(hi:i<3){os:List Op}(tC:lY i os=0)(yv:∀o∈os,before o o=false)(ho:os.length≤16){cO:AV}(hc:gI 10 eO cO os){s0:St}{bj b2 b3 lk:Key}{c:Cf St}(hd:c.1<65536)(hs:iz i c.2){Inv:Nat→T ah→Key→Prop}{R:Out→T ah→Key→Prop}(A:axk C X i os cO s0 bj b2 b3 lk c Inv R){h:T ah}{nx:Key}(h0:Inv 0 h nx) :
  aG C cJ [.yld lk,.ptr b2 0,.ptr b3 0] h nx R:=by
 have rT:C.raw fC=false:=S.nr (by decide);have rP:C.raw fS=false:=S.nr (by decide);refine S.jJ.call ?_;simp[kW];obtain⟨bj0,b20,b30,_⟩:=A.has _ _ _ h0;have start:∀n:Nat,n=os.length→W C (.loop iW) (aC 0 (bZ [] R)) (aw (K 12) (some (I 0)) (aw (K 11) (some (I n)) (aw (K 10) (some cO) (aw (K 9) (some (.ptr bj 2)) (aw (K 8) (some (.ptr bj 0)) (aw (K 7) (some (.ptr bj 0)) (aw (K 2) (some (.ptr b3 0)) (aw (K 1) (some (.ptr b2 0)) (aw (K 0) (some (.yld lk)) .nil))))))))) h nx:=by
  rintro _ rfl;refine W.dy (n:=os.length) (S1I os b2 b3 lk Inv) ⟨0,by simp,by omega,by simp,by simp,by simp,by simp,by simp,h0⟩ ?_;rintro m ef h1 bS ⟨k,rfl,hk,g0,g1,g2,g11,g12,h1k⟩;obtain⟨bj1,b21,b31,ltj,lt2,lt3⟩:=A.has _ _ _ h1k;refine W.of ?_;simp[iW];by_cases Qh:k<os.length
  ·have hki:(k:Int)<os.length:=by omega
   have ec0:(eC c)[0]?=some (I c.1):=rfl;simp[iX,g11,g12,hki];simp[pt,g12];simp[pw,g1,g2,b21,b31,ec0,rT];refine(akx S ho hc Qh hd bj1 ltj).mono ?_;rintro o h2 aN ⟨rfl,e2⟩;rw[asr yv Qh];have n2:=e2.n;have h2k:=A.cF _ _ _ _ _ h1k e2;obtain⟨Yn,b22,b32,aIT,aRC,aRD⟩:=A.has _ _ _ h2k;have next:∀(aJ:T AV) (h':T ah) (nx':Key),ae (K 0) aJ=some (.yld lk)→ae (K 1) aJ=some (.ptr b2 0)→ae (K 2) aJ=some (.ptr b3 0)→ae (K 11) aJ=some (I os.length)→ae (K 12) aJ=some (I k)→Inv (k+1) h' nx'→
     lA C (aQ (fun tm h nx=>∃m,m<os.length-k∧S1I os b2 b3 lk Inv m tm h nx) (aC 0 (bZ [] R))) iY aJ h' nx':=by
    intro aJ h' nx' q0 q1 q2 Qf q12 hI;simp[iY,q12];rw[aB (by omega) (by omega)];exact⟨os.length-(k+1),by omega,k+1,rfl,by omega,by simp[q0],by simp[q1],by simp[q2],by simp[Qf],by simp,hI⟩
   have ei:(aP X i os).step c k=if Av os k c.1=true then(X.take (cm i os[k]) os[k] c.2).map (fun s=>(k,(c.1+2^k,s)))else none:=by rw[Pt,pS Qh]
   cases mg:Av os k c.1 with
   |false=>rw[mg]at ei;simp;refine next _ _ _ ?_ ?_ ?_ ?_ ?_ (A.skip _ _ _ Qh (by rw[ei];rfl) h2k)<;>simp[g0,g1,g2,g11,g12]
   |true=>
    rw[mg,if_pos rfl]at ei;have hco:=S9 hi tC (yT Qh);have tk:List.take 4 (eC c).tail=eS c.2:=rfl;have ZN:c.1.testBit k=false:=JB X i os k c.1 mg;simp;simp[py,g1,g2,b22,b32,pr,tk,rP,zd];refine(an9 S hc hco hs Yn aIT).mono ?_;rintro o h3 bY ⟨⟨u,rfl,hu⟩,e3⟩;have n3:=e3.n;have s3:=kTSu bY;simp[xS,lenS,UL];have e4:=E0 h3 bY (.cells (eS u) .fix);have b5:ae bY (aw bY (some (.cells (eS u) .fix)) h3)=some (.cells (eS u) .fix):=by simp
    generalize aw bY (some (.cells (eS u) .fix)) h3=h4 at *;have h4k:=A.cF _ _ _ _ _ h2k (e3.trans e4);obtain⟨bj4,b24,b34,aRF,aRG,aRH⟩:=A.has _ _ _ h4k;cases ht:X.take (cm i os[k]) os[k] c.2 with
    |none=>rw[ht]at ei;simp[iZ];refine next _ _ _ ?_ ?_ ?_ ?_ ?_ (A.skip _ _ _ Qh ei h4k)<;>simp[g0,g1,g2,g11,g12]
    |some v=>
     rw[ht]at ei;have:=hu v ht;subst this;have hsh:O0 .i64 k=true:=by unfold O0;exact Nat.ble_eq_true_of_le (by omega)
     have hp2:2^k≤65536:=lC (by omega);have hw:aW .i64 ((2^k:Nat):Int)=((2^k:Nat):Int):=by obtain⟨z,hz,hzl⟩:∃z:Nat,z=2^k∧z≤65536:=⟨_,rfl,hp2⟩;rw[←hz];exact aB (by omega) (by omega)
     have Pp:Ta .i64 ((2^k:Nat):Int)=2^k:=uO hp2;have QN:Ta .i64 (c.1:Int)=c.1:=uO (by omega);have hor:=aeO k c.1 ZN;have OF:aW .i64 ((c.1 ||| 2^k:Nat):Int)=((c.1+2^k:Nat):Int):=by obtain⟨z,hz,hzl⟩:∃z:Nat,z=c.1+2^k∧z≤200000:=⟨_,rfl,by omega⟩;rw[hor,←hz];exact aB (by omega) (by omega)
     simp[iZ,g0,g2,b34,ec0,b5,lenS,su,hsh,-Int.natCast_pow,-Int.natCast_add,hw,Pp,QN,OF];refine(A.yld k (c.1+2^k,u) _ _ Qh ei h4k).mono ?_;rintro o h5 r9 (⟨rfl,h5k⟩|⟨rfl,hR⟩)
     ·simp;refine next _ _ _ ?_ ?_ ?_ ?_ ?_ h5k<;>simp[g0,g1,g2,g11,g12]
     ·simp;exact hR
  ·have hke:k=os.length:=by omega
   subst hke;simp[iX,g11,g12];exact A.fin _ _ h1k
 rcases id hc with⟨e0,e1⟩|e0
 ·have hl0:os.length=0:=by rw[e1];rfl
  have:=start 0 hl0.symm;simp[ja,b20,bj0,jB,e0];simpa[e0]using this
 ·have:=start os.length rfl;simp[ja,b20,bj0,jB,e0];simpa[e0]using this
end Ln
namespace Go.Sx
theorem V.aCD{C:bQ}{c:aI}{j:Nat}{Q:rp}{ds:List Key}{tm:T AV}{h:T ah}{nx:Key}(hw:W C (.loop c) (aC j (atD Q ds)) tm h nx):V C (.loop c) (xg j Q) ds tm h nx:=
 V.adZ (hw.mono fun e tm h nx hq=>by cases e<;>exact hq)
end Go.Sx
namespace Ln
open Go.Sx Go
variable{C:bQ}{X:Kn}(S:Std C X)
include S
structure RfA(X:Kn)(i:Nat)(os:List Op)(cO c3:AV)(b8 b10 bj:Key)(tm:T AV)(h:T ah)(nx:Key):Prop where
 k8:ae (K 8) tm=some (.ptr b8 0)
 bP:ae (K 10) tm=some (.ptr b10 0)
 cM:ae (K 11) tm=some (.ptr bj 0)
 v8:ae b8 h=some (.cells [c3] .fix)
 v10:ae b10 h=some (.cells [I 0] .fix)
 vj:ae bj h=some (.cells (jB X i cO (cX i) (jE os os.length)) .fix)
 lt:b8.toNat<nx.toNat∧b10.toNat<nx.toNat∧bj.toNat<nx.toNat
omit S in
theorem RfA.ext{i:Nat}{os:List Op}{cO c3:AV}{b8 b10 bj:Key}{tm ay:T AV}{h h':T ah}{nx nx':Key}(A:RfA X i os cO c3 b8 b10 bj tm h nx)(e:Ext h nx h' nx')(h8:ae (K 8) ay=ae (K 8) tm)(h10:ae (K 10) ay=ae (K 10) tm)(h11:ae (K 11) ay=ae (K 11) tm):RfA X i os cO c3 b8 b10 bj ay h' nx':=by have n:=e.n;have lt:=A.lt;exact⟨h8.trans A.k8,h10.trans A.bP,h11.trans A.cM,(e.g b8 lt.1).trans A.v8,(e.g b10 lt.2.1).trans A.v10,(e.g bj lt.2.2).trans A.vj,by omega⟩
end Ln
namespace Go.Sx
theorem Fn.callV{C:bQ}{f:Nat}{p:fe}(S:Fn C f p){l:List AV}{h:T ah}{nx:Key}{R:Out→T ah→Key→Prop}(hw:RC C p.body (apV p.res R) [] (iN l (K 0) .nil) h nx):aG C f l h nx R:=
 aG.aKW (S.off _ _ _) S.get S.mY (vD hw)
theorem C8.intro{C:bQ}{l:Key}{args:List AV}{h:T ah}{nx:Key}{R:Out→T ah→Key→Prop}{fn:Nat}{tm ef:T AV}{res:List RV}{ps:List Key}{a b:aI}{d:Key}(M:T AV→T ah→Key→Prop)(hl:ae l h=some (.loop .ready none fn tm res ps a b d))(hz:atl ps args tm=some ef)
  (ha:gn C a (fun e aJ h2 aN=>e=.norm∧M aJ h2 aN) ef h nx) (hb:∀aJ h2 aN,M aJ h2 aN→ae l h2=some (.loop .ready none fn tm res ps a b d)∧gn C b (Mm R l fn tm res ps a b d) aJ (aw l (some (.loop .busy none fn tm res ps a b d)) h2) aN):C8 C l args h nx R:=by
 refine⟨fn,tm,res,ps,a,b,d,⟨_,hl⟩,ef,hz,(om ha).mono ?_⟩;rintro e aJ h2 aN ⟨he,hm⟩;exact⟨he,none,(hb _ _ _ hm).1,om (hb _ _ _ hm).2⟩
section
variable(R:Out→T ah→Key→Prop)(l:Key)(fn:Nat)(tm aJ:T AV)(res:List RV)(ps:List Key)(a b:aI)(d:Key)(h:T ah)(nx:Key)
@[simp] theorem avt:Mm R l fn tm res ps a b d .norm aJ h nx=((∃p,ae l h=some (.loop .busy p fn tm res ps a b d))∧R (.ret (.bool true)) (aw l (some (.loop .ready none fn tm res ps a b d)) h) nx):=yL Iff.rfl
@[simp] theorem ayr:Mm R l fn tm res ps a b d .ret aJ h nx=((∃p,ae l h=some (.loop .busy p fn tm res ps a b d))∧R (.ret (.bool false)) (aw l (some (.loop .done (some .ret) fn tm res ps a b d)) h) nx):=yL Iff.rfl
end
structure mN(n0:Key)(ds:List Key)(h:T ah)(nx:Key):Prop where
 nodup:ds.Nodup
 get:∀b∈ds,ae b h=some (.dfs false)
 ge:∀b∈ds,n0.toNat≤b.toNat
 lt:∀b∈ds,b.toNat<nx.toNat
theorem mN.nil(n0:Key)(h:T ah)(nx:Key):mN n0 [] h nx:=⟨by simp,by simp,by simp,by simp⟩
theorem mN.cF{n0:Key}{ds:List Key}{h h':T ah}{nx nx':Key}(A:mN n0 ds h nx)(hn:nx.toNat≤nx'.toNat)(hg:∀b,b.toNat<nx.toNat→ae b h=some (.dfs false)→ae b h'=some (.dfs false)):mN n0 ds h' nx':=
 ⟨A.nodup,fun b hb=>hg b (A.lt b hb) (A.get b hb),A.ge,fun b hb=>by have:=A.lt b hb;omega⟩
theorem mN.ext{n0:Key}{ds:List Key}{h h':T ah}{nx nx':Key}(A:mN n0 ds h nx)(e:Ext h nx h' nx'):mN n0 ds h' nx':=A.cF e.n fun b hb hg=>(e.g b hb).trans hg
theorem mN.cons{n0 d:Key}{ds:List Key}{h:T ah}{nx:Key}(A:mN n0 ds h nx)(hd:d∉ds)(hg:ae d h=some (.dfs false))(Wl:n0.toNat≤d.toNat)(cD:d.toNat<nx.toNat):mN n0 (d ::ds) h nx:=by
 refine⟨List.nodup_cons.2 ⟨hd,A.nodup⟩,?_,?_,?_⟩
 ·intro b hb;rcases OG.1 hb with rfl|hb
  ·exact hg
  ·exact A.get b hb
 ·intro b hb;rcases OG.1 hb with rfl|hb
  ·exact Wl
  ·exact A.ge b hb
 ·intro b hb;rcases OG.1 hb with rfl|hb
  ·exact cD
  ·exact A.lt b hb
end Go.Sx
namespace Ln
open Go.Sx Go
structure RfB(X:Kn)(i:Nat)(os:List Op)(cO c3:AV)(b8 b10 bj b15 n0:Key)(h0:T ah)(ds:List Key)(tm:T AV)(h:T ah)(nx:Key):Prop where
 a:RfA X i os cO c3 b8 b10 bj tm h nx
 du:ae (K 15) tm=some (.ptr b15 0)
 v15:ae b15 h=some (.cells [.fn Mp [] [.ptr b8 0]] .fix)
 lt:b15.toNat<nx.toNat
 d:mN n0 ds h nx
 e:Ext h0 n0 h nx
 ge:n0.toNat≤b10.toNat
theorem RfB.ext{X:Kn}{i:Nat}{os:List Op}{cO c3:AV}{b8 b10 bj b15 n0:Key}{h0:T ah}{ds:List Key}{tm ay:T AV}{h h':T ah}{nx nx':Key}(A:RfB X i os cO c3 b8 b10 bj b15 n0 h0 ds tm h nx)(e:Ext h nx h' nx')(h8:ae (K 8) ay=ae (K 8) tm)(h10:ae (K 10) ay=ae (K 10) tm)(h11:ae (K 11) ay=ae (K 11) tm)(h15:ae (K 15) ay=ae (K 15) tm) :
  RfB X i os cO c3 b8 b10 bj b15 n0 h0 ds ay h' nx':=
 ⟨A.a.ext e h8 h10 h11,h15.trans A.du,(e.g b15 A.lt).trans A.v15,by have:=e.n;have:=A.lt;omega,A.d.ext e,A.e.trans e,A.ge⟩
def ays(S:Sys St)(L:List (Cf St))(c:Cf St)(k:Nat):Prop:=∀x∈S.dS c k,x.2∈L
variable{C:bQ}{X:Kn}(S:Std C X)
include S
omit S in
theorem RfB.put{i:Nat}{os:List Op}{cO c3:AV}{b8 b10 bj b15 n0 lk:Key}{h0:T ah}{ds:List Key}{tm:T AV}{h:T ah}{nx:Key}{v:Option ah}(A:RfB X i os cO c3 b8 b10 bj b15 n0 h0 ds tm h nx)(h1:∀l k,ae lk h≠some (.cells l k))(h2:ae lk h≠some (.dfs false))(Wl:n0.toNat≤lk.toNat) :
  RfB X i os cO c3 b8 b10 bj b15 n0 h0 ds tm (aw lk v h) nx:=by
 have hc:∀b l k,ae b h=some (.cells l k)→ae b (aw lk v h)=some (.cells l k):=fun b l k hb=>by rw[aU _ _ _ _ (by rintro rfl;exact h1 l k hb)];exact hb
 refine⟨⟨A.a.k8,A.a.bP,A.a.cM,hc _ _ _ A.a.v8,hc _ _ _ A.a.v10,hc _ _ _ A.a.vj,A.a.lt⟩,A.du,hc _ _ _ A.v15,A.lt,A.d.cF (fg _) fun b _ hg=>?_,A.e.put Wl,A.ge⟩;rw[aU _ _ _ _ (by rintro rfl;exact h2 hg)];exact hg
omit S in
theorem ays.succ{Sy:Sys St}{L:List (Cf St)}{c:Cf St}{k:Nat}(h:ays Sy L c k)(hk:∀x,Sy.step c k=some x→x.2∈L):ays Sy L c (k+1):=by
 intro x hx;rw[gQ,List.mem_append]at hx;rcases hx with hx|hx
 ·exact h x hx
 ·cases hs:Sy.step c k with
  |none=>rw[hs]at hx;simp at hx
  |some y=>rw[hs]at hx;simp at hx;subst hx;exact hk _ hs
end Ln
namespace Ln
open Go.Sx Go
def Ps:List Nat→Nat
 | []=>0
 |b ::t=>orU (aeI (Ps t) 8) (Wf b)
def nw(l:List Nat):Nat:=(l.length+7) / 8
def seg(l:List Nat)(k:Nat):List Nat:=(l.drop (8*k)).take 8
def word(l:List Nat)(k:Nat):Nat:=Ps (seg l k)
theorem anf{l:List Nat}{i:Nat}(hi:i<l.length):List.take 1 (List.drop i (ag eY l))=[.int .u8 (.lit ((l[i]:Nat):Int))]:=by have:=Kr.at hi;rw[Nat.mul_one]at this;exact this
theorem arY{l:List Nat}{i:Nat}(hi:i<l.length):(ag eY l)[i]?=some (.int .u8 (.lit ((l[i]:Nat):Int))):=by
 have h1:∀(l:List Nat),ag eY l=l.map fun b:Nat=>AV.int .u8 (.lit (b:Int)):=fun l=>by
  induction l with
  |nil=>rfl
  |cons a l ih=>rw[dE,ih];rfl
 rw[h1,List.getElem?_map,yT hi];rfl
theorem aj8{s:List Nat}{j:Nat}(hj:j<s.length):Ps (s.drop j)=orU (aeI (Ps (s.drop (j+1))) 8) (Wf (s[j]:Nat)):=by rw[zqt hj];rfl
variable{C:bQ}{X:Kn}(S:Std C X)(H:OU C)
include H
theorem Yg{c:AV}{l:List Nat}(hc:gI 1 eY c l){h:T ah}{nx:Key}:aG C jG [c] h nx (fun o h' nx'=>o=.ret (.fn dL [] [.ptr nx 0])∧ae nx h'=some (.cells [c] .fix)∧nx'=nx.succ∧Ext h nx h' nx'):=by have s1:=kTSu nx;have kc:=hc.cell;refine H.KH.call ?_;simp[IE];simp[IF,kc.1,kc.2];simp[IG];exact E0 h nx _
structure Grp(C:bQ)(c:AV)(l:List Nat)(b1 lk:Key)(Inv:Nat→T ah→Key→Prop)(R:Out→T ah→Key→Prop):Prop where
 has:∀k h nx,Inv k h nx→ae b1 h=some (.cells [c] .fix)
 yld:∀k h nx,k<nw l→Inv k h nx→C8 C lk [mJ (word l k)] h nx (fun o h' nx'=>o=.ret (.bool true)∧Inv (k+1) h' nx')
 fin:∀h nx,Inv (nw l) h nx→R (.ret (.tuple [])) h nx
structure GrA(b1 lk:Key)(a:Nat)(tm:T AV):Prop where
 g0:ae (K 0) tm=some (.yld lk)
 g1:ae (K 1) tm=some (.ptr b1 0)
 g3:ae (K 3) tm=some (I (a:Int))
def GrI(l:List Nat)(b1 lk:Key)(Inv:Nat→T ah→Key→Prop)(m:Nat)(ay:T AV)(h':T ah)(nx':Key):Prop:=∃k a:Nat,m=nw l-k∧k≤nw l∧a=8*k∧GrA b1 lk a ay∧Inv k h' nx'
def GrJ(s:List Nat)(b1 lk:Key)(a:Nat)(h:T ah)(nx:Key)(m:Nat)(ay:T AV)(h':T ah)(nx':Key):Prop:=m≤s.length∧GrA b1 lk a ay∧ae (K 4) ay=some (mJ (Ps (s.drop m)))∧ae (K 5) ay=some (I ((a:Int)+(m:Int)-1))∧h'=h∧nx'=nx
theorem awk{l:List Nat}(hl:l.length≤1000000){b1 lk:Key}{k a:Nat}(EK:a=8*k)(hk:a<l.length){c:AV}(hc:c=.sl (ag eY l) l.length 1 .any){h:T ah}{nx:Key}(hb:ae b1 h=some (.cells [c] .fix)){Q:dh}{m:Nat}{tm:T AV}(A:GrJ (seg l k) b1 lk a h nx m tm h nx)
  (fy:∀ay,GrA b1 lk a ay→ae (K 4) ay=some (mJ (word l k))→Q .norm ay h nx) :
  W C (.loop sC) (aC 2 Q) tm h nx:=by
 have hs:(seg l k).length≤8:=by unfold seg;rw[Y7];omega
 refine W.dy (GrJ (seg l k) b1 lk a h nx) A ?_;rintro m ef h2 aN ⟨hm,⟨g0,g1,g3⟩,g4,g5,rfl,rfl⟩;refine W.of ?_;simp[sC];cases m with
 |zero=>
  have cD:(a:Int)-1<(a:Int):=by omega
  simp at g5;simp[sD,g3,g5,cD];refine fy _ ⟨by simp[g0],by simp[g1],by simp[g3]⟩ (by simp[g4,word])
 |succ j=>
  have hjs:j<(seg l k).length:=by omega
  have hsl:(seg l k).length=min 8 (l.length-8*k):=by unfold seg;rw[Y7,List.length_drop]
  have hi:a+j<l.length:=by omega
  have Yh:(seg l k)[j]=l[a+j]:=by
   have h1:(seg l k)[j]?=some l[a+j]:=by unfold seg;rw[List.getElem?_take,if_pos (by omega),List.getElem?_drop,←EK,yT hi]
   rw[yT hjs]at h1;exact Option.some.inj h1
  have g5':ae (K 5) ef=some (I ((a+j:Nat):Int)):=by
   rw[g5];have:(a:Int)+((j+1:Nat):Int)-1=((a+j:Nat):Int):=by omega
   rw[this]
  have hle:¬a+j<a:=by omega
  have hws:=aj8 hjs;rw[Yh]at hws;have hx:=arY hi;have h1l:1≤(ag eY l).length-(a+j):=by rw[Kr.rows];omega
  have hy:=anf hi;generalize hwo:Ps (List.drop (j+1) (seg l k))=w0 at *;generalize ON:l[a+j]=b0 at *;generalize hii:a+j=ii at *;have hcu:aW .u64 (b0:Int)=((Wf b0:Nat):Int):=Qc _;have hwi:aW .i64 ((ii:Int)-1)=(ii:Int)-1:=aB (by omega) (by omega);simp[sD,g3,g5',hle];simp[A9,g1,g4,g5',hb,hc,hi,hx,hy,h1l,hcu,↓anh w0,↓awm (aeI w0 8) (Wf b0)];simp[Ba,g5',hwi];refine⟨j,by omega,by omega,⟨by simp[g0],by simp[g1],by simp[g3]⟩,by simp[hws],?_,rfl,rfl⟩;simp;omega
theorem awn{l:List Nat}(hl:l.length≤1000000){b1 lk:Key}{a s:Nat}(hk:a<l.length)(hs:s=min 8 (l.length-a)){c:AV}(hc:c=.sl (ag eY l) l.length 1 .any){h:T ah}{nx:Key}(hb:ae b1 h=some (.cells [c] .fix)){Q:dh}{tm:T AV}(G:GrA b1 lk a tm)
  (hQ:∀ay,GrA b1 lk a ay→ae (K 4) ay=ae (K 4) tm→ae (K 5) ay=some (I ((a:Int)+(s:Int)-1))→Q .norm ay h nx):gn C (.ops ml) Q tm h nx:=by
 obtain⟨g0,g1,g3⟩:=G;have hw8:aW .i64 ((a:Int)+8)=(a:Int)+8:=aB (by omega) (by omega);have hws:aW .i64 ((a:Int)+(s:Int)-1)=(a:Int)+(s:Int)-1:=aB (by omega) (by omega);by_cases h8:(l.length:Int)<(a:Int)+8
 ·have e:(l.length:Int)-1=(a:Int)+(s:Int)-1:=by omega
  simp[ml,g1,g3,hb,hc,hw8,h8,e,hws];exact hQ _ ⟨by simp[g0],by simp[g1],by simp[g3]⟩ (by simp) (by simp)
 ·have e:(a:Int)+8-1=(a:Int)+(s:Int)-1:=by omega
  simp[ml,g1,g3,hb,hc,hw8,h8,e,hws];exact hQ _ ⟨by simp[g0],by simp[g1],by simp[g3]⟩ (by simp) (by simp)
theorem UG{c:AV}{l:List Nat}(hc:gI 1 eY c l)(hl:l.length≤1000000){b1 lk:Key}{Inv:Nat→T ah→Key→Prop}{R:Out→T ah→Key→Prop}(A:Grp C c l b1 lk Inv R){h:T ah}{nx:Key}(h0:Inv 0 h nx) :
  aG C dL [.yld lk,.ptr b1 0] h nx R:=by
 refine H.nZ.call ?_;simp[zu];simp[Bb];refine W.dy (n:=nw l) (GrI l b1 lk Inv) ⟨0,0,by simp,by omega,rfl,⟨by simp,by simp,by simp⟩,h0⟩ ?_;rintro m ef h1 bS ⟨k,a,rfl,hk,EK,⟨g0,g1,g3⟩,hI⟩;have hb:=A.has _ _ _ hI;refine W.of ?_;simp[Bc];by_cases OH:k<nw l
 ·have Qh:a<l.length:=by unfold nw at OH;omega
  have Pm:c=.sl (ag eY l) l.length 1 .any:=by
   rcases hc with⟨_,e⟩|e
   ·rw[e]at Qh;simp at Qh
   ·exact e
  have hsl:(seg l k).length=min 8 (l.length-a):=by unfold seg;rw[Y7,List.length_drop,EK]
  have hw8:aW .i64 ((a:Int)+8)=(a:Int)+8:=aB (by omega) (by omega);simp[mn,g1,g3,hb,Pm,Qh];simp[Bd];refine amD (awn (C:=C) H hl (b1:=b1) (lk:=lk) Qh hsl Pm hb ⟨by simp[g0],by simp[g1],by simp[g3]⟩ (fun aJ G2 p4 p5=>?_));simp at p4;simp;refine awk H hl EK Qh Pm hb (m:=(seg l k).length) ⟨fg _,G2,?_,p5,rfl,rfl⟩ (fun Pb G3 r4=>?_)
  ·rw[p4,List.drop_length];rfl
  ·obtain⟨r0,r1,r3⟩:=G3;simp[Be,r0,r4];refine(A.yld k _ _ OH hI).mono ?_;rintro o h4 jZ ⟨rfl,hI4⟩;simp;simp[Bf,r3,hw8];exact⟨nw l-(k+1),by omega,k+1,a+8,rfl,by omega,by omega,⟨by simp[r0],by simp[r1],by simp⟩,hI4⟩
 ·have hke:k=nw l:=by omega
  subst hke;have hnl:¬a<l.length:=by rw[EK];unfold nw;omega
  rcases id hc with⟨e0,e1⟩|e0
  ·subst e1;have hn0:¬(a:Int)<0:=by omega
   simp[mn,g1,g3,hb,e0,hn0];exact A.fin _ _ hI
  ·simp[mn,g1,g3,hb,e0,hnl];exact A.fin _ _ hI
end Ln
namespace Ln
open Go.Sx Go
def fsU(s:Nat)(l:List Nat)(k:Nat):Nat:=(List.range k).foldl (fun s j=>Ob s (word l j)) s
theorem aqs(s:Nat)(l:List Nat)(k:Nat):fsU s l (k+1)=Ob (fsU s l k) (word l k):=by unfold fsU;rw[List.range_succ,List.foldl_append,List.foldl_cons,List.foldl_nil]
structure SmI(c:AV)(b1 b5 n0 d lk:Key)(h0:T ah)(ds:List Key)(L:ah)(v:AV)(h:T ah)(nx:Key):Prop where
 fl:ae lk h=some L
 f1:ae b1 h=some (.cells [c] .fix)
 f5:ae b5 h=some (.cells [v] .fix)
 lt:lk.toNat<nx.toNat∧b1.toNat<nx.toNat∧b5.toNat<nx.toNat
 ds:mN n0 (d ::ds) h nx
 e:Ext h0 n0 h nx
variable{C:bQ}{X:Kn}(S:Std C X)(H:OU C)
include S H
theorem alx{c:AV}{l:List Nat}(hc:gI 1 eY c l)(hl:l.length≤1000000){b1 b5 n0:Key}{h0:T ah}{s:Nat}{Q:rp}{ds:List Key}{tm:T AV}{h:T ah}{nx:Key}(g11:ae (K 11) tm=some (.fn dL [] [.ptr b1 0]))(g5:ae (K 5) tm=some (.ptr b5 0))(v1:ae b1 h=some (.cells [c] .fix))(v5:ae b5 h=some (.cells [mJ s] .fix))(lt:b1.toNat<nx.toNat∧b5.toNat<nx.toNat)(Wl:n0.toNat≤b5.toNat)(aKX:b1≠b5)(D:mN n0 ds h nx)(e0:Ext h0 n0 h nx)
  (Vd:∀Cx h' nx',ae b5 h'=some (.cells [mJ (fsU s l (nw l))] .fix)→b5.toNat<nx'.toNat→mN n0 Cx h' nx'→Ext h0 n0 h' nx'→Q .norm Cx tm h' nx') :
  V C (.rangeF (.t (K 11)) [K 12] (.ops de) (.block 1 (.ops wF))) Q ds tm h nx:=by
 have rM:C.raw gH=false:=S.nr (by decide);have s1:=kTSu nx;have s2:=kTSu nx.succ;have n0x:=e0.n;refine V.rangeF (g:=dL) (first:=[]) (cap:=[.ptr b1 0]) g11 H.nZ.off ?_;intro fn res;have e1:=(E0 h nx (.dfs false)).trans (E0 _ nx.succ (.loop .ready none fn tm res [K 12] (.ops de) (.block 1 (.ops wF)) nx));generalize hb5:(aI.block 1 (.ops wF))=body at *;have NV:nx∉ds:=fun hm=>by have:=D.lt nx hm;omega
 have gd:ae nx (rq fn tm res [K 12] (.ops de) body h nx)=some (.dfs false):=by unfold rq;rw[ax (by omega)];simp
 have gl:ae nx.succ (rq fn tm res [K 12] (.ops de) body h nx)=some (.loop .ready none fn tm res [K 12] (.ops de) body nx):=by unfold rq;simp
 have Cu:Ext h nx (rq fn tm res [K 12] (.ops de) body h nx) nx.succ.succ:=e1;generalize rq fn tm res [K 12] (.ops de) body h nx=hL at *;refine UG H hc hl (b1:=b1) (lk:=nx.succ) (Inv:=fun k h' nx'=>SmI c b1 b5 n0 nx nx.succ h0 ds (.loop .ready none fn tm res [K 12] (.ops de) body nx) (mJ (fsU s l k)) h' nx') ⟨?_,?_,?_⟩ ⟨gl,by rw[Cu.g _ lt.1];exact v1,by rw[Cu.g _ lt.2];exact v5,by omega,(D.ext Cu).cons NV gd n0x (by omega),e0.trans Cu⟩
 ·rintro k h1 bS A;exact A.f1
 ·rintro k h1 bS hk A;refine C8.intro (fun aJ h2 aN=>aN=bS∧h2=h1∧ae (K 6) aJ=some (mJ (word l k))∧ae (K 5) aJ=some (.ptr b5 0)) A.fl rfl ?_ ?_
  ·simp[de,g5]
  ·rintro aJ h2 aN ⟨rfl,rfl,g6,g5'⟩;refine⟨A.fl,?_⟩;have hn5:nx.succ≠b5:=fun e=>by have:=congrArg Key.toNat e;omega
   have v53:ae b5 (aw nx.succ (some (.loop .busy none fn tm res [K 12] (.ops de) body nx)) h2)=some (.cells [mJ (fsU s l k)] .fix):=by rw[aU _ _ _ _ (fun e=>hn5 e.symm)];exact A.f5
   have lk3:ae nx.succ (aw nx.succ (some (.loop .busy none fn tm res [K 12] (.ops de) body nx)) h2)=some (.loop .busy none fn tm res [K 12] (.ops de) body nx):=by simp
   have nc2:∀b:Key,b≠nx.succ→ae b (aw nx.succ (some (.loop .busy none fn tm res [K 12] (.ops de) body nx)) h2)=ae b h2:=fun b hb=>aU _ _ _ _ hb;generalize aw nx.succ (some (.loop .busy none fn tm res [K 12] (.ops de) body nx)) h2=h3 at *;generalize hrq:Mm _ nx.succ fn tm res [K 12] (.ops de) body nx=RQ;rw[←hb5];simp;simp[wF,g6,g5',v53,rM];refine(aaB S H _ _).mono ?_;rintro o h4 jZ ⟨rfl,rfl,rfl⟩;simp[g5',v53];rw[←hrq];have bX:b5≠nx.succ:=fun e=>hn5 e.symm;refine⟨⟨none,by rw[aU _ _ _ _ hn5];exact lk3⟩,rfl,?_⟩;have gb:∀b:Key,b≠nx.succ→b≠b5→ae b (aw nx.succ (some (.loop .ready none fn tm res [K 12] (.ops de) body nx)) (aw b5 (some (.cells [mJ (Ob (fsU s l k) (word l k))] .fix)) h4))=ae b h2:=fun b h1 h2=>by rw[aU _ _ _ _ h1,aU _ _ _ _ h2,nc2 b h1]
   have lkc:=A.fl;refine⟨by simp,?_,?_,A.lt,?_,?_⟩
   ·rw[gb b1 (fun e=>by rw[e]at lt;omega) aKX];exact A.f1
   ·rw[aU _ _ _ _ bX,gTSm,aqs]
   ·refine A.ds.cF (fg _) fun b _ hg=>?_;rw[gb b (by rintro rfl;rw[A.fl]at hg;cases hg) (by rintro rfl;rw[A.f5]at hg;cases hg)];exact hg
   ·refine⟨A.e.n,fun b hb=>?_⟩;rw[gb b (fun e=>by rw[e]at hb;omega) (fun e=>by rw[e]at hb;omega)];exact A.e.g b hb
 ·rintro h1 bS A;refine⟨_,rfl,.ready,none,A.fl,by simp,?_⟩;refine Vd _ _ _ ?_ A.lt.2.2 ?_ ?_
  ·rw[aU _ _ _ _ (fun e=>by have:=congrArg Key.toNat e;omega)];exact A.f5
  ·refine A.ds.cF (fg _) fun b _ hg=>?_;rw[aU _ _ _ _ (by rintro rfl;rw[A.fl]at hg;cases hg)];exact hg
  ·exact A.e.put (by omega)
def aaP:List Nat:=[118,97,108,117,101]
def fsW(s:Nat)(ws:List Int):Nat:=ws.foldl (fun s w=>Ob s (Wf w)) s
def ako(ws:List Int):Nat:=Ob (fsW (Ob (Ob (fsU 0 aaP (nw aaP)) 5) (Wf (ws.length:Int))) ws) 0
omit S H in
theorem aqt{s:Nat}{ws:List Int}{j:Nat}(hj:j<ws.length):fsW s (ws.take (j+1))=Ob (fsW s (ws.take j)) (Wf ws[j]):=by unfold fsW;rw[zqu hj,List.foldl_append,List.foldl_cons,List.foldl_nil]
def aDa(c1:AV)(ws:List Int)(b5 n0:Key)(s:Nat)(h0:T ah)(ds:List Key)(m:Nat)(ay:T AV)(h':T ah)(nx':Key):Prop:=∃j:Nat,m=ws.length-j∧j≤ws.length∧ae (K 26) ay=some c1∧ae (K 27) ay=some (I ws.length)∧ae (K 28) ay=some (I j)∧ae (K 5) ay=some (.ptr b5 0)∧ae b5 h'=some (.cells [mJ (fsW s (ws.take j))] .fix)∧b5.toNat<nx'.toNat∧Ext h0 n0 h' nx'∧mN n0 ds h' nx'
theorem ahH{c1:AV}{ws:List Int}(hw:gI 1 eI c1 ws)(hl:ws.length≤1000000){b5 n0:Key}{s:Nat}{h0:T ah}{ds:List Key}(Wl:n0.toNat≤b5.toNat){Q:dh}{m:Nat}{tm:T AV}{h:T ah}{nx:Key}(A:aDa c1 ws b5 n0 s h0 ds m tm h nx)
  (fy:∀ay h' nx',ae (K 5) ay=some (.ptr b5 0)→ae b5 h'=some (.cells [mJ (fsW s ws)] .fix)→Ext h0 n0 h' nx'→mN n0 ds h' nx'→Q .norm ay h' nx') :
  W C (.loop Jp) (aC 2 Q) tm h nx:=by
 have rM:C.raw gH=false:=S.nr (by decide);refine W.dy (aDa c1 ws b5 n0 s h0 ds) A ?_;rintro m ef h1 bS ⟨j,rfl,hj,g26,g27,g28,g5,v5,lt5,e1,D1⟩;refine W.of ?_;simp[Jp];by_cases bW:j<ws.length
 ·have v7:(j:Int)<ws.length:=by omega
  have Pm:c1=.sl (ag eI ws) ws.length 1 .any:=by
   rcases hw with⟨_,e⟩|e
   ·rw[e]at bW;simp at bW
   ·exact e
  have hx:=Jy bW;have L7:1≤(ag eI ws).length-j:=by rw[mX];omega
  have ei:=aqt (s:=s) bW;have hcu:aW .u64 ws[j]=((Wf ws[j]:Nat):Int):=Qc _;simp[Jo,g27,g28,v7];simp[RA,g26,g28,Pm,bW,hx,L7];simp[Ow,g5,v5,hcu,rM];refine(aaB S H _ _).mono ?_;rintro o h2 aN ⟨rfl,rfl,rfl⟩;simp[g5,v5];simp[Ox,g28];rw[aB (by omega) (by omega)];exact⟨ws.length-(j+1),by omega,j+1,rfl,by omega,by simp[g26,Pm],by simp[g27],by simp,by simp[g5],by rw[ei];simp,lt5,e1.put Wl,D1.cF (fg _) fun b _ hg=>by rw[aU _ _ _ _ (by rintro rfl;rw[v5]at hg;cases hg)];exact hg⟩
 ·have xM:j=ws.length:=by omega
  subst xM;rw[List.take_length]at v5;simp[Jo,g27,g28];exact fy _ _ _ (by simp[g5]) v5 e1 D1
theorem ajv(s w:Nat)(z:Int)(hz:z=(w:Int)){h:T ah}{nx:Key}:aG C gH [mJ s,.int .u64 (.lit z)] h nx (fun o h' nx'=>o=.ret (mJ (Ob s w))∧h'=h∧nx'=nx):=by subst hz;exact aaB S H s w
theorem awD{c1:AV}{ws:List Int}(hw:gI 1 eI c1 ws)(hl:ws.length≤1000000){h:T ah}{nx:Key} :
  aG C zB [.str 5 435761734006,c1] h nx (fun o h' nx'=>o=.ret (mJ (ako ws))∧Ext h nx h' nx'):=by
 have rM:C.raw gH=false:=S.nr (by decide);have rG:C.raw jG=false:=S.nr (by decide);have s1:=kTSu nx;have hcL:gI 1 eY (.sl (ag eY aaP) 5 1 .any) aaP:=.inr rfl;have hbL:bytesOf 5 435761734006=ag eY aaP:=rfl;have hz:∀H,aM 9999 (.sl (ag eY aaP) 5 1 .any) H=(.sl (ag eY aaP) 5 1 .any,H):=fun H=>hcL.r7 _ _;refine H.UR.callV ?_;simp[US];simp[Rt];simp[Ru];have e1:=E0 h nx (.cells [mJ 0] .fix);have v5:ae nx (aw nx (some (.cells [mJ 0] .fix)) h)=some (.cells [mJ 0] .fix):=by simp
 have hu0:(AV.int .u64 (.lit 0))=mJ 0:=rfl;simp only[hu0];generalize aw nx (some (.cells [mJ 0] .fix)) h=h1 at *;simp[Rv,hbL,rG,hz];refine(Yg H hcL).mono ?_;rintro o h2 aN ⟨rfl,v1,rfl,e2⟩;have s2:=kTSu nx.succ;simp;have v52:ae nx h2=some (.cells [mJ 0] .fix):=by rw[e2.g nx (by omega)];exact v5
 refine alx S H hcL (by decide) (b1:=nx.succ) (b5:=nx) (n0:=nx) (h0:=h) (s:=0) ?_ ?_ v1 v52 (by omega) (fg _) (fun e=>by have:=congrArg Key.toNat e;omega) (mN.nil _ _ _) (e1.trans e2) ?_
 ·simp
 ·simp
 intro ds h3 bY v53 lt3 D3 e3;have hw5:aW .u64 5=((5:Nat):Int):=by decide
 generalize hs0:fsU 0 aaP (nw aaP)=s0 at *;simp;simp[Rx,v53,hw5,rM];refine(ajv S H s0 5 5 (by omega)).mono ?_;rintro o h4 jZ ⟨rfl,rfl,rfl⟩;have hwl:aW .u64 (ws.length:Int)=((Wf (ws.length:Int):Nat):Int):=Qc _;generalize hs1:Ob s0 5=s1' at *;simp[v53];have e4:Ext h nx (aw nx (some (.cells [mJ s1'] .fix)) h4) jZ:=e3.put (fg _);have v54:ae nx (aw nx (some (.cells [mJ s1'] .fix)) h4)=some (.cells [mJ s1'] .fix):=by simp
 have D4:mN nx ds (aw nx (some (.cells [mJ s1'] .fix)) h4) jZ:=D3.cF (fg _) fun b _ hg=>by rw[aU _ _ _ _ (by rintro rfl;rw[v53]at hg;cases hg)];exact hg
 generalize aw nx (some (.cells [mJ s1'] .fix)) h4=h5 at *;have hR:=hw.rd h5 jZ;simp[↓hR.ln,Ry,v54,hwl,rM];refine(aaB S H s1' (Wf (ws.length:Int))).mono ?_;rintro o h6 Cv ⟨rfl,rfl,rfl⟩;generalize hs2:Ob s1' (Wf (ws.length:Int))=s2' at *;simp[v54];have e6:Ext h nx (aw nx (some (.cells [mJ s2'] .fix)) h6) Cv:=e4.put (fg _);have v56:ae nx (aw nx (some (.cells [mJ s2'] .fix)) h6)=some (.cells [mJ s2'] .fix):=by simp
 have D6:mN nx ds (aw nx (some (.cells [mJ s2'] .fix)) h6) Cv:=D4.cF (fg _) fun b _ hg=>by rw[aU _ _ _ _ (by rintro rfl;rw[v54]at hg;cases hg)];exact hg
 generalize aw nx (some (.cells [mJ s2'] .fix)) h6=h7 at *;have hR7:=hw.rd h7 Cv;simp[↓hR7.ln,Rz];have hz0:fsW s2' (ws.take 0)=s2':=by rw[List.take_zero];unfold fsW;rw[List.foldl_nil]
 refine V.aCD (ahH S H hw hl (b5:=nx) (n0:=nx) (s:=s2') (h0:=h) (ds:=ds) (m:=ws.length) (fg _) ⟨0,by simp,by omega,by simp,by simp,by simp,by simp,by rw[hz0];exact v56,by omega,e6,D6⟩ ?_);have aeC:ako ws=Ob (fsW s2' ws) 0:=by unfold ako;rw[hs0,hs1,hs2]
 rw[aeC];generalize fsW s2' ws=fw;intro ay h8 Tc g5 v8 e8 D8;simp;simp[Oy,g5,v8,rM];refine(ajv S H fw 0 0 (by omega)).mono ?_;rintro o h9 nx9 ⟨rfl,rfl,rfl⟩;generalize Ob fw 0=fz;simp;refine⟨D8.nodup,D8.get,fun h10 h11=>?_⟩;refine⟨[mJ fz],by simp,rfl,e8.n,fun b hb=>?_⟩;have:b∉ds:=fun hm=>by have:=D8.ge b hm;omega
 simp;rw[h11 b this];exact e8.g b hb
end Ln
namespace Ln
open Go.Sx Go
theorem abX{bb:Key}{ws:List Int}{rest:List AV}{h:T ah}{nx:Key}(hb:ae bb h=some (.cells (ag eI ws++rest) .fix))(hr:0<rest.length)(hl:ws.length+1≤1048576)(x:Int) :
  appendTo 1 (.slice bb 0 ws.length 1) [I x] 1 h nx=.val (.slice bb 0 (ws.length+1) 1) (aw bb (some (.cells (ag eI (ws ++ [x])++rest.drop 1) .fix)) h) nx:=by
 have hlen:=mX ws;have h1:ws.length+1≤ws.length+rest.length:=by omega
 have ht:List.take ws.length (ag eI ws++rest)=ag eI ws:=by rw[List.take_append_of_le_length (by omega),RL (by omega)]
 have hd:List.drop (ws.length+1) (ag eI ws++rest)=rest.drop 1:=by rw[zqq,List.drop_eq_nil_of_le (by omega),hlen,List.nil_append];congr 1;omega
 have hra:ag eI (ws ++ [x])=ag eI ws ++ [I x]:=by rw[jg,je];rfl
 simp[hb,hl,hlen,h1,ht,hd,hra]
theorem an5{n:Nat}{b:Key}{len:Nat}{l:List AV}{H:T ah}(hg:ae b H=some (.cells l .fix))(hl:len≤l.length)(hs:∀x∈l.take len,OC x):aM (n+1) (.slice b 0 len 1) H=(.sl (l.take len) len 1 .any,aw b (some (.cells l .ro)) H):=by simp only[aM,KB,hg,List.drop_zero];rw[if_pos (by omega),Nat.mul_one,bT hs]
theorem an4(n:Nat)(x:AV):(OY n [x] []).length=n:=by rw[repL_eq,List.append_nil];simp
def Pv(l:List Nat)(k:Nat):List Int:=(List.range k).map fun j=>aW .i64 (word l j:Int)
theorem UN(l:List Nat)(k:Nat):(Pv l k).length=k:=by simp[Pv]
theorem akK(l:List Nat)(k:Nat):Pv l (k+1)=Pv l k ++ [aW .i64 (word l k:Int)]:=by unfold Pv;rw[List.range_succ,List.map_append,zqx,List.map_nil]
def abA(l:List Nat):Nat:=ako (Pv l (nw l) ++ [(l.length:Int)])
structure ByI(c:AV)(l:List Nat)(b1 b5 bb n0 d lk:Key)(h0:T ah)(ds:List Key)(L:ah)(cap:Nat)(k:Nat)(h:T ah)(nx:Key):Prop where
 fl:ae lk h=some L
 f1:ae b1 h=some (.cells [c] .fix)
 f5:ae b5 h=some (.cells [.slice bb 0 k 1] .fix)
 fb:∃rest,ae bb h=some (.cells (ag eI (Pv l k)++rest) .fix)∧k+rest.length=cap
 ds:mN n0 (d ::ds) h nx
 e:Ext h0 n0 h nx
variable{C:bQ}{X:Kn}(S:Std C X)(H:OU C)
include S H
theorem abW{c:AV}{l:List Nat}(hc:gI 1 eY c l)(hl:l.length≤1000000){b1 b5 bb n0:Key}{h0:T ah}{cap:Nat}(BQ:nw l+1≤cap){Q:rp}{ds:List Key}{tm:T AV}{h:T ah}{nx:Key}(g13:ae (K 13) tm=some (.fn dL [] [.ptr b1 0]))(g5:ae (K 5) tm=some (.ptr b5 0))(v1:ae b1 h=some (.cells [c] .fix))(v5:ae b5 h=some (.cells [.slice bb 0 0 1] .fix))(vb:∃rest,ae bb h=some (.cells rest .fix)∧rest.length=cap)(o1:bb.toNat<b5.toNat)(o2:b5.toNat<b1.toNat)(o3:b1.toNat<nx.toNat)(Wl:n0.toNat≤bb.toNat)(D:mN n0 ds h nx)(e0:Ext h0 n0 h nx)
  (Vd:∀Cx h' nx' rest,ae b5 h'=some (.cells [.slice bb 0 (nw l) 1] .fix)→ae bb h'=some (.cells (ag eI (Pv l (nw l))++rest) .fix)→nw l+rest.length=cap→nx.toNat≤nx'.toNat→mN n0 Cx h' nx'→Ext h0 n0 h' nx'→Q .norm Cx tm h' nx') :
  V C (.rangeF (.t (K 13)) [K 14] (.ops ch) (.block 1 (.ops qh))) Q ds tm h nx:=by
 have s1:=kTSu nx;have s2:=kTSu nx.succ;have n0x:=e0.n;refine V.rangeF (g:=dL) (first:=[]) (cap:=[.ptr b1 0]) g13 H.nZ.off ?_;intro fn res;have e1:=(E0 h nx (.dfs false)).trans (E0 _ nx.succ (.loop .ready none fn tm res [K 14] (.ops ch) (.block 1 (.ops qh)) nx));generalize hb5:(aI.block 1 (.ops qh))=body at *;have NV:nx∉ds:=fun hm=>by have:=D.lt nx hm;omega
 have gd:ae nx (rq fn tm res [K 14] (.ops ch) body h nx)=some (.dfs false):=by unfold rq;rw[ax (by omega)];simp
 have gl:ae nx.succ (rq fn tm res [K 14] (.ops ch) body h nx)=some (.loop .ready none fn tm res [K 14] (.ops ch) body nx):=by unfold rq;simp
 have Cu:Ext h nx (rq fn tm res [K 14] (.ops ch) body h nx) nx.succ.succ:=e1;generalize rq fn tm res [K 14] (.ops ch) body h nx=hL at *;obtain⟨rest,vb1,vb2⟩:=vb;refine UG H hc hl (b1:=b1) (lk:=nx.succ) (Inv:=fun k h' nx'=>ByI c l b1 b5 bb n0 nx nx.succ h0 ds (.loop .ready none fn tm res [K 14] (.ops ch) body nx) cap k h' nx'∧nx.succ.succ.toNat≤nx'.toNat) ⟨?_,?_,?_⟩ ⟨⟨gl,by rw[Cu.g _ o3];exact v1,by rw[Cu.g _ (by omega)];exact v5,⟨rest,by rw[Cu.g _ (by omega)];exact vb1,by omega⟩,(D.ext Cu).cons NV gd n0x (by omega),e0.trans Cu⟩,fg _⟩
 ·rintro k h1 bS ⟨A,_⟩;exact A.f1
 ·rintro k h1 bS hk ⟨A,hn1⟩;refine C8.intro (fun aJ h2 aN=>aN=bS∧h2=h1∧ae (K 6) aJ=some (mJ (word l k))∧ae (K 5) aJ=some (.ptr b5 0)) A.fl rfl ?_ ?_
  ·simp[ch,g5]
  ·rintro aJ h2 aN ⟨rfl,rfl,g6,g5'⟩;refine⟨A.fl,?_⟩;obtain⟨rs,fb,hrs⟩:=A.fb;have t2:=kTSu aN;have n5:b5≠nx.succ:=fun e=>by rw[e]at o2;omega
   have nb:bb≠nx.succ:=fun e=>by rw[e]at o1;omega
   have n1:b1≠nx.succ:=fun e=>by rw[e]at o3;omega
   have n15:b1≠b5:=fun e=>by rw[e]at o2;omega
   have n1b:b1≠bb:=fun e=>by rw[e]at o2;omega
   have n5b:b5≠bb:=fun e=>by rw[e]at o1;omega
   have v53:ae b5 (aw nx.succ (some (.loop .busy none fn tm res [K 14] (.ops ch) body nx)) h2)=some (.cells [.slice bb 0 k 1] .fix):=by rw[aU _ _ _ _ n5];exact A.f5
   have lk3:ae nx.succ (aw nx.succ (some (.loop .busy none fn tm res [K 14] (.ops ch) body nx)) h2)=some (.loop .busy none fn tm res [K 14] (.ops ch) body nx):=by simp
   have nc2:∀b:Key,b≠nx.succ→ae b (aw nx.succ (some (.loop .busy none fn tm res [K 14] (.ops ch) body nx)) h2)=ae b h2:=fun b hb=>aU _ _ _ _ hb;generalize aw nx.succ (some (.loop .busy none fn tm res [K 14] (.ops ch) body nx)) h2=h3 at *;generalize hrq:Mm _ nx.succ fn tm res [K 14] (.ops ch) body nx=RQ;rw[←hb5];have hsu:=akK l k;generalize hwz:aW .i64 (word l k:Int)=wz at *;have ap:=abX (bb:=bb) (ws:=Pv l k) (rest:=rs) (h:=aw aN (some (.cells [I wz] .fix)) h3) (nx:=aN.succ) (by rw[ax (by omega),nc2 bb nb];exact fb) (by omega) (by rw[UN];unfold nw at hk;omega) wz;rw[UN]at ap;have v54:∀B,ae b5 (aw bb B (aw aN (some (.cells [I wz] .fix)) h3))=some (.cells [.slice bb 0 k 1] .fix):=fun B=>by rw[aU _ _ _ _ n5b,ax (by omega)];exact v53
   simp;simp[-appendTo,qh,g6,g5',v53,hwz,ap,v54];rw[←hrq];have gq:∀b:Key,b.toNat<aN.toNat→b≠b5→b≠bb→b≠nx.succ→∀B1 B2 B3 B4,ae b (aw nx.succ B4 (aw b5 B3 (aw bb B2 (aw aN B1 h3))))=ae b h2:=fun b h0 h1 h2 h3 B1 B2 B3 B4=>by rw[aU _ _ _ _ h3,aU _ _ _ _ h1,aU _ _ _ _ h2,ax h0,nc2 b h3]
   refine⟨⟨none,by rw[aU _ _ _ _ (Ne.symm n5),aU _ _ _ _ (Ne.symm nb),ax (by omega)];exact lk3⟩,rfl,⟨by simp,?_,?_,?_,?_,?_⟩,by omega⟩
   ·rw[gq b1 (by omega) n15 n1b n1];exact A.f1
   ·rw[aU _ _ _ _ n5,gTSm]
   ·refine⟨rs.tail,?_,?_⟩
    ·rw[aU _ _ _ _ nb,aU _ _ _ _ (Ne.symm n5b),gTSm,hsu]
    ·rw[List.length_tail];omega
   ·refine A.ds.cF (by omega) fun b hb hg=>?_;rw[gq b hb (by rintro rfl;rw[A.f5]at hg;cases hg) (by rintro rfl;rw[fb]at hg;cases hg) (by rintro rfl;rw[A.fl]at hg;cases hg)];exact hg
   ·have nA:=A.e.n;refine⟨by omega,fun b hb=>?_⟩;rw[gq b (by omega) (fun e=>by rw[e]at hb;omega) (fun e=>by rw[e]at hb;omega) (fun e=>by rw[e]at hb;omega)];exact A.e.g b hb
 ·rintro h1 bS ⟨A,hn1⟩;obtain⟨rs,fb,hrs⟩:=A.fb;refine⟨_,rfl,.ready,none,A.fl,by simp,?_⟩;refine Vd _ _ _ rs ?_ ?_ hrs (by omega) ?_ ?_
  ·rw[aU _ _ _ _ (fun e=>by rw[e]at o2;omega)];exact A.f5
  ·rw[aU _ _ _ _ (fun e=>by rw[e]at o1;omega)];exact fb
  ·refine A.ds.cF (fg _) fun b _ hg=>?_;rw[aU _ _ _ _ (by rintro rfl;rw[A.fl]at hg;cases hg)];exact hg
  ·exact A.e.put (by omega)
end Ln
namespace Ln
open Go.Sx Go
variable{C:bQ}{X:Kn}(S:Std C X)(H:OU C)
include S H
theorem amU{c:AV}{l:List Nat}(hc:gI 1 eY c l)(hl:l.length≤1000000){h:T ah}{nx:Key} :
  aG C sw [.str 5 435761734006,c] h nx (fun o h' nx'=>o=.ret (mJ (abA l))∧Ext h nx h' nx'):=by
 have rG:C.raw jG=false:=S.nr (by decide);have rS:C.raw zB=false:=S.nr (by decide);have s1:=kTSu nx;have s2:=kTSu nx.succ;have s3:=kTSu nx.succ.succ;have hcz:∀H,aM 9999 c H=(c,H):=fun H=>hc.r7 _ _;have hR:=hc.rd h nx;obtain⟨q,hqd⟩:∃q,q=l.length / 8:=⟨_,rfl⟩;obtain⟨cap,hcd⟩:∃cap,cap=q+2:=⟨_,rfl⟩;have hq:aW .i64 ((l.length:Int) / 8)=(q:Int):=by
  have:(l.length:Int) / 8=(q:Int):=by omega
  rw[this];exact aB (by omega) (by omega)
 have hq2:aW .i64 ((q:Int)+2)=(cap:Int):=by
  have:(q:Int)+2=(cap:Int):=by omega
  rw[this];exact aB (by omega) (by omega)
 have BQ:nw l+1≤cap:=by unfold nw;omega
 have Pm:cap≤1048576:=by omega
 have awC:ra (AV.int .i64 (.lit (cap:Int)))=some cap:=rfl;refine H.NO.callV ?_;simp[L4];simp[KQ];have LI:=an4 cap (I 0);simp[↓hR.ln,KR,hq,hq2,Pm,awC,-repL_eq]
 try simp only[show(AV.int IntKind.i64 (SI.lit 0))=I 0 from rfl]
 have e2:=(E0 h nx (.cells (OY cap [I 0] []) .fix)).trans (E0 _ nx.succ (.cells [.slice nx 0 0 1] .fix));have bb2:ae nx (aw nx.succ (some (.cells [.slice nx 0 0 1] .fix)) (aw nx (some (.cells (OY cap [I 0] []) .fix)) h))=some (.cells (OY cap [I 0] []) .fix):=by rw[ax (by omega)];simp
 have b52:ae nx.succ (aw nx.succ (some (.cells [.slice nx 0 0 1] .fix)) (aw nx (some (.cells (OY cap [I 0] []) .fix)) h))=some (.cells [.slice nx 0 0 1] .fix):=by simp
 generalize OY cap [I 0] []=R0 at *;generalize aw nx.succ (some (.cells [.slice nx 0 0 1] .fix)) (aw nx (some (.cells R0 .fix)) h)=h2 at *;simp[KT,rG,hcz];refine(Yg H hc).mono ?_;rintro o h3 bY ⟨rfl,v1,rfl,e3⟩;simp;have b53:ae nx.succ h3=some (.cells [.slice nx 0 0 1] .fix):=by rw[e3.g _ (by omega)];exact b52
 have bb3:ae nx h3=some (.cells R0 .fix):=by rw[e3.g _ (by omega)];exact bb2
 refine abW S H hc hl (b1:=nx.succ.succ) (b5:=nx.succ) (bb:=nx) (n0:=nx) (h0:=h) (cap:=cap) BQ ?_ ?_ v1 b53 ⟨R0,bb3,LI⟩ (by omega) (by omega) (by omega) (fg _) (mN.nil _ _ _) (e2.trans e3) ?_
 ·simp
 ·simp
 intro ds h4 jZ rest v54 vb4 aNG hn4 D4 e4;have s4:=kTSu jZ;have hwl:=UN l (nw l);have ap:=abX (bb:=nx) (ws:=Pv l (nw l)) (rest:=rest) (h:=aw jZ (some (.cells [I (l.length:Int)] .fix)) h4) (nx:=jZ.succ) (by rw[ax (by omega)];exact vb4) (by omega) (by omega) (l.length:Int);have hlw:(Pv l (nw l) ++ [(l.length:Int)]).length=nw l+1:=by rw[Ko,hwl];rfl
 have hhu:abA l=ako (Pv l (nw l) ++ [(l.length:Int)]):=rfl;rw[hhu];rw[hwl]at ap;generalize hwz:Pv l (nw l) ++ [(l.length:Int)]=ws at *;have n5b:nx.succ≠nx:=fun e=>by have:=congrArg Key.toNat e;omega
 have v55:∀B,ae nx.succ (aw nx B (aw jZ (some (.cells [I (l.length:Int)] .fix)) h4))=some (.cells [.slice nx 0 (nw l) 1] .fix):=fun B=>by rw[aU _ _ _ _ n5b,ax (by omega)];exact v54
 have v56:ae nx.succ (aw jZ (some (.cells [I (l.length:Int)] .fix)) h4)=some (.cells [.slice nx 0 (nw l) 1] .fix):=by rw[ax (by omega)];exact v54
 have hR4:=hc.rd h4 jZ;simp;simp[-appendTo,↓hR4.ln,KU,v54,v55,v56,ap];have e5:Ext h nx (aw nx.succ (some (.cells [.slice nx 0 (nw l+1) 1] .fix)) (aw nx (some (.cells (ag eI ws++rest.tail) .fix)) (aw jZ (some (.cells [I (l.length:Int)] .fix)) h4))) jZ.succ:=((((e4.trans (E0 h4 jZ _)).put (fg _)).put (by omega)));have w5:ae nx.succ (aw nx.succ (some (.cells [.slice nx 0 (nw l+1) 1] .fix)) (aw nx (some (.cells (ag eI ws++rest.tail) .fix)) (aw jZ (some (.cells [I (l.length:Int)] .fix)) h4)))=some (.cells [.slice nx 0 (nw l+1) 1] .fix):=by simp
 have wb:ae nx (aw nx.succ (some (.cells [.slice nx 0 (nw l+1) 1] .fix)) (aw nx (some (.cells (ag eI ws++rest.tail) .fix)) (aw jZ (some (.cells [I (l.length:Int)] .fix)) h4)))=some (.cells (ag eI ws++rest.tail) .fix):=by rw[aU _ _ _ _ (Ne.symm n5b),gTSm]
 have D5:mN nx ds (aw nx.succ (some (.cells [.slice nx 0 (nw l+1) 1] .fix)) (aw nx (some (.cells (ag eI ws++rest.tail) .fix)) (aw jZ (some (.cells [I (l.length:Int)] .fix)) h4))) jZ.succ:=D4.cF (by omega) fun b hb hg=>by rw[aU _ _ _ _ (by rintro rfl;rw[v54]at hg;cases hg),aU _ _ _ _ (by rintro rfl;rw[vb4]at hg;cases hg),ax hb];exact hg
 generalize aw nx.succ (some (.cells [.slice nx 0 (nw l+1) 1] .fix)) (aw nx (some (.cells (ag eI ws++rest.tail) .fix)) (aw jZ (some (.cells [I (l.length:Int)] .fix)) h4))=h5 at *;have aRd:(ag eI ws).length=nw l+1:=by rw[mX,hlw]
 have HO:List.take (nw l+1) (ag eI ws++rest.tail)=ag eI ws:=by rw[List.take_append_of_le_length (by omega),RL (by omega)]
 have hz:=an5 (n:=9998) (b:=nx) (len:=nw l+1) (H:=h5) wb (by rw[Ko];omega) (by rw[HO];exact FO.yo ws);rw[HO]at hz;have hw:gI 1 eI (.sl (ag eI ws) (nw l+1) 1 .any) ws:=.inr (by rw[hlw]);have e6:Ext h nx (aw nx (some (.cells (ag eI ws++rest.tail) .ro)) h5) jZ.succ:=e5.put (fg _);have D6:mN nx ds (aw nx (some (.cells (ag eI ws++rest.tail) .ro)) h5) jZ.succ:=D5.cF (fg _) fun b _ hg=>by rw[aU _ _ _ _ (by rintro rfl;rw[wb]at hg;cases hg)];exact hg
 simp[KV,w5,rS,hz];refine(awD S H hw (by omega)).mono ?_;rintro o h7 nx7 ⟨rfl,e7⟩;have e67:=e6.trans e7;have D7:=D6.ext e7;generalize ako ws=fz at *;simp;refine⟨D7.nodup,D7.get,fun h10 h11=>?_⟩;refine⟨[mJ fz],by simp,rfl,e67.n,fun b hb=>?_⟩;have:b∉ds:=fun hm=>by have:=D7.ge b hm;omega
 simp;rw[h11 b this];exact e67.g b hb
end Ln
namespace Ln
open Go.Sx Go
def avJ:Int→Int
 |.ofNat a=>.ofNat (Nat.div a (Nat.pow 2 63))
 |.negSucc a=>.negSucc (Nat.div a (Nat.pow 2 63))
section
variable{C:bQ}{Q:dh}{L:List aA}{tm:T AV}{h:T ah}{nx d x y:Key}
theorem al7(a:Nat)(h1:ae x tm=some (mJ a)):lA C Q (⟨some d,.bin .shl (.t x) (.v (.int .u64 (.lit 1))),none⟩ ::L) tm h nx=lA C Q L (aw d (some (mJ (aeI a 1))) tm) h nx:=
 ug (by simp only[lightOp,at_t,at_v,h1];show some (AV.int .u64 (.lit (aW .u64 (Int.mul (a:Int) (.ofNat (Nat.pow 2 1))))))=_;rw[Qc];rfl)
theorem ajG(n:Int)(h1:ae x tm=some (I n)):lA C Q (⟨some d,.bin .shr (.t x) (.v (.int .u64 (.lit 63))),none⟩ ::L) tm h nx=lA C Q L (aw d (some (I (avJ n))) tm) h nx:=
 ug (by simp only[lightOp,at_t,at_v,h1];cases n<;>rfl)
end
def zzE(n:Int):Nat:=RK (aeI (Wf n) 1) (Wf (avJ n))
theorem avK(n:Int):zzE n<18446744073709551616:=Nat.mod_lt _ (by decide)
def Qd(n:Int):List Nat:=vu (zzE n)
theorem ahU:∀(k n:Nat),(vuF k n).length≤k+1
 |0,_=>by simp[vuF]
 |k+1,n=>by
  rw[vuF];split
  ·simp
  ·rw[zqi];have:=ahU k (n / 128);omega
theorem AA(n:Int):(Qd n).length≤11:=ahU 10 _
variable{C:bQ}{X:Kn}(S:Std C X)(H:OU C)
include S H
theorem aeJ{w:Key}{c:AV}{bs:List Nat}{h:T ah}{nx n0:Key}(Ws:WS w c bs h nx n0)(hl:bs.length≤100000)(n:Int) :
  aG C dx [.ptr w 0,I n] h nx (jV w (bs++Qd n) h nx n0):=by
 have rU:C.raw fU=false:=S.nr (by decide);have hcu:∀n,aW .u64 n=((Wf n:Nat):Int):=Qc;refine H.AB.call ?_;simp[wM];simp[yY,hcu,↓al7 (Wf n),↓ajG n,↓YY (aeI (Wf n) 1) (Wf (avJ n)),rU];refine(al8 H.yZ Ws (avK n) hl).mono ?_;rintro o h3 bY ⟨rfl,hW⟩;simp;exact⟨rfl,hW⟩
theorem arn{w:Key}{c:AV}{bs:List Nat}{h:T ah}{nx n0:Key}(Ws:WS w c bs h nx n0)(hl:bs.length≤100000)(b:Bool) :
  aG C iy [.ptr w 0,.bool b] h nx (jV w (bs ++ [if b=true then 1 else 0]) h nx n0):=by
 have s1:=kTSu nx;refine H.y0.call ?_;simp[uh];have key:∀y:Nat,∃c' h' nx',appendTo 1 c [.int .u8 (.lit (y:Int))] 1 (aw nx (some (.cells [.int .u8 (.lit (y:Int))] .fix)) h) nx.succ=.val c' h' nx'∧c'.aT=true∧c'.cells=[c']∧ae w h'=some (.cells [c] .fix)∧WS w c' (bs ++ [y]) (aw w (some (.cells [c'] .fix)) h') nx' n0∧nx.toNat≤nx'.toNat∧(∀b:Key,b.toNat<n0.toNat→ae b (aw w (some (.cells [c'] .fix)) h')=ae b h)∧YZ w h nx (aw w (some (.cells [c'] .fix)) h'):=by intro y;obtain⟨c2,h2,aN,g,x1,x2,x3,W2,x5,x6,x7⟩:=(Ws.ext (E0 h nx (.cells [.int .u8 (.lit (y:Int))] .fix))).add [y] (by simp;omega);have Y0:ag eY [y]=[.int .u8 (.lit (y:Int))]:=je _ _;rw[Y0]at g;exact⟨c2,h2,aN,g,x1,x2,x3,W2,by omega,fun b hb=>by rw[x6 b hb,ax (by have:=Ws.n;omega)],(YZ.new w h nx _).trans (by omega) x7⟩
 cases b with
 |true=>obtain⟨c2,h2,aN,g,x1,x2,x3,W2,x5,x6,x7⟩:=key 1;simp[-appendTo]at g;simp[pD];simp[-appendTo,xK,Ws.at_,g,x1,x2,x3];exact⟨rfl,c2,W2,x5,x6,x7⟩
 |false=>obtain⟨c2,h2,aN,g,x1,x2,x3,W2,x5,x6,x7⟩:=key 0;simp[-appendTo]at g;simp[pD];simp[-appendTo,xL,Ws.at_,g,x1,x2,x3];exact⟨rfl,c2,W2,x5,x6,x7⟩
end Ln
namespace Ln
open Go.Sx Go
theorem jV.lift{w n0:Key}{bs:List Nat}{h h1 h':T ah}{nx bS nx':Key}{o:Out}(e:Ext h nx h1 bS)(hn:n0.toNat≤nx.toNat)(W:jV w bs h1 bS n0 o h' nx'):jV w bs h nx n0 o h' nx':=by obtain⟨ho,c',W,hx,hf,hk⟩:=W;have n:=e.n;exact⟨ho,c',W,by omega,fun b hb=>by rw[hf b hb,e.g b (by omega)],(Ext.kp e w).trans (by omega) hk⟩
def stU(u:U):St:=⟨u.k,u.n,[]⟩
theorem axn(u:U):eS (stU u)=eU u:=rfl
variable{C:bQ}{X:Kn}(S:Std C X)(H:OU C)
include S H
theorem asv{w:Key}{c:AV}{bs:List Nat}{h:T ah}{nx n0:Key}(Ws:WS w c bs h nx n0)(hl:bs.length≤100000)(s:St) :
  aG C dU [.ptr w 0,.agg (eS s)] h nx (jV w (bs++Qd s.n) h nx n0):=by
 have rI:C.raw dx=false:=S.nr (by decide);have s1:=kTSu nx;refine H.tN.call ?_;simp[pL];simp[sN,xS,lenS];have e1:=E0 h nx (.cells (eS s) .fix);have b1:ae nx (aw nx (some (.cells (eS s) .fix)) h)=some (.cells (eS s) .fix):=by simp
 have W1:=Ws.ext e1;generalize aw nx (some (.cells (eS s) .fix)) h=h1 at *;have es1:(eS s)[1]?=some (I s.n):=rfl;simp[sO,b1,es1,rI];refine(aeJ S H W1 hl s.n).mono ?_;rintro o h2 aN W2;have W3:=jV.lift e1 Ws.n W2;obtain⟨rfl,hW⟩:=W2;simp;exact W3
theorem asw{w:Key}{c:AV}{bs:List Nat}{h:T ah}{nx n0:Key}(Ws:WS w c bs h nx n0)(hl:bs.length≤100000)(s:St) :
  aG C eX [.ptr w 0,.agg (eS s)] h nx (jV w (bs ++ [if s.n=1 then 1 else 0]) h nx n0):=by
 have rI:C.raw iy=false:=S.nr (by decide);have s1:=kTSu nx;refine H.wo.call ?_;simp[qO];simp[tT,xS,lenS];have e1:=E0 h nx (.cells (eS s) .fix);have b1:ae nx (aw nx (some (.cells (eS s) .fix)) h)=some (.cells (eS s) .fix):=by simp
 have W1:=Ws.ext e1;generalize aw nx (some (.cells (eS s) .fix)) h=h1 at *;have es1:(eS s)[1]?=some (I s.n):=rfl;simp[tU,b1,es1,rI];have hb:=arn S H W1 hl (decide (s.n=1));simp at hb;refine hb.mono ?_;rintro o h2 aN W2;have W3:=jV.lift e1 Ws.n W2;obtain⟨rfl,hW⟩:=W2;simp;exact W3
theorem asx{w:Key}{h:T ah}{nx:Key}:aG C gk [.ptr w 0] h nx (fun o h' nx'=>o=.ret (.agg [.fn dU [.ptr w 0] [],.fn eX [.ptr w 0] [],.fn dP [.ptr w 0] [],.fn ya [.ptr w 0] []])∧Ext h nx h' nx'):=by have s1:=kTSu nx;refine H.wk.call ?_;simp[qM];simp[tV];simp[tW];exact(E0 h nx _)
end Ln
namespace Ln
open Go.Sx Go
variable{C:bQ}{X:Kn}(S:Std C X)(H:OU C)
include S H
theorem aco{w:Key}{c:AV}{bs:List Nat}{h:T ah}{nx n0:Key}(Ws:WS w c bs h nx n0)(hl:bs.length≤90000){s:St}{en:List Nat}
  (hk:(s.k=0∧en=Qd s.n)∨(s.k=1∧en=[if s.n=1 then 1 else 0])∨(s.k=2∧∀{c':AV} {bs':List Nat} {h':T ah} {nx':Key},WS w c' bs' h' nx' n0→bs'.length≤bs.length+11→aG C dP [.ptr w 0,.agg (eS s)] h' nx' (jV w (bs'++en) h' nx' n0))) :
  aG C bJ [.ptr w 0,.agg (eS s)] h nx (jV w (bs++Qd s.k++en) h nx n0):=by
 have rI:C.raw dx=false:=S.nr (by decide);have rK:C.raw gk=false:=S.nr (by decide);have r0:C.raw dU=false:=S.nr (by decide);have r1:C.raw eX=false:=S.nr (by decide);have r2:C.raw dP=false:=S.nr (by decide);have s1:=kTSu nx;refine H.wj.call ?_;simp[qL];simp[tX,xS,lenS];have e1:=E0 h nx (.cells (eS s) .fix);have b1:ae nx (aw nx (some (.cells (eS s) .fix)) h)=some (.cells (eS s) .fix):=by simp
 have W1:=Ws.ext e1;generalize aw nx (some (.cells (eS s) .fix)) h=h1 at *;have es0:(eS s)[0]?=some (I s.k):=rfl;have acp:(eS s).head?=some (I s.k):=rfl;simp[tY,b1,es0,acp,rI];refine(aeJ S H W1 (by omega) s.k).mono ?_;rintro o h2 aN ⟨rfl,c2,W2,hn2,hf2,RY⟩;have b2:ae nx h2=some (.cells (eS s) .fix):=by have hw:=Ws.hi;rw[RY nx (by omega) (fun e=>by rw[e]at hw;omega) (fun B hB=>by rw[b1]at hB;cases hB;exact⟨by simp,by simp⟩)];exact b1
 have aiC:=AA s.k;have fin:∀{o h' nx'},jV w (bs++Qd s.k++en) h2 aN n0 o h' nx'→jV w (bs++Qd s.k++en) h nx n0 o h' nx':=by rintro o h' nx' ⟨ho,c',W',hx,hf,KG⟩;exact jV.lift e1 Ws.n ⟨ho,c',W',by omega,fun b hb=>by rw[hf b hb,hf2 b hb],RY.trans hn2 KG⟩
 simp;simp[tZ,b2,es0,acp,lenS,su,rK];refine(asx S H).mono ?_;rintro o h3 bY ⟨rfl,e3⟩;have n3:=e3.n;have W3:=W2.ext e3;have b3:ae nx h3=some (.cells (eS s) .fix):=by rw[e3.g nx (by omega)];exact b2
 have bq:AV.beq (.agg (eS s)) (.agg (eS s))=true:=anl s;have bk:AV.beq (I s.k) (I s.k)=true:=beq_refl _ rfl;have aBO:∀{o h' nx'},jV w (bs++Qd s.k++en) h3 bY n0 o h' nx'→jV w (bs++Qd s.k++en) h nx n0 o h' nx':=fun W=>fin (jV.lift e3 W2.n W);have hl3:(bs++Qd s.k).length≤100000:=by rw[Ko];omega
 have aJk:(bs++Qd s.k).length≤bs.length+11:=by rw[Ko];omega
 have ha:bs++Qd s.k++en=bs++(Qd s.k++en):=List.append_assoc _ _ _;rw[ha]at aBO;have axw:∀{o h' nx'},jV w (bs++Qd s.k++en) h3 bY n0 o h' nx'→o=.ret (.tuple [])∧jV w (bs++(Qd s.k++en)) h nx n0 (.ret (.tuple [])) h' nx':=fun W=>by rw[ha]at W;have W':=aBO W;obtain⟨rfl,_⟩:=W;exact⟨rfl,W'⟩
 generalize yG:Qd s.k=ek at *;rcases hk with⟨k0,rfl⟩|⟨k0,rfl⟩|⟨k0,hL⟩
 ·rw[k0]at es0 acp bk;simp[b3,es0,acp,lenS,su,bq,bk,r0,zd,k0];refine(asv S H W3 hl3 s).mono ?_;rintro o h4 jZ W4;obtain⟨rfl,W5⟩:=axw W4;simp;exact W5
 ·rw[k0]at es0 acp bk;simp[b3,es0,acp,lenS,su,bq,bk,r1,zd,k0];refine(asw S H W3 hl3 s).mono ?_;rintro o h4 jZ W4;obtain⟨rfl,W5⟩:=axw W4;simp;exact W5
 ·rw[k0]at es0 acp bk;simp[b3,es0,acp,lenS,su,bq,bk,r2,zd,k0];refine(hL W3 aJk).mono ?_;rintro o h4 jZ W4;obtain⟨rfl,W5⟩:=axw W4;simp;exact W5
end Ln
namespace Ln
open Go.Sx Go
theorem PW(l:List U):gI 4 eU (aL l) l:=by
 cases l with
 |nil=>exact .inl ⟨rfl,rfl⟩
 |cons a l=>exact .inr rfl
def Je(u:U):List Nat:=Qd u.k++(if u.k=0 then Qd u.n else if u.k=1 then [if u.n=1 then 1 else 0]else Qd 0)
theorem ap0(u:U):(Je u).length≤22:=by
 unfold Je;have h1:=AA u.k;have h2:=AA u.n;have h3:=AA 0;rw[Ko];split
 ·omega
 ·split
  ·simp;omega
  ·omega
theorem Yb(l:List U):(l.flatMap Je).length≤22*l.length:=by
 induction l with
 |nil=>simp
 |cons a l ih=>rw[List.flatMap_cons,Ko,zqi];have:=ap0 a;omega
def CvI(w:Key)(kids:List U)(bs:List Nat)(h:T ah)(nx n0:Key)(m:Nat)(ay:T AV)(h':T ah)(nx':Key):Prop:=∃(j:Nat) (c':AV),m=kids.length-j∧j≤kids.length∧ae (K 0) ay=some (.ptr w 0)∧ae (K 14) ay=some (aL kids)∧ae (K 15) ay=some (I kids.length)∧ae (K 16) ay=some (I j)∧WS w c' (bs++(kids.take j).flatMap Je) h' nx' n0∧nx.toNat≤nx'.toNat∧(∀b:Key,b.toNat<n0.toNat→ae b h'=ae b h)∧YZ w h nx h'
theorem _root_.Go.Sx.Rd.lnS{z:Nat}{c:AV}{l:List AV}{len:Nat}{h:T ah}{nx:Key}(g:Rd z c l len h nx){C:bQ}{Q:dh}{ds:List Key}{au:List (Nat×Key×ah)}{L:List aS}{tm:T AV}{h2:T ah}{n2 k1 d1:Key}{a:Nat}(h1:ae k1 tm=some c) :
  wpS C Q ⟨ds,[]⟩ (.L a ⟨some d1,.lenL (.t k1),none⟩ ::L) au tm h2 n2=wpS C Q ⟨ds,[]⟩ L au (aw d1 (some (I len)) tm) h2 n2:=by
 rcases g with⟨rfl,_,rfl⟩|⟨f,rfl⟩|⟨b,k,rfl,_⟩<;>simp[h1]
variable{C:bQ}{X:Kn}(S:Std C X)(H:OU C)
include S H
theorem ahp{B:Nat}{w n0:Key}{kids:List U}(hk:kids.length≤3)(hv:∀u∈kids,∀{c:AV} {bs:List Nat} {h:T ah} {nx:Key},WS w c bs h nx n0→bs.length≤B+80→aG C bJ [.ptr w 0,.agg (eU u)] h nx (jV w (bs++Je u) h nx n0)){bs:List Nat}(hl:bs.length≤B+11){h:T ah}{nx:Key}{Q:dh}{m:Nat}{tm:T AV}{h1:T ah}{bS:Key}(A:CvI w kids bs h nx n0 m tm h1 bS)
  (fy:∀ay h' nx',jV w (bs++kids.flatMap Je) h nx n0 (.ret (.tuple [])) h' nx'→Q .norm ay h' nx') :
  W C (.loop nK) (aC 0 Q) tm h1 bS:=by
 have rV:C.raw bJ=false:=S.nr (by decide);refine W.dy (CvI w kids bs h nx n0) A ?_;rintro m ef h2 aN ⟨j,c',rfl,hj,g0,g14,g15,g16,Ws,hn,hf,hkp⟩;refine W.of ?_;simp[nK];by_cases bW:j<kids.length
 ·have v7:(j:Int)<kids.length:=by omega
  have hR:=(PW kids).rd h2 aN;have s2:=kTSu aN;have hlen:=Yb (kids.take j);rw[Y7]at hlen;have hcU:(eU kids[j]).all AV.aT=true:=wG.2 (qY.cell _);have hlU:(eU kids[j]).length=4:=rfl;have htU:List.take 4 (eU kids[j])=eU kids[j]:=rfl;have hdU:List.drop 4 [AV.int .i64 (.lit 0),.int .i64 (.lit 0),.str 0 0,.nils]=[]:=rfl;have hfl:(kids.take (j+1)).flatMap Je=(kids.take j).flatMap Je++Je kids[j]:=by rw[zqu bW,List.flatMap_append,List.flatMap_cons,List.flatMap_nil,List.append_nil]
  have qK:=OA bW;simp[nL,g15,g16,v7];simp only[wv,at8,aub,aNq,aNr,aNs,aNt,aNu,aNv,aNw,aNx,auc,at9,aua,aNz];simp[↓hR.ix qY bW,g14,g16,hcU,hlU];simp[wx,g0,hlU,htU,rV,aIp];have QN:(bs++(kids.take j).flatMap Je).length≤B+80:=by rw[Ko];omega
  have e1:=E0 h2 aN (.cells (eU kids[j]) .fix);have W1:=Ws.ext e1;refine(hv _ qK W1 QN).mono ?_;rintro o h3 bY ⟨rfl,c3,W3,hn3,hf3,hk3⟩;simp;simp[wy,g16];rw[aB (by omega) (by omega)];refine⟨kids.length-(j+1),by omega,j+1,c3,rfl,by omega,by simp[g0],by simp[g14],by simp[g15],by simp,?_,by omega,fun b hb=>?_,?_⟩
  ·rw[hfl,←List.append_assoc];exact W3
  ·have:=Ws.n;rw[hf3 b hb,ax (by omega)];exact hf b hb
  ·exact hkp.trans hn (((Ext.kp e1 w).trans (by omega) hk3))
 ·have xM:j=kids.length:=by omega
  subst xM;rw[List.take_length]at Ws;simp[nL,g15,g16];exact fy _ _ _ ⟨rfl,c',Ws,hn,hf,hkp⟩
theorem adY{B:Nat}(hB:B≤99000){w n0:Key}{s:St}(hk:s.kids.length≤3)(hv:∀u∈s.kids,∀{c:AV} {bs:List Nat} {h:T ah} {nx:Key},WS w c bs h nx n0→bs.length≤B+80→aG C bJ [.ptr w 0,.agg (eU u)] h nx (jV w (bs++Je u) h nx n0)){c:AV}{bs:List Nat}(hl:bs.length≤B){h:T ah}{nx:Key}(Ws:WS w c bs h nx n0) :
  aG C dP [.ptr w 0,.agg (eS s)] h nx (jV w (bs++(Qd s.kids.length++s.kids.flatMap Je)) h nx n0):=by
 have rI:C.raw dx=false:=S.nr (by decide);have s1:=kTSu nx;refine H.xT.call ?_;simp[sJ];simp[wA,xS,lenS];have e1:=E0 h nx (.cells (eS s) .fix);have b1:ae nx (aw nx (some (.cells (eS s) .fix)) h)=some (.cells (eS s) .fix):=by simp
 have W1:=Ws.ext e1;generalize aw nx (some (.cells (eS s) .fix)) h=h1 at *;have es3:(eS s)[3]?=some (aL s.kids):=rfl;have hR:=(PW s.kids).rd h1 nx.succ;have ac:=bH s.kids;simp[wC,b1,es3,↓hR.lnS,rI];refine(aeJ S H W1 (by omega) (s.kids.length:Int)).mono ?_;rintro o h2 aN ⟨rfl,c2,W2,hn2,hf2,RY⟩;have b2:ae nx h2=some (.cells (eS s) .fix):=by have hw:=Ws.hi;rw[RY nx (by omega) (fun e=>by rw[e]at hw;omega) (fun B hB=>by rw[b1]at hB;cases hB;exact⟨by simp,by simp⟩)];exact b1
 have aiC:=AA (s.kids.length:Int);have ha:bs++Qd (s.kids.length:Int)++s.kids.flatMap Je=bs++(Qd (s.kids.length:Int)++s.kids.flatMap Je):=List.append_assoc _ _ _;have hR2:=(PW s.kids).rd h2 aN;simp;simp[↓hR2.ln,wD,b2,es3];refine ahp S H hk hv (bs:=bs++Qd (s.kids.length:Int)) (by rw[Ko];omega) (h:=h2) (nx:=aN) (m:=s.kids.length) ⟨0,c2,by simp,by omega,by simp,by simp,by simp,by simp,by simpa using W2,fg _,fun _ _=>rfl,YZ.refl _ _ _⟩ ?_;intro ay h' nx' W;rw[ha]at W;obtain⟨ho,c',W',hx,hf,KG⟩:=W;simp;exact jV.lift e1 Ws.n ⟨rfl,c',W',by omega,fun b hb=>by rw[hf b hb,hf2 b hb],RY.trans hn2 KG⟩
theorem ax0{w n0:Key}{u:U}(hu:u.k=0∨u.k=1∨u.k=2){c:AV}{bs:List Nat}(hl:bs.length≤90000){h:T ah}{nx:Key}(Ws:WS w c bs h nx n0) :
  aG C bJ [.ptr w 0,.agg (eU u)] h nx (jV w (bs++Je u) h nx n0):=by
 have key:=fun en hk=>aco S H Ws (by omega) (s:=stU u) (en:=en) hk;rw[←axn];unfold Je;rw[←List.append_assoc];rcases hu with e|e|e
 ·rw[if_pos e];exact key _ (.inl ⟨e,rfl⟩)
 ·rw[if_neg (by omega),if_pos e];exact key _ (.inr (.inl ⟨e,rfl⟩))
 ·rw[if_neg (by omega),if_neg (by omega)];refine key _ (.inr (.inr ⟨e,fun {c' bs' h' nx'} W' Yi=>?_⟩));have:=adY S H (B:=95000) (by omega) (w:=w) (n0:=n0) (s:=stU u) (Nat.zero_le _) (fun u hu=>by cases hu) (by omega) W';simpa[stU]using this
def abB(s:St):List Nat:=Qd s.k++(if s.k=0 then Qd s.n else if s.k=1 then [if s.n=1 then 1 else 0]else Qd s.kids.length++s.kids.flatMap Je)
theorem awb{w n0:Key}{s:St}(hs:s.k=0∨s.k=1∨s.k=2)(hk:s.kids.length≤3)(yG:∀u∈s.kids,u.k=0∨u.k=1∨u.k=2){c:AV}{bs:List Nat}(hl:bs.length≤10000){h:T ah}{nx:Key}(Ws:WS w c bs h nx n0) :
  aG C bJ [.ptr w 0,.agg (eS s)] h nx (jV w (bs++abB s) h nx n0):=by
 have key:=fun en hk=>aco S H Ws (by omega) (s:=s) (en:=en) hk;unfold abB;rw[←List.append_assoc];rcases hs with e|e|e
 ·rw[if_pos e];exact key _ (.inl ⟨e,rfl⟩)
 ·rw[if_neg (by omega),if_pos e];exact key _ (.inr (.inl ⟨e,rfl⟩))
 ·rw[if_neg (by omega),if_neg (by omega)];refine key _ (.inr (.inr ⟨e,fun {c' bs' h' nx'} W' Yi=>?_⟩));exact adY S H (B:=50000) (by omega) hk (fun u hu=>fun {c2 bs2 h2 aN} W2 QN=>ax0 S H (yG u hu) (by omega) W2) (by omega) W'
end Ln
namespace Ln
open Go.Sx Go
theorem aAH{s:St}(h:okS s=true):(s.k=0∨s.k=1∨s.k=2)∧∀u∈s.kids,u.k=0∨u.k=1∨u.k=2:=by
 unfold okS at h;rw[decide_eq_true_eq]at h;rcases h with(⟨h1,h2⟩|⟨h1,_,h2⟩)|⟨h1,_,h2⟩
 ·exact⟨.inl h1,by rw[h2];simp⟩
 ·exact⟨.inr (.inl h1),by rw[h2];simp⟩
 ·refine⟨.inr (.inr h1),fun u hu=>?_⟩;have:=wG.1 h2 u hu;unfold pV at this;rw[decide_eq_true_eq]at this;omega
def abz(s:St):Nat:=if okS s=true then abA (abB s)else 0
theorem abC{s:St}(hk:s.kids.length≤3):(abB s).length≤100:=by
 unfold abB;have h1:=AA s.k;have h2:=AA s.n;have h3:=AA (s.kids.length:Int);have h4:=Yb s.kids;rw[Ko];split
 ·omega
 ·split
  ·simp;omega
  ·rw[Ko];omega
variable{C:bQ}{X:Kn}(S:Std C X)(H:OU C)
include S H
theorem aj2{s:St}(hk:s.kids.length≤3){h:T ah}{nx:Key}:aG C lE [.agg (eS s)] h nx (fun o h' nx'=>((okS s=true∧∃c',o=.ret (.tuple [c',I 0])∧gI 1 eY c' (abB s))∨(okS s=false∧o=.ret (.tuple [.nils,I 1])))∧Ext h nx h' nx'):=by
 have rV:C.raw dX=false:=S.nr (by decide);have rc:C.raw bJ=false:=S.nr (by decide);have rD:C.raw fV=false:=S.nr (by decide);have s1:=kTSu nx;have s2:=kTSu nx.succ;refine H.FL.call ?_;simp[BR];simp[C1,xS,lenS];have e1:=E0 h nx (.cells (eS s) .fix);have b1:ae nx (aw nx (some (.cells (eS s) .fix)) h)=some (.cells (eS s) .fix):=by simp
 generalize aw nx (some (.cells (eS s) .fix)) h=h1 at *;simp[C2,b1,lenS,su,rV,zd];refine aG.known (H.abD s hk _ _) ?_;cases vH:okS s with
 |false=>simp;simp[ur];simp[C3];exact e1
 |true=>
  obtain⟨k1,k2⟩:=aAH vH;simp;simp[ur];simp[C4];have e2:=e1.trans (E0 h1 nx.succ (.cells [.nils] .fix));have Ws:WS nx.succ .nils [] (aw nx.succ (some (.cells [.nils] .fix)) h1) nx.succ.succ nx:=⟨by omega,by omega,by omega,by simp,App.nil 1⟩;have b2:ae nx (aw nx.succ (some (.cells [.nils] .fix)) h1)=some (.cells (eS s) .fix):=by rw[ax (by omega)];exact b1
  generalize aw nx.succ (some (.cells [.nils] .fix)) h1=h2 at *;simp[C5,b2,lenS,su,rc,zd];refine(awb S H k1 hk k2 (by simp) Ws).mono ?_;rintro o h3 bY ⟨rfl,c3,W3,hn3,hf3,hk3⟩;rw[List.nil_append]at W3;have e3:Ext h nx h3 bY:=⟨by omega,fun b hb=>by rw[hf3 b hb];exact e2.g b hb⟩;simp;simp[C6,rD];have hel:=abC hk;refine(amF H.zl W3 (by omega)).mono ?_;rintro o h4 jZ ⟨⟨c4,rfl,h4'⟩,e4⟩;have hz:∀H,aM 9999 c4 H=(c4,H):=fun H=>h4'.r7 _ _;have hz8:∀H,aM 8 c4 H=(c4,H):=fun H=>h4'.r7 _ _;simp[hz];exact⟨h4',e3.trans e4⟩
theorem arR{s:St}(hk:s.kids.length≤3){h:T ah}{nx:Key}:aG C pW [.agg (eS s)] h nx (fun o h' nx'=>o=.ret (mJ (abz s))∧Ext h nx h' nx'):=by
 have rE:C.raw lE=false:=S.nr (by decide);have rB:C.raw sw=false:=S.nr (by decide);have s1:=kTSu nx;refine H.KA.call ?_;simp[It];simp[Iu,xS,lenS];have e1:=E0 h nx (.cells (eS s) .fix);have b1:ae nx (aw nx (some (.cells (eS s) .fix)) h)=some (.cells (eS s) .fix):=by simp
 generalize aw nx (some (.cells (eS s) .fix)) h=h1 at *;simp[Iv,b1,lenS,su,rE,zd];refine(aj2 S H hk).mono ?_;rintro o h2 aN ⟨⟨ho,c,rfl,hc⟩|⟨ho,rfl⟩,e2⟩
 ·have hz:∀H,aM 9999 c H=(c,H):=fun H=>hc.r7 _ _;have hh:abz s=abA (abB s):=by unfold abz;rw[if_pos ho]
  have hel:=abC hk;rw[hh];simp;simp[zm];simp[Iw,rB,hz];refine(amU S H hc (by omega)).mono ?_;rintro o h3 bY ⟨rfl,e3⟩;generalize abA (abB s)=z;simp;exact(e1.trans e2).trans e3
 ·have hh:abz s=0:=by unfold abz;rw[if_neg (by rw[ho];simp)]
  rw[hh];simp;simp[zm];simp[Ix];exact e1.trans e2
end Ln
namespace Ln
open Go.Sx Go
structure Bk where
 g:Nat
 c:AV
 o:Option Key
def DA(E:List Bk):List (AV×AV):=E.map fun e=>(mJ e.g,e.c)
def UY(E:List Bk)(g:Nat):Option Bk:=E.find? fun e=>e.g==g
def PS:List Bk→Bk→List Bk
 | [],x=>[x]
 |e ::E,x=>if e.g=x.g then x ::E else e ::PS E x
theorem ai1(orc:jR)(a b:Nat):keyEq orc false (mJ a) (mJ b)=some (Nat.beq a b):=rfl
theorem Ve(orc:jR)(g:Nat):∀E:List Bk,findK orc false (mJ g) (DA E)=some ((UY E g).map (·.c))
 | []=>rfl
 |e ::E=>by
  show(match keyEq orc false (mJ g) (mJ e.g)with|some true=>some (some e.c)|some false=>findK orc false (mJ g) (DA E)|none=>none)=_;rw[ai1];unfold UY;rw[List.find?_cons];by_cases h:e.g=g
  ·have h1:Nat.beq g e.g=true:=by rw[h];exact Nat.beq_refl g
   have h2:(e.g==g)=true:=by simpa using h
   rw[h1,h2];rfl
  ·have h1:Nat.beq g e.g=false:=by
    cases hb:Nat.beq g e.g with
    |false=>rfl
    |true=>exact absurd (rZ hb).symm h
   have h2:(e.g==g)=false:=by simpa using h
   rw[h1,h2];exact Ve orc g E
theorem ai2(orc:jR)(x:Bk):∀E:List Bk,setK orc false (mJ x.g) x.c (DA E)=some (DA (PS E x))
 | []=>rfl
 |e ::E=>by
  show(match keyEq orc false (mJ x.g) (mJ e.g)with|some true=>some ((mJ x.g,x.c) ::DA E)|some false=>(match setK orc false (mJ x.g) x.c (DA E)with|some r=>some ((mJ e.g,e.c) ::r)|none=>none)|none=>none)=_;rw[ai1];by_cases h:e.g=x.g
  ·have h1:Nat.beq x.g e.g=true:=by rw[h];exact Nat.beq_refl _
   rw[h1];unfold PS;rw[if_pos h];rfl
  ·have h1:Nat.beq x.g e.g=false:=by
    cases hb:Nat.beq x.g e.g with
    |false=>rfl
    |true=>exact absurd (rZ hb).symm h
   rw[h1];unfold PS;rw[if_neg h,ai2 orc x E];rfl
theorem ao9{E:List Bk}{g:Nat}{e:Bk}(h:UY E g=some e):e∈E∧e.g=g:=by unfold UY at h;exact⟨List.mem_of_find?_eq_some h,by simpa using List.find?_some h⟩
theorem akz{E:List Bk}{g:Nat}(h:UY E g=none):∀e∈E,e.g≠g:=by unfold UY at h;rw[List.find?_eq_none]at h;intro e he hg;exact h e he (by simpa using hg)
theorem Vf{x y:Bk}:∀{E:List Bk},(E.map (·.g)).Nodup→(y∈PS E x↔y=x∨(y∈E∧y.g≠x.g))
 | [],_=>by simp[PS]
 |e ::E,hn=>by
  rw[zqx,List.nodup_cons]at hn;unfold PS;by_cases h:e.g=x.g
  ·rw[if_pos h,OG,OG];constructor
   ·rintro(r|r)
    ·exact .inl r
    ·exact .inr ⟨.inr r,fun hg=>hn.1 (We.2 ⟨y,r,by rw[hg,h]⟩)⟩
   ·rintro(r|⟨r|r,hg⟩)
    ·exact .inl r
    ·exact absurd (by rw[r];exact h) hg
    ·exact .inr r
  ·rw[if_neg h,OG,OG,Vf hn.2];constructor
   ·rintro(r|r|⟨r,hg⟩)
    ·exact .inr ⟨.inl r,by rw[r];exact h⟩
    ·exact .inl r
    ·exact .inr ⟨.inr r,hg⟩
   ·rintro(r|⟨r|r,hg⟩)
    ·exact .inr (.inl r)
    ·exact .inl r
    ·exact .inr (.inr ⟨r,hg⟩)
theorem Vg{x:Bk}:∀{E:List Bk},(E.map (·.g)).Nodup→((PS E x).map (·.g)).Nodup
 | [],_=>by simp[PS]
 |e ::E,hn=>by
  have hn':=hn;rw[zqx,List.nodup_cons]at hn;unfold PS;by_cases h:e.g=x.g
  ·rw[if_pos h,zqx,List.nodup_cons,←h];exact hn
  ·rw[if_neg h,zqx,List.nodup_cons];refine⟨fun hm=>?_,Vg hn.2⟩;obtain⟨y,hy,hg⟩:=We.1 hm;rcases (Vf hn.2).1 hy with rfl|⟨hy,_⟩
   ·exact h hg.symm
   ·exact hn.1 (We.2 ⟨y,hy,hg⟩)
def My(c:Cf St):Nat:=RK (abz c.2) (Wf (c.1:Int))
def QX(l:List (Cf St))(g:Nat):List Nat:=(List.range l.length).filter fun j=>(l[j]?.map My)==some g
def Xb(l:List (Cf St))(g:Nat):List Int:=(QX l g).map fun j:Nat=>(j:Int)
theorem ZO{l:List (Cf St)}{g j:Nat}:j∈QX l g↔∃c,l[j]?=some c∧My c=g:=by
 unfold QX;rw[List.mem_filter,List.mem_range];constructor
 ·rintro⟨h1,h2⟩;rw[yT h1]at h2;exact⟨_,yT h1,by simpa using h2⟩
 ·rintro⟨c,h1,h2⟩;obtain⟨h3,h4⟩:=List.getElem?_eq_some_iff.1 h1;refine⟨h3,?_⟩;rw[h1];simp[h2]
theorem apa(l:List (Cf St))(x:Cf St)(g:Nat):QX (l ++ [x]) g=QX l g++(if My x=g then [l.length]else []):=by
 unfold QX;rw[Ko,List.length_singleton,List.range_succ,List.filter_append];congr 1
 ·refine List.filter_congr fun j hj=>?_;rw[List.getElem?_append_left (List.mem_range.1 hj)]
 ·by_cases h:My x=g
  ·simp[h]
  ·simp[h]
theorem apb(l:List (Cf St))(x:Cf St)(g:Nat):Xb (l ++ [x]) g=Xb l g++(if My x=g then [(l.length:Int)]else []):=by unfold Xb;rw[apa,List.map_append];split<;>simp
theorem aow(l:List (Cf St))(g:Nat):(QX l g).length≤l.length:=by unfold QX;refine Nat.le_trans (List.length_filter_le _ _) ?_;rw[List.length_range];exact fg _
theorem ZP(l:List (Cf St))(g:Nat):(Xb l g).length=(QX l g).length:=List.length_map ..
structure RgA(X:Kn)(i:Nat)(os:List Op)(cO c3:AV)(bj n0:Key)(h0:T ah)(tm:T AV)(h:T ah)(nx:Key):Prop where
 k3:ae (K 3) tm=some c3
 cM:ae (K 11) tm=some (.ptr bj 0)
 vj:ae bj h=some (.cells (wB X i cO (cX i)) .fix)
 lt:bj.toNat<nx.toNat
 e:Ext h0 n0 h nx
theorem RgA.ext{X:Kn}{i:Nat}{os:List Op}{cO c3:AV}{bj n0:Key}{h0:T ah}{tm ay:T AV}{h h':T ah}{nx nx':Key}(A:RgA X i os cO c3 bj n0 h0 tm h nx)(e:Ext h nx h' nx')(h3:ae (K 3) ay=ae (K 3) tm)(h11:ae (K 11) ay=ae (K 11) tm):RgA X i os cO c3 bj n0 h0 ay h' nx':=
 ⟨h3.trans A.k3,h11.trans A.cM,by rw[e.g bj A.lt];exact A.vj,by have:=e.n;have:=A.lt;omega,A.e.trans e⟩
variable{C:bQ}{X:Kn}(S:Std C X)
include S
end Ln
namespace Ln
open Go.Sx Go
variable{C:bQ}{X:Kn}(S:Std C X)
include S
end Ln
namespace Ln
open Go.Sx Go
variable{C:bQ}{X:Kn}(S:Std C X)
include S
end Ln
namespace Go.Sx
variable{C:bQ}{Q:dh}{ds:List Key}{au:List (Nat×Key×ah)}{L:List aS}{tm:T AV}{h:T ah}{nx d x y:Key}{n:Nat}
theorem Rd.aAR{z:Nat}{c:AV}{α:Type}{enc:α→List AV}{us:List α}{nx' k1 k2 d1 d2:Key}{a b:Nat}(F:Flat z enc)(g:Rd z c (ag enc us) us.length h nx'){i:Nat}(hi:i<us.length)(h1:ae k1 tm=some c)(h2:ae k2 tm=some (I i)) :
  wpS C Q ⟨ds,[]⟩ (.L a ⟨some d1,.indexL z (.t k1) (.t k2),none⟩ ::.L b ⟨some d2,.load true z (.t d1),none⟩ ::L) au tm h nx=wpS C Q ⟨ds,[]⟩ L au (aw d2 (some (.agg (enc us[i]))) (aw d1 (some (JV z i c)) tm)) h nx:=g.ixS F hi h1 h2 rfl rfl
theorem aky{o:BinOp}{a b:PX}{v:AV}(hl:lightOp C.orc (.bin o a b) tm h=some v):wpS C Q ⟨ds,[]⟩ (.L n ⟨some d,.bin o a b,none⟩ ::L) au tm h nx=wpS C Q ⟨ds,[]⟩ L au (aw d (some v) tm) h nx:=by simp[hl,-lightOp]
end Go.Sx
namespace Ln
open Go.Sx Go
theorem ast{C:bQ}{Q:dh}{ds:List Key}{au:List (Nat×Key×ah)}{L:List aS}{tm:T AV}{h:T ah}{nx d x y:Key}{n:Nat}(a b:Nat)(h1:ae x tm=some (mJ a))(h2:ae y tm=some (mJ b)):wpS C Q ⟨ds,[]⟩ (.L n ⟨some d,.bin .xor (.t x) (.t y),none⟩ ::L) au tm h nx=wpS C Q ⟨ds,[]⟩ L au (aw d (some (mJ (RK a b))) tm) h nx:=
 aky (by simp only[lightOp,at_t,h1,h2];rfl)
structure WU(n0:Key)(l:List (Cf St))(br bm:Key)(cC cS:AV)(oC:Option Key)(E:List Bk)(h:T ah)(nx:Key):Prop where
 lW:ae br h=some (.cells [cC,cS,.map bm] .fix)
 map:ae bm h=some (.map (DA E))
 brn:br.toNat<nx.toNat
 bmn:bm.toNat<nx.toNat
 C:Gr 5 cC (ag eC l) l.length h nx oC
 B:∀e∈E,Gr 1 e.c (ag eI (Xb l e.g)) (Xb l e.g).length h nx e.o
 nd:(E.map (·.g)).Nodup
 cov:∀c∈l,∃e∈E,e.g=My c
 aj3:∀e∈E,∀b,e.o=some b→oC≠some b
 sep:∀e∈E,∀f∈E,e.g≠f.g→∀b,e.o=some b→f.o≠some b
 ow:∀b,(oC=some b∨∃e∈E,e.o=some b)→b≠br∧b≠bm∧n0.toNat≤b.toNat
 cs:cS.aT=true∧cS.cells=[cS]
 bb:br≠bm∧n0.toNat≤br.toNat∧n0.toNat≤bm.toNat
theorem WU.ext{n0:Key}{l:List (Cf St)}{br bm:Key}{cC cS:AV}{oC:Option Key}{E:List Bk}{h h':T ah}{nx nx':Key}(R:WU n0 l br bm cC cS oC E h nx)(e:Ext h nx h' nx'):WU n0 l br bm cC cS oC E h' nx':=
 ⟨by rw[e.g _ R.brn];exact R.lW,by rw[e.g _ R.bmn];exact R.map,by have:=R.brn;have:=e.n;omega,by have:=R.bmn;have:=e.n;omega,R.C.ext e,fun x hx=>(R.B x hx).ext e,R.nd,R.cov,R.aj3,R.sep,R.ow,R.cs,R.bb⟩
theorem aou{n0:Key}{l:List (Cf St)}{br bm:Key}{cC cS:AV}{oC:Option Key}{E:List Bk}{h:T ah}{nx:Key}(R:WU n0 l br bm cC cS oC E h nx){g:Nat}(hg:UY E g=none):QX l g=[]:=by refine List.eq_nil_iff_forall_not_mem.2 fun j hj=>?_;obtain⟨c,h1,h2⟩:=ZO.1 hj;obtain⟨e,he,h3⟩:=R.cov c (List.mem_of_getElem? h1);exact akz hg e he (by rw[h3,h2])
def AdI(l:List (Cf St))(x:Cf St)(g:Nat)(Wi:AV)(br b3:Key)(h:T ah)(nx:Key)(m:Nat)(ay:T AV)(h':T ah)(nx':Key):Prop:=∃q:Nat,m=(QX l g).length-q∧q≤(QX l g).length∧ae (K 0) ay=some (.ptr br 0)∧ae (K 3) ay=some (.ptr b3 0)∧ae (K 5) ay=some (mJ g)∧ae (K 20) ay=some Wi∧ae (K 21) ay=some (I (QX l g).length)∧ae (K 22) ay=some (I q)∧Ext h nx h' nx'∧(∀p (hp:p<(QX l g).length),p<q→l[(QX l g)[p]]?≠some x)
variable{C:bQ}{X:Kn}(S:Std C X)(H:OU C)
include S H
theorem aov{n0:Key}{l:List (Cf St)}(hl:l.length≤10000)(BL:∀y∈l,y.2.kids.length≤3){x:Cf St}(hx:x.2.kids.length≤3){g:Nat}{br bm b3:Key}{cC cS Wi:AV}{oC:Option Key}{E:List Bk}{h:T ah}{nx:Key}(R:WU n0 l br bm cC cS oC E h nx)(h20:Rd 1 Wi (ag eI (Xb l g)) (Xb l g).length h nx)(hb3:ae b3 h=some (.cells (eC x) .fix))(b3n:b3.toNat<nx.toNat){Q:dh}{m:Nat}{tm:T AV}{h1:T ah}{bS:Key}(A:AdI l x g Wi br b3 h nx m tm h1 bS)
  (axm:∀ay h' nx' j,l[j]?=some x→ae (K 4) ay=some (I (j:Nat))→Ext h nx h' nx'→Q .ret ay h' nx')
  (HG:∀ay h' nx',ae (K 0) ay=some (.ptr br 0)→ae (K 3) ay=some (.ptr b3 0)→ae (K 5) ay=some (mJ g)→Ext h nx h' nx'→(∀j∈QX l g,l[j]?≠some x)→Q .norm ay h' nx') :
  W C (.loop iO) (aC 0 Q) tm h1 bS:=by
 have rC:C.raw fX=false:=S.nr (by decide);have Jx:=ZP l g;have hle:=aow l g;refine W.dy (AdI l x g Wi br b3 h nx) A ?_;rintro m ef h2 aN ⟨q,rfl,hq,g0,g3,g5,g20,g21,g22,e2,sx⟩;have R2:=R.ext e2;have asu:=h20.ext e2;have aIY:ae b3 h2=some (.cells (eC x) .fix):=by rw[e2.g _ b3n];exact hb3
 refine W.of ?_;simp[iO];by_cases hql:q<(QX l g).length
 ·have hqi:(q:Int)<(QX l g).length:=by omega
  have hqs:q<(Xb l g).length:=by omega
  have L9:(Xb l g)[q]=((QX l g)[q]:Nat):=by simp[Xb]
  obtain⟨cj,hcj,hgj⟩:=ZO.1 (OA hql);obtain⟨bW,aIZ⟩:=List.getElem?_eq_some_iff.1 hcj;have hRC:=R2.C.rd;have aI0:l[(QX l g)[q]]?≠some x→∀p (hp:p<(QX l g).length),p<q+1→l[(QX l g)[p]]?≠some x:=fun h p hp hpq=>by
   by_cases e:p=q
   ·subst e;exact h
   ·exact sx p hp (by omega)
  simp[l3,g21,g22,hqi];simp only[tP,at8,aub,aNq,aNr,aNs,aNt,aNu,aNv,aNw,aNx,auc,at9,aua,aNz];simp[↓asu.ixI hqs,g20,g22];rw[L9];generalize hj:(QX l g)[q]=j at *;have hkj:=BL cj (List.mem_of_getElem? hcj);have Kb:=UZ S (a:=ofC cj) (b:=ofC x) hkj hx h2 aN;rw[amq,amq]at Kb;simp[↓hRC.aAR eJ bW,tQ,g0,g3,R2.lW,aIY,pr,y8,rC,CN,aIZ];refine Kb.mono ?_;rintro o h3 bY ⟨rfl,e3⟩;simp;by_cases hz:ach (ofC cj) (ofC x)=0
  ·have hcx:cj=x:=by
    have:=congrArg toC (aiy.1 hz)
    rwa [ah2,ah2]at this
   subst hcx;simp[hz];simp[tR];exact axm _ _ _ j hcj (by simp) (e2.trans e3)
  ·have hcx:cj≠x:=fun e=>hz (aiy.2 (by rw[e]));simp[hz];simp[tS,g22];rw[aB (by omega) (by omega)];exact⟨(QX l g).length-(q+1),by omega,q+1,rfl,by omega,by simp[g0],by simp[g3],by simp[g5],by simp[g20],by simp[g21],by simp,e2.trans e3,aI0 (by rw[hcj];exact fun e=>hcx (Option.some.inj e))⟩
 ·have hqe:q=(QX l g).length:=by omega
  subst hqe;simp[l3,g21,g22];refine HG _ _ _ (by simp[g0]) (by simp[g3]) (by simp[g5]) e2 ?_;intro j hj;obtain⟨p,hp,rfl⟩:=List.getElem_of_mem hj;exact sx p hp hp
end Ln
namespace Ln
open Go.Sx Go
structure Buk(l:List (Cf St))(E:List Bk)(g:Nat)(m:Option AV)(Wi:AV)(Wj:Option Key)(h:T ah)(nx:Key):Prop where
 m:(m=none∧Wi=.nils)∨m=some Wi
 gr:Gr 1 Wi (ag eI (Xb l g)) (Xb l g).length h nx Wj
 own:∀b,Wj=some b→∃e∈E,e.g=g∧e.o=some b
theorem WU.buk{n0:Key}{l:List (Cf St)}{br bm:Key}{cC cS:AV}{oC:Option Key}{E:List Bk}{h:T ah}{nx:Key}(R:WU n0 l br bm cC cS oC E h nx)(g:Nat):∃Wi Wj,Buk l E g ((UY E g).map (·.c)) Wi Wj h nx:=by
 cases hg:UY E g with
 |none=>
  refine⟨.nils,none,.inl ⟨rfl,rfl⟩,?_,by simp⟩;have:Xb l g=[]:=by unfold Xb;rw[aou R hg];rfl
  rw[this];exact Gr.nil _ _ _
 |some e=>obtain⟨h1,h2⟩:=ao9 hg;refine⟨e.c,e.o,.inr rfl,by have:=R.B e h1;rw[h2]at this;exact this,fun b hb=>⟨e,h1,h2,hb⟩⟩
theorem Buk.ext{l:List (Cf St)}{E:List Bk}{g:Nat}{m:Option AV}{Wi:AV}{Wj:Option Key}{h h':T ah}{nx nx':Key}(B:Buk l E g m Wi Wj h nx)(e:Ext h nx h' nx'):Buk l E g m Wi Wj h' nx':=⟨B.m,B.gr.ext e,B.own⟩
variable{C:bQ}{X:Kn}(S:Std C X)(H:OU C)
theorem axQ{n0:Key}{l:List (Cf St)}(hl:l.length≤10000){g:Nat}{br bm:Key}{cC cS Wi:AV}{oC Wj:Option Key}{E:List Bk}{h:T ah}{nx:Key}(R:WU n0 l br bm cC cS oC E h nx)(B:Buk l E g ((UY E g).map (·.c)) Wi Wj h nx){Q:dh}{tm:T AV}(g0:ae (K 0) tm=some (.ptr br 0))(g5:ae (K 5) tm=some (mJ g))
  (hQ:∀ay c55 o55 h2 aN,ae (K 0) ay=ae (K 0) tm→ae (K 3) ay=ae (K 3) tm→Gr 1 c55 (ag eI (Xb l g ++ [(l.length:Int)])) (Xb l g ++ [(l.length:Int)]).length h2 aN o55→nR h nx Wj h2 aN o55→Q .norm ay (aw bm (some (.map (DA (PS E ⟨g,c55,o55⟩)))) h2) aN) :
  gn C (.staged dV ⟨[K 38,K 39,K 40,K 41,K 42,K 43,K 44,K 45,K 46,K 47,K 48,K 49,K 50,K 51,K 52,K 53,K 54,K 55],[]⟩) Q tm h nx:=by
 have s1:=kTSu nx;have hfk:=Ve C.orc g E;have e1:=E0 h nx (.cells [I (l.length:Int)] .fix);have Jx:=ZP l g;have hle:=aow l g;obtain⟨c55,h2,aN,o55,ha,G55,F⟩:=(B.gr.ext e1).As FO (by decide) (by decide) (by omega) (l.length:Int);have F15:=(nR.iT e1 Wj).trans F;have hej:eI (l.length:Int)=[I (l.length:Int)]:=rfl;rw[hej]at ha;have hR:=R.C.rd;have ob:∀b:Key,b.toNat<nx.toNat→(∀e∈E,e.o≠some b)→ae b h2=ae b h:=fun b hb ho=>F15.g b hb (fun e=>by obtain⟨x,hx,_,hxo⟩:=B.own b e;exact ho x hx hxo);have br2:ae br h2=some (.cells [cC,cS,.map bm] .fix):=by rw[ob br R.brn (fun e he ho=>(R.ow br (.inr ⟨e,he,ho⟩)).1 rfl)];exact R.lW
 have NK:ae bm h2=some (.map (DA E)):=by rw[ob bm R.bmn (fun e he ho=>(R.ow bm (.inr ⟨e,he,ho⟩)).2.1 rfl)];exact R.map
 have kc:=G55.cell;have Tr:=ai2 C.orc ⟨g,c55,o55⟩ E;simp only at Tr;have fin:∀ay,ae (K 0) ay=ae (K 0) tm→ae (K 3) ay=ae (K 3) tm→Q .norm ay (aw bm (some (.map (DA (PS E ⟨g,c55,o55⟩)))) h2) aN:=fun ay a b=>hQ ay c55 o55 h2 aN a b G55 F15;have lW:=R.lW;have mp:=R.map;have kbq:AV.beq (.map bm) (.map bm)=true:=beq_refl _ rfl;rcases B.m with⟨hm,rfl⟩|hm
 ·rw[hm]at hfk;simp[-appendTo,-findK,-setK,dV,g0,g5,lW,mp,hfk,↓hR.lnS,ha,br2,NK,Tr];exact⟨kbq,fin _ (by simp) (by simp)⟩
 ·rw[hm]at hfk;simp[-appendTo,-findK,-setK,dV,g0,g5,lW,mp,hfk,↓hR.lnS,ha,br2,NK,Tr];exact⟨kbq,fin _ (by simp) (by simp)⟩
structure Q9(n0:Key)(l:List (Cf St))(x:Cf St)(br bm:Key)(cS:AV)(oC:Option Key)(E:List Bk)(h:T ah)(nx:Key)(o:Out)(h':T ah)(nx':Key):Prop where
 r:∃(j:Nat) (cC':AV) (Pq:Option Key) (E':List Bk),(dW l x)[j]?=some x∧o=.ret (I (j:Nat))∧WU n0 (dW l x) br bm cC' cS Pq E' h' nx'∧(∀b,(Pq=some b∨∃e∈E',e.o=some b)→(oC=some b∨∃e∈E,e.o=some b)∨nx.toNat≤b.toNat)
 n:nx.toNat≤nx'.toNat
 g:∀b:Key,b.toNat<nx.toNat→b≠br→b≠bm→oC≠some b→(∀e∈E,e.o≠some b)→ae b h'=ae b h
end Ln
namespace Ln
open Go.Sx Go
variable{C:bQ}{X:Kn}(S:Std C X)(H:OU C)
theorem ath{n0:Key}{l:List (Cf St)}(hl:l.length≤10000){x:Cf St}(hxl:x∉l){br bm b3:Key}{cC cS Wi:AV}{oC Wj:Option Key}{E:List Bk}{h:T ah}{nx:Key}(hn0:n0.toNat≤nx.toNat)(R:WU n0 l br bm cC cS oC E h nx)(B:Buk l E (My x) ((UY E (My x)).map (·.c)) Wi Wj h nx)(hb3:ae b3 h=some (.cells (eC x) .fix))(b3n:b3.toNat<nx.toNat)(b3o:b3≠br∧b3≠bm∧oC≠some b3∧∀e∈E,e.o≠some b3){R':Out→T ah→Key→Prop}{tm:T AV}(g0:ae (K 0) tm=some (.ptr br 0))(g3:ae (K 3) tm=some (.ptr b3 0))(g5:ae (K 5) tm=some (mJ (My x)))
  (hR:∀h' nx',Q9 n0 l x br bm cS oC E h nx (.ret (I l.length)) h' nx'→R' (.ret (I l.length)) h' nx') :
  gn C (.seq (.staged dV ⟨[K 38,K 39,K 40,K 41,K 42,K 43,K 44,K 45,K 46,K 47,K 48,K 49,K 50,K 51,K 52,K 53,K 54,K 55],[]⟩) (.seq (.staged iP ⟨[K 56,K 57,K 58,K 59,K 60,K 61,K 62,K 63,K 64,K 65],[]⟩) (.seq (.ops gV) .ret))) (bZ [.tmp (K 4)] R') tm h nx:=by
 simp only[bM];refine axQ (C:=C) hl R B g0 g5 (fun aJ c55 o55 h2 aN p0 p3 G55 F=>?_);rw[g0]at p0;rw[g3]at p3;have n2:=F.n;have s2:=kTSu aN;have aSZ:∀b:Key,Wj=some b→b.toNat<nx.toNat:=fun b hb=>B.gr.lt b hb;have ap8:∀b:Key,o55=some b→Wj=some b∨nx.toNat≤b.toNat:=fun b hb=>by
  rcases F.o with e|⟨y,e,hy⟩
  ·rw[e]at hb;exact .inl hb
  ·rw[e]at hb;cases hb;exact .inr hy
 have ank:∀b:Key,Wj=some b→b≠br∧b≠bm∧oC≠some b:=fun b hb=>by obtain⟨e,he,_,ho⟩:=B.own b hb;have:=R.ow b (.inr ⟨e,he,ho⟩);exact⟨this.1,this.2.1,R.aj3 e he b ho⟩
 have ax7:∀b:Key,o55=some b→b≠br∧b≠bm∧oC≠some b:=fun b hb=>by
  rcases ap8 b hb with h1|h1
  ·exact ank b h1
  ·have h2:=R.brn;have h3:=R.bmn;exact⟨fun e=>by rw[e]at h1;omega,fun e=>by rw[e]at h1;omega,fun e=>by have:=R.C.lt b e;omega⟩
 have k2:∀b:Key,b.toNat<nx.toNat→Wj≠some b→ae b h2=ae b h:=fun b hb ho=>F.g b hb ho;generalize hE:PS E ⟨My x,c55,o55⟩=E' at *;have k3:∀b:Key,b≠bm→ae b (aw bm (some (.map (DA E'))) h2)=ae b h2:=fun b hb=>aU _ _ _ _ hb;have br3:ae br (aw bm (some (.map (DA E'))) h2)=some (.cells [cC,cS,.map bm] .fix):=by rw[k3 br R.bb.1,k2 br R.brn (fun e=>(ank br e).1 rfl)];exact R.lW
 have b33:ae b3 (aw bm (some (.map (DA E'))) h2)=some (.cells (eC x) .fix):=by rw[k3 b3 b3o.2.1,k2 b3 b3n (fun e=>by obtain⟨y,hy,_,ho⟩:=B.own b3 e;exact b3o.2.2.2 y hy ho)];exact hb3
 have bm3:ae bm (aw bm (some (.map (DA E'))) h2)=some (.map (DA E')):=by simp
 have aKe:∀b:Key,oC=some b→ae b (aw bm (some (.map (DA E'))) h2)=ae b h:=fun b hb=>by have:=R.ow b (.inl hb);rw[k3 b this.2.1,k2 b (R.C.lt b hb) (fun e=>(ank b e).2.2 hb)]
 have G3:Gr 5 cC (ag eC l) l.length (aw bm (some (.map (DA E'))) h2) aN oC:=R.C.cF n2 aKe;have ax8:Gr 1 c55 (ag eI (Xb l (My x) ++ [(l.length:Int)])) (Xb l (My x) ++ [(l.length:Int)]).length (aw bm (some (.map (DA E'))) h2) aN o55:=G55.cF (fg _) fun b hb=>k3 b (ax7 b hb).2.1;have dj:∀b:Key,b.toNat<nx.toNat→b≠bm→Wj≠some b→ae b (aw bm (some (.map (DA E'))) h2)=ae b h:=fun b hb hm ho=>by rw[k3 b hm,k2 b hb ho]
 generalize aw bm (some (.map (DA E'))) h2=h3 at *;have e4:=E0 h3 aN (.cells (eC x) .fix);obtain⟨c63,h5,r9,Pq,ha,G5,F5⟩:=(G3.ext e4).As eJ (by decide) (by decide) (by omega) x;have F35:=(nR.iT e4 oC).trans F5;have n5:=F35.n;have br5:ae br h5=some (.cells [cC,cS,.map bm] .fix):=by rw[F35.g br (by have:=R.brn;omega) (fun e=>(R.ow br (.inl e)).1 rfl)];exact br3
 have kc:=G3.cell;have kc':=G5.cell;simp;simp[-appendTo,iP,p0,p3,br3,b33,pr,y8,CM,aim,UE,ha,br5,kc.1,kc.2,kc'.1,kc'.2,R.cs.1,R.cs.2];have ho5:∀b:Key,Pq=some b→oC=some b∨aN.toNat≤b.toNat:=fun b hb=>by
  rcases F35.o with e|⟨y,e,hy⟩
  ·rw[e]at hb;exact .inl hb
  ·rw[e]at hb;cases hb;exact .inr hy
 have brn:=R.brn;have bmn:=R.bmn;have aKg:Pq≠some br:=fun e=>by
  rcases ho5 br e with h1|h1
  ·exact(R.ow br (.inl h1)).1 rfl
  ·omega
 have k6:∀b:Key,b.toNat<aN.toNat→b≠br→oC≠some b→ae b (aw br (some (.cells [c63,cS,.map bm] .fix)) h5)=ae b h3:=fun b hb h1 h2=>by rw[aU _ _ _ _ h1,F35.g b hb h2]
 have br6:ae br (aw br (some (.cells [c63,cS,.map bm] .fix)) h5)=some (.cells [c63,cS,.map bm] .fix):=by simp
 have G6:Gr 5 c63 (ag eC (l ++ [x])) (l ++ [x]).length (aw br (some (.cells [c63,cS,.map bm] .fix)) h5) r9 Pq:=G5.cF (fg _) fun b hb=>aU _ _ _ _ (fun e=>aKg (by rw[hb,e]));generalize aw br (some (.cells [c63,cS,.map bm] .fix)) h5=h6 at *;have hR6:=G6.rd;have hll:(l ++ [x]).length=l.length+1:=by simp
 rw[hll]at hR6;have hw1:aW .i64 (l.length:Int)=(l.length:Int):=aB (by omega) (by omega);simp[↓hR6.ln,gV,p0,br6,hw1];have pF:dW l x=l ++ [x]:=by unfold dW;rw[if_neg hxl]
 have HG:∀y:Bk,y∈E'↔y=⟨My x,c55,o55⟩∨(y∈E∧y.g≠My x):=fun y=>by rw[←hE];exact Vf R.nd
 have oCn:∀b:Key,Pq=some b→oC=some b∨nx.toNat≤b.toNat:=fun b hb=>by
  rcases ho5 b hb with h1|h1
  ·exact .inl h1
  ·exact .inr (by omega)
 have aCK:∀e∈E,e.g≠My x→∀b,e.o=some b→ae b h6=ae b h:=fun e he hg b hb=>by have EJ:=(R.B e he).lt b hb;have h1:=R.ow b (.inr ⟨e,he,hb⟩);have h2:=R.aj3 e he b hb;rw[k6 b (by omega) h1.1 h2,dj b EJ h1.2.1 (fun e'=>by obtain⟨y,hy,hyg,hyo⟩:=B.own b e';exact R.sep e he y hy (by rw[hyg];exact hg) b hb hyo)]
 refine hR _ _ ⟨⟨l.length,c63,Pq,E',by rw[pF];simp,rfl,?_,?_⟩,by omega,?_⟩
 ·rw[pF];refine⟨br6,?_,by omega,by omega,G6,?_,by rw[←hE];exact Vg R.nd,?_,?_,?_,?_,R.cs,R.bb⟩
  ·rw[k6 bm (by omega) (Ne.symm R.bb.1) (fun e=>(R.ow bm (.inl e)).2.1 rfl)];exact bm3
  ·intro e he;rw[apb];rcases (HG e).1 he with rfl|⟨he,hg⟩
   ·rw[if_pos rfl];refine ax8.cF n5 fun b hb=>?_;have h1:=ax7 b hb;have h2:b.toNat<aN.toNat:=ax8.lt b hb;rw[k6 b h2 h1.1 h1.2.2]
   ·rw[if_neg (fun e'=>hg e'.symm),List.append_nil];exact(R.B e he).cF (by omega) (aCK e he hg)
  ·intro c hc;rcases List.mem_append.1 hc with hc|hc
   ·obtain⟨e,he,h1⟩:=R.cov c hc;by_cases hg:e.g=My x
    ·exact⟨_,(HG _).2 (.inl rfl),by show My x=My c;rw[←hg,h1]⟩
    ·exact⟨e,(HG e).2 (.inr ⟨he,hg⟩),h1⟩
   ·simp at hc;subst hc;exact⟨_,(HG _).2 (.inl rfl),rfl⟩
  ·intro e he b hb hC;rcases (HG e).1 he with rfl|⟨he,hg⟩
   ·rcases ho5 b hC with h1|h1
    ·exact(ax7 b hb).2.2 h1
    ·have:b.toNat<aN.toNat:=ax8.lt b hb;omega
   ·have EJ:=(R.B e he).lt b hb;rcases oCn b hC with h1|h1
    ·exact R.aj3 e he b hb h1
    ·omega
  ·intro e he f hf bX b hb hfo;rcases (HG e).1 he with rfl|⟨he,hg⟩
   ·rcases (HG f).1 hf with rfl|⟨hf,hgf⟩
    ·exact bX rfl
    ·have EJ:=(R.B f hf).lt b hfo;rcases ap8 b hb with h1|h1
     ·obtain⟨y,hy,hyg,hyo⟩:=B.own b h1;exact R.sep f hf y hy (by rw[hyg];exact hgf) b hfo hyo
     ·omega
   ·rcases (HG f).1 hf with rfl|⟨hf,hgf⟩
    ·have EJ:=(R.B e he).lt b hb;rcases ap8 b hfo with h1|h1
     ·obtain⟨y,hy,hyg,hyo⟩:=B.own b h1;exact R.sep e he y hy (by rw[hyg];exact hg) b hb hyo
     ·omega
    ·exact R.sep e he f hf bX b hb hfo
  ·intro b hb;rcases hb with hb|⟨e,he,hb⟩
   ·rcases oCn b hb with h1|h1
    ·exact R.ow b (.inl h1)
    ·exact⟨fun e=>by rw[e]at h1;omega,fun e=>by rw[e]at h1;omega,by omega⟩
   ·rcases (HG e).1 he with rfl|⟨he,hg⟩
    ·rcases ap8 b hb with h1|h1
     ·obtain⟨y,hy,_,hyo⟩:=B.own b h1;exact R.ow b (.inr ⟨y,hy,hyo⟩)
     ·exact⟨fun e=>by rw[e]at h1;omega,fun e=>by rw[e]at h1;omega,by omega⟩
    ·exact R.ow b (.inr ⟨e,he,hb⟩)
 ·intro b hb;rcases hb with hb|⟨e,he,hb⟩
  ·rcases oCn b hb with h1|h1
   ·exact .inl (.inl h1)
   ·exact .inr h1
  ·rcases (HG e).1 he with rfl|⟨he,hg⟩
   ·rcases ap8 b hb with h1|h1
    ·obtain⟨y,hy,_,hyo⟩:=B.own b h1;exact .inl (.inr ⟨y,hy,hyo⟩)
    ·exact .inr h1
   ·exact .inl (.inr ⟨e,he,hb⟩)
 ·intro b hb h1 h2 h4 h5;rw[k6 b (by omega) h1 h4,dj b hb h2 (fun e=>by obtain⟨y,hy,_,hyo⟩:=B.own b e;exact h5 y hy hyo)]
end Ln
namespace Ln
open Go.Sx Go
theorem Q9.lift{n0:Key}{l:List (Cf St)}{x:Cf St}{br bm:Key}{cS:AV}{oC:Option Key}{E:List Bk}{h h1 h':T ah}{nx bS nx':Key}{o:Out}(e:Ext h nx h1 bS)(A:Q9 n0 l x br bm cS oC E h1 bS o h' nx'):Q9 n0 l x br bm cS oC E h nx o h' nx':=by
 have n:=e.n;obtain⟨⟨j,cC',Pq,E',a1,a2,a3,a4⟩,a5,a6⟩:=A;refine⟨⟨j,cC',Pq,E',a1,a2,a3,fun b hb=>?_⟩,by omega,fun b hb h1 h2 h3 h4=>by rw[a6 b (by omega) h1 h2 h3 h4,e.g b hb]⟩;rcases a4 b hb with h1|h1
 ·exact .inl h1
 ·exact .inr (by omega)
variable{C:bQ}{X:Kn}(S:Std C X)(H:OU C)
include S H
theorem am2{n0:Key}{l:List (Cf St)}(hl:l.length≤10000)(BL:∀y∈l,y.2.kids.length≤3){x:Cf St}(hx:x.2.kids.length≤3){br bm:Key}{cC cS:AV}{oC:Option Key}{E:List Bk}{h:T ah}{nx:Key}(hn0:n0.toNat≤nx.toNat)(R:WU n0 l br bm cC cS oC E h nx) :
  aG C dG [.ptr br 0,.agg (eC x)] h nx (Q9 n0 l x br bm cS oC E h nx):=by
 have rH:C.raw pW=false:=S.nr (by decide);have s1:=kTSu nx;refine S.wq.call ?_;simp[qQ];simp[ua,CM,pr];have e1:=E0 h nx (.cells (eC x) .fix);have b1:ae nx (aw nx (some (.cells (eC x) .fix)) h)=some (.cells (eC x) .fix):=by simp
 generalize aw nx (some (.cells (eC x) .fix)) h=h1 at *;have ec0:(eC x)[0]?=some (I x.1):=rfl;have ann:(eC x).head?=some (I x.1):=rfl;have et:List.take 4 (eC x).tail=eS x.2:=rfl;have hcu:aW .u64 (x.1:Int)=((Wf (x.1:Int):Nat):Int):=Qc _;have hbq:AV.beq (I x.1) (I x.1)=true:=beq_refl _ rfl;simp[ub,b1,ec0,ann,et,pr,hcu,rH,zd];refine(arR S H hx).mono ?_;rintro o h2 aN ⟨rfl,e2⟩;have n2:=e2.n;have b2:ae nx h2=some (.cells (eC x) .fix):=by rw[e2.g nx (by omega)];exact b1
 have Wm:=e1.trans e2;have R2:=R.ext Wm;have hhk:My x=RK (abz x.2) (Wf (x.1:Int)):=rfl;simp[b2,ec0,ann,hbq,↓ast (abz x.2) (Wf (x.1:Int))];rw[←hhk];obtain⟨Wi,Wj,B⟩:=R2.buk (My x);have hfk:=Ve C.orc (My x) E;have asu:=B.gr.rd;have Jx:=ZP l (My x);have main:∀aJ:T AV,ae (K 0) aJ=some (.ptr br 0)→ae (K 3) aJ=some (.ptr nx 0)→ae (K 5) aJ=some (mJ (My x))→ae (K 20) aJ=some Wi→ae (K 21) aJ=some (I (Xb l (My x)).length)→ae (K 22) aJ=some (I 0)→
   W C (.loop iO) (aC 0 (aQ (gn C (.seq (.staged dV ⟨[K 38,K 39,K 40,K 41,K 42,K 43,K 44,K 45,K 46,K 47,K 48,K 49,K 50,K 51,K 52,K 53,K 54,K 55],[]⟩) (.seq (.staged iP ⟨[K 56,K 57,K 58,K 59,K 60,K 61,K 62,K 63,K 64,K 65],[]⟩) (.seq (.ops gV) .ret))) (bZ [.tmp (K 4)] (Q9 n0 l x br bm cS oC E h nx))) (bZ [.tmp (K 4)] (Q9 n0 l x br bm cS oC E h nx)))) aJ h2 aN:=by
  intro aJ q0 q3 q5 q20 q21 q22;refine aov S H hl BL hx (g:=My x) R2 asu b2 (by omega) (m:=(QX l (My x)).length) ⟨0,by simp,by omega,q0,q3,q5,q20,by rw[q21,Jx],by simpa using q22,Ext.refl _ _,fun p _ hp=>absurd hp (by omega)⟩ ?_ ?_
  ·intro ay h' nx' j hj q4 e';have hxl:x∈l:=List.mem_of_getElem? hj;have pF:dW l x=l:=by unfold dW;rw[if_pos hxl]
   have Vt:=Wm.trans e';simp[q4];exact⟨⟨j,cC,oC,E,by rw[pF];exact hj,rfl,by rw[pF];exact R.ext Vt,fun b hb=>.inl hb⟩,Vt.n,fun b hb _ _ _ _=>Vt.g b hb⟩
  ·intro ay h' nx' q0' q3' q5' e' sx;have hxl:x∉l:=fun hm=>by
    obtain⟨j,hj,e⟩:=List.getElem_of_mem hm;have hj2:l[j]?=some x:=by rw[yT hj,e]
    exact sx j (ZO.2 ⟨x,hj2,rfl⟩) hj2
   have Vt:=Wm.trans e';have n13:=Vt.n;have n':=e'.n;have R3:=R2.ext e';have hnb:∀b:Key,b.toNat<nx.toNat→b≠nx:=fun b hb e=>by rw[e]at hb;omega
   simp only[ZL];refine ath (C:=C) hl hxl (b3:=nx) (by omega) R3 (B.ext e') (by rw[e'.g nx (by omega)];exact b2) (by omega) ⟨fun e=>hnb br R.brn e.symm,fun e=>hnb bm R.bmn e.symm,fun e=>hnb nx (R.C.lt nx e) rfl,fun y hy e=>hnb nx ((R.B y hy).lt nx e) rfl⟩ q0' q3' q5' (fun h4 jZ A=>?_);exact Q9.lift Vt A
 rcases B.m with⟨hm,rfl⟩|hm
 ·rw[hm]at hfk;have hl0:(Xb l (My x)).length=0:=by
   rcases B.gr with⟨_,_,e,_⟩|⟨b,k,_,e,_⟩|⟨t,_,e,_⟩
   ·exact e
   ·cases e
   ·cases e
  rw[hl0]at main;simp[-findK,ma,R2.lW,R2.map,hfk];refine main _ ?_ ?_ ?_ ?_ ?_ ?_<;>simp
 ·rw[hm]at hfk;simp[-findK,ma,R2.lW,R2.map,hfk,↓asu.ln];refine main _ ?_ ?_ ?_ ?_ ?_ ?_<;>simp
end Ln
namespace Ln
open Go.Sx Go
variable{σ:Type}[DecidableEq σ]
theorem LR:∀(a l b:List (Cf σ)),eN l (a++b)=match eN l a with|none=>none|some l'=>eN l' b
 | [],l,b=>rfl
 |c ::a,l,b=>by
  show(if (dW l c).length>1024 then none else eN (dW l c) (a++b))=(match (if (dW l c).length>1024 then none else eN (dW l c) a)with|none=>none|some l'=>eN l' b);by_cases h:(dW l c).length>1024
  ·rw[if_pos h,if_pos h]
  ·rw[if_neg h,if_neg h];exact LR a (dW l c) b
theorem ae3(l:List (Cf σ))(c:Cf σ):eN l [c]=if (dW l c).length>1024 then none else some (dW l c):=rfl
def wV(S:Sys σ)(l:List (Cf σ))(c:Cf σ)(k:Nat):Option (List (Cf σ)):=eN l ((S.dS c k).map (·.2))
theorem abw(S:Sys σ)(l:List (Cf σ))(c:Cf σ):wV S l c 0=some l:=rfl
theorem abx{S:Sys σ}{l:List (Cf σ)}{c:Cf σ}{k:Nat}(h:S.step c k=none):wV S l c (k+1)=wV S l c k:=by unfold wV;rw[gQ,h];simp
theorem QO{S:Sys σ}{l lk:List (Cf σ)}{c:Cf σ}{k:Nat}{x:Nat×Cf σ}(h:S.step c k=some x)(hk:wV S l c k=some lk):wV S l c (k+1)=if (dW lk x.2).length>1024 then none else some (dW lk x.2):=by unfold wV at *;rw[gQ,h,List.map_append,LR,hk];exact ae3 lk x.2
theorem aby{S:Sys σ}{l:List (Cf σ)}{c:Cf σ}{k:Nat}(hk:k≤S.n)(h:wV S l c k=none):eN l ((S.steps c).map (·.2))=none:=by obtain⟨t,e⟩:=Is S c hk;rw[Pn]at e;rw[e,List.map_append,LR];unfold wV at h;rw[h]
theorem ae4{S:Sys σ}{l lk:List (Cf σ)}{c:Cf σ}{k:Nat}(h:wV S l c k=some lk):(∃t,lk=l++t)∧∀x∈S.dS c k,x.2∈lk:=by obtain⟨h1,h2,_⟩:=qZ h;exact⟨h1,fun x hx=>h2 _ (We.2 ⟨x,hx,rfl⟩)⟩
def AU(S:Sys σ)(l:List (Cf σ))(c:Cf σ)(k:Nat):List (Nat×Nat):=(S.dS c k).map fun x=>(x.1,l.idxOf x.2)
theorem aj1{S:Sys σ}{l t:List (Cf σ)}{c:Cf σ}{k:Nat}(h:∀x∈S.dS c k,x.2∈l):AU S (l++t) c k=AU S l c k:=by unfold AU;refine List.map_congr_left fun x hx=>?_;rw[aih (h x hx)]
theorem amT(l:List (Cf σ))(x:Cf σ):∃t,dW l x=l++t:=by
 unfold dW;split
 ·exact⟨[],by simp⟩
 ·exact⟨[x],rfl⟩
theorem ae5{S:Sys σ}{l:List (Cf σ)}{c:Cf σ}{k:Nat}{x:Nat×Cf σ}(h:S.step c k=some x)(hl:∀y∈S.dS c k,y.2∈l):AU S (dW l x.2) c (k+1)=AU S l c k ++ [(x.1,(dW l x.2).idxOf x.2)]:=by obtain⟨t,e⟩:=amT l x.2;have:=aj1 (t:=t) hl;rw[←e]at this;rw[←this];unfold AU;rw[gQ,h,List.map_append];rfl
def eT(p:Nat×Nat):List AV:=[I (p.1:Int),I (p.2:Int)]
theorem iE:Flat 2 eT where
 len _:=rfl
 r7 x y hy:=by
  simp[eT]at hy;rcases hy with rfl|rfl
  ·exact dA _ _
  ·exact dA _ _
 cell x y hy:=by simp[eT]at hy;rcases hy with rfl|rfl<;>rfl
 lits x:=by simp[eT,AV.iA,AV.lits,I]
end Ln
