/- A part of the proof. No condition. -/
import Derived.Test.YtmdpbiocakjlkaaGreatDoorP5
set_option linter.unusedSimpArgs false
set_option linter.unusedVariables false
set_option linter.unusedSectionVars false
namespace Tb
open Go.Sx Go
variable{C:cU}(S:dd C)
include S
theorem ajD{p:Key}{m:Nat}{h:T ab}{nx:Key}(P:PP p m h nx)(a b:Nat):aO C cG [.ptr p 0,.str a b] h nx (afN m h nx):=akn S.LR P a b
theorem eK{p:Key}{m:Nat}{h:T ab}{nx:Key}(P:PP p m h nx)(a b:Nat):aO C ao [.ptr p 0,.str a b] h nx (ako p m h nx):=amT S.Y8 S.LR S.Dr P a b
theorem bC{p:Key}{m:Nat}{h:T ab}{nx:Key}(P:PP p m h nx)(a b:Nat):aO C ah [.ptr p 0,.str a b] h nx (akp p m h nx):=akq S.Y9 S.LR S.Dr P a b
def aoM(L:List AV)(n:Nat)(a b:Nat)(h:T ab)(nx:Key)(k:Nat)(tm':T AV)(h':T ab)(nx':Key):Prop:=
 ∃ j:Nat,k=n-j∧j≤n∧aa (K 0) tm'=some (.sl L n 1 .any)∧aa (K 1) tm'=some (.str a b)∧aa (K 5) tm'=some (I j)∧h'=h∧nx'=nx
theorem ary{L:List AV}{n:Nat}(hL:L.length=n)(hn:n≤1000)(hs:∀ x∈L,∃ a b,x=.str a b)(a b:Nat):XR C vl [.sl L n 1 .any,.str a b] (fun o=>∃ t:Bool,o=.ret (.bool t)):=by
 intro h nx
 refine S.Za.call ?_
 simp[QI]
 simp[QE]
 simp[QF]
 refine W.bV (n:=n) (aoM L n a b h nx) ?_ ?_
 ·exact⟨0,rfl,by omega,by simp,by simp,by simp,rfl,rfl⟩
 rintro k jk h1 aY ⟨j,rfl,hj,f0,f1,f5,rfl,rfl⟩
 refine W.of ?_
 simp[QG]
 by_cases aM:j<n
 ·obtain⟨c,d,hx⟩:=hs L[j] (XV (by omega))
  have hx':L[j]?=some (.str c d):=by rw[Af (by omega),hx]
  have h1:1≤L.length-j:=by omega
  have ec:List.take 1 (List.drop j L)=[.str c d]:=by
   rw[zqt (by omega),hx];rfl
  simp[HE,f0,f5,aM]
  obtain⟨t,ht⟩:∃ t,opS .eql c d a b=some (.bool t):=⟨_,rfl⟩
  simp[WE,f0,f1,f5,aM,h1,ec,ht]
  cases t with
  |true=>
   simp
   simp[WG]
   exact Ext.refl _ _
  |false=>
   simp
   simp[WH,f5]
   refine⟨n-(j+1),by omega,?_⟩
   unfold aoM
   refine⟨j+1,rfl,by omega,?_,?_,?_,rfl,rfl⟩
   ·simp[f0]
   ·simp[f1]
   ·simp;rw[br (by omega) (by omega)]
 ·simp[HE,f0,f5,aM]
  simp[QH]
  exact Ext.refl _ _
def isStr:AV→Bool
 |.str _ _=>true
 |_=>false
def aoC(n:Nat)(o:Out):Prop:=∃ L:List AV,o=.ret (.sl L n 1 .any)∧L.length=n∧∀ x∈L,∃ a b,x=.str a b
omit S in
theorem agS{L:List AV}(h:L.all isStr=true):∀ x∈L,∃ a b,x=.str a b:=by
 intro x hx
 have:=mi.1 h x hx
 cases x<;>first|exact⟨_,_,rfl⟩|cases this
omit S in
theorem YJ{L:List AV}(h:∀ x∈L,∃ a b,x=.str a b):∀ x∈L,XP x:=by
 intro x hx
 obtain⟨a,b,rfl⟩:=h x hx
 exact Uo _ _
omit S in
theorem ab4{dst:Key}{sz len:Nat}{zs:List AV}{parts:List (Nat×Nat×PX)}{L:List AV}{l:List J}{tm:T AV}{h:T ab}{nx:Key}{Q:bp}(ha:Sb tm parts (afd len zs [])=some L)
  (hQ:eu C Q l (aK dst (some (.slice nx 0 len sz)) tm) (aK nx (some (.cells L .fix)) h) nx.succ):eu C Q (⟨some dst,.bslice sz len zs parts,none⟩ ::l) tm h nx:=by
 have e:aOp C.orc (.bslice sz len zs parts) tm h nx=.val (.slice nx 0 len sz) (aK nx (some (.cells L .fix)) h) nx.succ:=by
  simp only[aOp,allocOp,ha,newB,sTCe]
 rw[KP,wants_none,Ej,e]
 exact hQ
def akr:List (Nat×Nat×PX)→List AV
 |(_,_,.v a) ::r=>a ::akr r
 |_=>[]
def mR:List J→List AV
 |⟨_,.bslice _ _ _ ps,_⟩ ::_=>akr ps
 |_=>[]
theorem Zb:XR C mX [] (aoC 37):=by
 intro h nx
 have s1:=kTSu nx
 refine S.VX.call ?_
 simp[xi]
 simp[HF]
 refine ab4 (L:=mR lL) rfl ?_
 have hl:(mR lL).length=37:=rfl
 have hs:=agS (L:=mR lL) rfl
 generalize mR lL=L at hl hs
 have hz:=si (n:=9998) (b:=nx) (len:=37) (sz:=1) (l:=L) (H:=aK nx (some (.cells L .fix)) h) (by rw[gTSm]) (by omega) (YJ hs)
 simp[hz]
 exact⟨⟨L,rfl,hl,hs⟩,by omega,fun b hb=>by rw[bA (by omega)]⟩
theorem aks{p:Key}{m:Nat}{h:T ab}{nx:Key}(P:PP p m h nx)(k:Int):aO C jM [.ptr p 0,I k] h nx (afN m h nx):=by
 obtain⟨sn,sc,c,rs,i,bad,g,a2,a3,a4,a5,a6,rfl⟩:=P.at_
 have q1:=S.KQ
 have q2:=S.TN
 have s1:=kTSu nx
 refine S.Zc.call ?_
 simp[DT]
 simp[Nt]
 cases bad with
 |true=>
  simp[kX,g]
  exact⟨⟨_,rfl,by simp⟩,Ext.refl _ _⟩
 |false=>
  by_cases hi:i<rs.length
  ·obtain⟨k',at',n,tn,tc,e1,e2,_⟩:=UL a5 hi
   rcases a3 with⟨_,rfl⟩|rfl
   ·simp at hi
   ·obtain⟨mm,Ws⟩:∃ mm,mm=(if false=true then 0 else rs.length-i+1):=⟨_,rfl⟩
    have Cr:2≤mm:=by rw[Ws];simp;omega
    rw[← Ws]
    have hLl:AV.kP rs.flatten=true:=a5.lits
    generalize rs.flatten=L at g e1 e2 hLl
    generalize rs.length=len at g hi
    by_cases hk:(k'==k)=true
    ·simp[kX,g,hi,e1,e2,hk,q1]
     refine(Zb S h nx).mono ?_
     rintro o h1 aY ⟨⟨R,rfl,r1,r2⟩,x1⟩
     have g1:aa p h1=some (.cells [.str sn sc,.sl L len 4 .any,I i,.bool false] .fix):=by rw[x1.g p P.hi];exact g
     simp[g1,q2]
     refine⟨⟨beq_refl _ (by simpa[AV.lits] using hLl),beq_refl _ rfl,beq_refl _ rfl⟩,?_⟩
     refine(ary S r1 (by omega) r2 tn tc h1 aY).mono ?_
     rintro o h2 aH ⟨⟨t,rfl⟩,x2⟩
     simp
     exact⟨⟨_,rfl,fun _=>Cr⟩,x1.trans x2⟩
    ·simp[kX,g,hi,e1,e2,hk]
     exact⟨⟨_,rfl,by simp⟩,Ext.refl _ _⟩
  ·have IU:rs.length=i:=by omega
   rcases a3 with⟨rfl,rfl⟩|rfl
   ·simp at IU
    subst IU
    simp[kX,g]
    exact⟨⟨_,rfl,by simp⟩,Ext.refl _ _⟩
   ·generalize rs.flatten=L at g
    simp[kX,g,hi]
    exact⟨⟨_,rfl,by simp⟩,Ext.refl _ _⟩
def mf(ts:List CT)(p:Key)(m:Nat)(h:T ab)(nx:Key)(o:Out)(h':T ab)(nx':Key):Prop:=(∃ (l:List AV) (m':Nat),o=.ret (.agg l)∧cJ W0 ts l∧PP p m' h' nx'∧Rl m m' (AV.iN l))∧Ks p h nx h' nx'
omit S in
theorem amU(m:Nat):Rl m 0 0:=by unfold Rl;omega
theorem iR{p:Key}{m:Nat}{h:T ab}{nx:Key}(P:PP p m h nx)(k:Int):aO C aL [.ptr p 0,I k] h nx (mf [.int,.int,.int,.str] p m h nx):=by
 have q1:=S.QN
 have s1:=kTSu nx
 refine S.Xl.call ?_
 simp[AA]
 simp[Ju]
 have P0:=P.ext (E0 h nx (.cells [I 0,I 0,I 0,.str 0 0] .fix))
 simp[Jv,q1]
 refine(aks S P0 k).mono ?_
 rintro o h1 aY ⟨⟨t,rfl,ht⟩,x1⟩
 have P1:=P0.ext x1
 have m1:=x1.n
 have Rh:nx≠p:=aG (by have:=P.hi;omega)
 have hnx:aa nx h1=some (.cells [I 0,I 0,I 0,.str 0 0] .fix):=by rw[x1.g nx (by omega),gTSm]
 obtain⟨sn,sc,c,rs,i,bad,g,a2,a3,a4,a5,a6,rfl⟩:=P1.at_
 have zr:cJ W0 [.int,.int,.int,.str] [I 0,I 0,I 0,.str 0 0]:=.cons _ _ _ _ (.int _ (by omega) (by omega)) (.cons _ _ _ _ (.int _ (by omega) (by omega)) (.cons _ _ _ _ (.int _ (by omega) (by omega)) (.cons _ _ _ _ (.str _ _ (by decide) (by omega)) .nil)))
 cases t with
 |false=>
  have g2:aa nx (aK p (some (.cells [.str sn sc,c,I i,.bool true] .fix)) h1)=some (.cells [I 0,I 0,I 0,.str 0 0] .fix):=by rw[bU _ _ _ _ Rh];exact hnx
  simp[Jw,g]
  simp[Jx,g2]
  refine⟨⟨_,0,rfl,zr,(PP.fail P1.hi a2 a3 a4 a5 a6).put Rh,by simpa using amU _⟩,by omega,fun b hb hbp=>?_⟩
  rw[bA hb,bU _ _ _ _ hbp,x1.g b (by omega),bA hb]
 |true=>
  have hm:=ht rfl
  cases bad with
  |true=>simp at hm
  |false=>
   simp at hm
   have hi:i<rs.length:=by omega
   obtain⟨k',at',n,tn,tc,e1,e2,Tc⟩:=UL a5 hi
   obtain⟨j,hj⟩:∃ j,j=i+1:=⟨_,rfl⟩
   have hw:aW .i64 ((i:Int)+1)=(j:Int):=by rw[show(i:Int)+1=(j:Int) by omega];exact br (by omega) (by omega)
   have TO:aW .i64 ((j:Int)-1)=(i:Int):=by rw[show(j:Int)-1=(i:Int) by omega];exact br (by omega) (by omega)
   have hP:=PP.step (h:=h1) (sc:=sc) P1.hi a2 a3 a4 a5 hi
   rw[← hj] at hP
   rcases a3 with⟨_,rfl⟩|rfl
   ·simp at hi
   have hm':rs.length-i<rs.length-i+1:=by omega
   simp
   generalize rs.length-i=m' at hP hm'
   have hLl:AV.kP rs.flatten=true:=a5.lits
   generalize rs.flatten=L at g e1 e2 hP hLl
   generalize rs.length=len at g hi hP
   have g2:aa nx (aK p (some (.cells [.str sn sc,.sl L len 4 .any,I j,.bool false] .fix)) h1)=some (.cells [I 0,I 0,I 0,.str 0 0] .fix):=by rw[bU _ _ _ _ Rh];exact hnx
   simp[Jy,g,hw]
   simp[Jz,TO,hi,e1,e2,g2]
   refine⟨⟨_,m',rfl,Tc,hP.put Rh,by simp;omega⟩,by omega,fun b hb hbp=>?_⟩
   rw[bA hb,bU _ _ _ _ hbp,x1.g b (by omega),bA hb]
def afO(h:T ab)(nx:Key)(o:Out)(h':T ab)(nx':Key):Prop:=(∃ n:Int,o=.ret (I n)∧dg W0 .int (I n))∧Ext h nx h' nx'
theorem amV{p:Key}{m:Nat}{h:T ab}{nx:Key}(P:PP p m h nx):aO C fq [.ptr p 0] h nx (afO h nx):=by
 obtain⟨sn,sc,c,rs,i,bad,g,a2,a3,a4,a5,a6,rfl⟩:=P.at_
 refine S.acp.call ?_
 simp[LO]
 simp[SA]
 have sf:dg W0 .int (I (sn:Int)):=.int _ (by omega) (by omega)
 by_cases hi:i<rs.length
 ·obtain⟨k,at',n,tn,tc,e1,e2,Tc⟩:=UL a5 hi
  rcases a3 with⟨_,rfl⟩|rfl
  ·simp at hi
  have ha:dg W0 .int (I at'):=by
   cases Tc with
   |cons _ _ _ _ _ hr=>
    cases hr with
    |cons _ _ _ _ h2 _=>exact h2
  generalize rs.flatten=L at g e1 e2
  generalize rs.length=len at g hi
  simp[Az,g,hi]
  simp[SB,g,hi,e1,e2]
  exact⟨⟨_,rfl,ha⟩,Ext.refl _ _⟩
 ·have IU:rs.length=i:=by omega
  rcases a3 with⟨rfl,rfl⟩|rfl
  ·simp at IU
   subst IU
   simp[Az,g]
   simp[Ip,g]
   exact⟨⟨_,rfl,sf⟩,Ext.refl _ _⟩
  ·generalize rs.flatten=L at g
   simp[Az,g,hi]
   simp[Ip,g]
   exact⟨⟨_,rfl,sf⟩,Ext.refl _ _⟩
end Tb
/-
 SP: the reference's parser: types, names. No condition.
-/
namespace Tb
open Go.Sx Go
theorem _root_.Go.Sx.cJ.i{n:Int}{ts:List CT}{cs:List AV}(h1:-9223372036854775808≤n)(h2:n<9223372036854775808)(h:cJ W0 ts cs):cJ W0 (.int ::ts) (I n ::cs):=.cons _ _ _ _ (.int _ h1 h2) h
theorem _root_.Go.Sx.cJ.s{n c:Nat}{ts:List CT}{cs:List AV}(h1:c<256^n)(h2:n≤10000)(h:cJ W0 ts cs):cJ W0 (.str ::ts) (.str n c ::cs):=.cons _ _ _ _ (.str _ _ h1 h2) h
theorem _root_.Go.Sx.cJ.n{k:Nat}{ts:List CT}{cs:List AV}(h:cJ W0 ts cs):cJ W0 (.sl k ::ts) (.nils ::cs):=.cons _ _ _ _ (.nil k) h
theorem _root_.Go.Sx.cJ.c{t:CT}{ts:List CT}{c:AV}{cs:List AV}(hc:dg W0 t c)(h:cJ W0 ts cs):cJ W0 (t ::ts) (c ::cs):=.cons _ _ _ _ hc h
theorem ok_one{k z:Nat}{l:List AV}(hz:(W0 k).length=z)(h:cJ W0 (W0 k) l):dg W0 (.sl k) (.sl l 1 z .any):=by
 subst hz
 have:=dg.sl (W:=W0) k [l] (by simp) (dy.one h)
 simpa using this
theorem ok_two{k z:Nat}{l m:List AV}(hz:(W0 k).length=z)(h:cJ W0 (W0 k) l)(h2:cJ W0 (W0 k) m):dg W0 (.sl k) (.sl (l++m) 2 z .any):=by
 subst hz
 have:=dg.sl (W:=W0) k [l,m] (by simp) (.cons _ _ _ h (dy.one h2))
 simpa using this
theorem ok_three{k z:Nat}{l m n:List AV}(hz:(W0 k).length=z)(h:cJ W0 (W0 k) l)(h2:cJ W0 (W0 k) m)(h3:cJ W0 (W0 k) n):dg W0 (.sl k) (.sl (l++(m++n)) 3 z .any):=by
 subst hz
 have:=dg.sl (W:=W0) k [l,m,n] (by simp) (.cons _ _ _ h (.cons _ _ _ h2 (dy.one h3)))
 simpa using this
theorem I4{l:List AV}(h:cJ W0 [.int,.int,.int,.str] l):∃ (k a n:Int) (tn tc:Nat),l=[I k,I a,I n,.str tn tc]∧dg W0 .int (I n)∧dg W0 .str (.str tn tc):=by
 cases h with
 |cons _ _ c1 _ h1 h=>
  cases h with
  |cons _ _ c2 _ h2 h=>
   cases h with
   |cons _ _ c3 _ h3 h=>
    cases h with
    |cons _ _ c4 _ h4 h=>
     cases h
     cases h1
     cases h2
     cases id h3
     cases id h4
     exact⟨_,_,_,_,_,rfl,h3,h4⟩
theorem bH{p q:Key}{h h':T ab}{nx nx':Key}{B:Option ab}(k:Ks p h nx h' nx')(hq:q.toNat<nx.toNat)(hp:q≠p)(hg:aa q h=B):aa q h'=B:=by rw[k.g q hq hp];exact hg
theorem Ks.put{p q:Key}{h h1:T ab}{nx aY:Key}{B:Option ab}(k:Ks p h nx h1 aY)(hq:nx.toNat≤q.toNat):Ks p h nx (aK q B h1) aY:=
 ⟨k.n,fun b hb hp=>by rw[bA (by omega)];exact k.g b hb hp⟩
theorem Ks.up{p:Key}{h h1:T ab}{nx aY aH:Key}(k:Ks p h nx h1 aY)(hn:aY.toNat≤aH.toNat):Ks p h nx h1 aH:=⟨by have:=k.n;omega,k.g⟩
theorem Ks.new{p:Key}{h h1:T ab}{nx aY:Key}{B:ab}(k:Ks p h nx h1 aY):Ks p h nx (aK aY (some B) h1) aY.succ:=
 ⟨by have:=k.n;rw[kTSu];omega,fun b hb hp=>by rw[bA (by have:=k.n;omega)];exact k.g b hb hp⟩
variable{C:cU}(S:dd C)
include S
abbrev tyZ:List AV:=[I 0,.str 0 0,.nils]
theorem adA:∀ (m:Nat) {p:Key} {h:T ab} {nx:Key},PP p m h nx→aO C hZ [.ptr p 0] h nx (mf YG p m h nx):=by
 intro m
 induction m using Nat.strongRecOn with
 |ind m ih=>
 intro p h nx P
 have q1:=S.bD
 have q2:=S.pI
 have q3:=S.bg
 have q4:=S.bJ
 have s1:=kTSu nx
 have Rh:nx≠p:=aG (by have:=P.hi;omega)
 refine S.aaK.call ?_
 simp[Hv]
 simp[PW]
 have P0:=P.ext (E0 h nx (.cells tyZ .fix))
 simp[PY,q1]
 refine(eK S P0 _ _).mono ?_
 rintro o h1 aY ⟨⟨t,m1,rfl,P1,hm⟩,k1⟩
 have K1:=((E0 h nx (.cells tyZ .fix)).ks p).trans k1
 have g1:aa nx h1=some (.cells tyZ .fix):=bH k1 (by omega) Rh (by rw[gTSm])
 have n1:=k1.n
 cases t with
 |true=>
  simp at hm
  simp
  simp[PZ,g1]
  exact⟨⟨_,m1,rfl,.i (by omega) (by omega) (.s (by decide) (by omega) (.n .nil)),P1.put Rh,by simp;omega⟩,K1.put (bS _)⟩
 |false=>
  simp at hm
  subst hm
  simp
  simp[Qa,q1]
  refine(eK S P1 _ _).mono ?_
  rintro o h2 aH ⟨⟨t,m2,rfl,P2,Cr⟩,k2⟩
  have K2:=K1.trans k2
  have g2:aa nx h2=some (.cells tyZ .fix):=bH k2 (by omega) Rh g1
  have n2:=k2.n
  cases t with
  |true=>
   simp at Cr
   simp
   simp[Qb,g2]
   exact⟨⟨_,m2,rfl,.i (by omega) (by omega) (.s (by decide) (by omega) (.n .nil)),P2.put Rh,by simp;omega⟩,K2.put (bS _)⟩
  |false=>
   simp at Cr
   subst Cr
   simp
   simp[Qc,q1]
   refine(eK S P2 _ _).mono ?_
   rintro o h3 dw ⟨⟨t,m3,rfl,P3,Lj⟩,k3⟩
   have K3:=K2.trans k3
   have g3:aa nx h3=some (.cells tyZ .fix):=bH k3 (by omega) Rh g2
   have n3:=k3.n
   cases t with
   |true=>
    simp at Lj
    simp
    simp[Qd,q2]
    refine(ih m3 Lj.1 P3).mono ?_
    rintro o h4 jq ⟨⟨l,m4,rfl,ol,P4,Oj⟩,k4⟩
    have n4:=k4.n
    have s4:=kTSu jq
    have hl:l.length=3:=ol.len
    have h4p:jq≠p:=aG (by have:=P4.hi;omega)
    have h4n:jq≠nx:=aG (by omega)
    have OT:l.all AV.aD=true:=mi.2 ol.aU
    have htk:List.take 3 l=l:=XO (by omega)
    have g4:aa nx h4=some (.cells tyZ .fix):=bH k4 (by omega) Rh g3
    simp[hl,OT]
    simp[Qe,q3]
    refine(bC S (P4.ext (E0 h4 jq (.cells l .fix))) _ _).mono ?_
    rintro o h5 iW ⟨⟨m5,rfl,P5,Oy⟩,k5⟩
    have n5:=k5.n
    have s5:=kTSu iW
    have h5p:iW≠p:=aG (by have:=P5.hi;omega)
    have h5n:nx≠iW:=aG (by omega)
    have g5:aa jq h5=some (.cells l .fix):=bH k5 (by omega) h4p (by rw[gTSm])
    have g6:aa nx h5=some (.cells tyZ .fix):=bH k5 (by omega) Rh (by rw[bU _ _ _ _ (Ne.symm h4n)];exact g4)
    have g7:aa nx (aK iW (some (.cells l .fix)) h5)=some (.cells tyZ .fix):=by rw[bU _ _ _ _ h5n];exact g6
    simp
    simp[Qf,g5,hl,htk,g7]
    rw[si (n:=9997) (l:=l) (by rw[bU _ _ _ _ (Ne.symm h5n),gTSm]) (by omega) ol.bY]
    exact⟨⟨_,m5,rfl,.i (by omega) (by omega) (.s (by decide) (by omega) (.c (ok_one rfl ol) .nil)),(((P5.up (by omega)).put h5p).put Rh).put h5p,by simp;omega⟩,
     (((((K3.trans k4).new).trans k5).new).put (bS _)).put (by omega)⟩
   |false=>
    simp at Lj
    subst Lj
    simp
    simp[Qg,q4]
    refine(iR S P3 1).mono ?_
    rintro o h4 jq ⟨⟨l,m4,rfl,ol,P4,Oj⟩,k4⟩
    obtain⟨k',a',n',tn,tc,rfl,_,ho⟩:=I4 ol
    have g4:aa nx h4=some (.cells tyZ .fix):=bH k4 (by omega) Rh g3
    simp[g4]
    exact⟨⟨_,m4,rfl,.i (by omega) (by omega) (.c ho (.n .nil)),P4.put Rh,by simp;omega⟩,(K3.trans k4).put (bS _)⟩
end Tb
/-
 SP: the reference's parser: lists of names. No condition.
-/
namespace Tb
open Go.Sx Go
def jF(k:Nat)(p:Key)(m:Nat)(h:T ab)(nx:Key)(o:Out)(h':T ab)(nx':Key):Prop:=(∃ (c:AV) (m':Nat),o=.ret c∧dg W0 (.sl k) c∧PP p m' h' nx'∧AV.wt c+8*m'≤8*m)∧Ks p h nx h' nx'
theorem _root_.Go.Sx.Gw.ks{W:H6}{k:Nat}{c:AV}{len m:Nat}{p:Key}{h h':T ab}{nx nx' n0:Key}(g:Gw W k c len h nx n0)(P:PP p m h nx)(x:Ks p h nx h' nx'):Gw W k c len h' nx' n0:=by
 obtain⟨rs,a,b,d⟩:=g.is
 obtain⟨sn,sc,c',rs',i,bad,a1,a2⟩:=P.at_
 refine⟨⟨rs,a,b,d.Bx x.n fun q hq hx=>x.g q hq ?_⟩⟩
 rintro rfl
 rw[a1] at hx
 rcases hx with hx|⟨l,hx⟩<;>cases hx
theorem PP.bad{p:Key}{m:Nat}{h:T ab}{nx:Key}(P:PP p m h nx):∃ (s c i:AV),aa p h=some (.cells [s,c,i,.bool (decide (m=0))] .fix):=by
 obtain⟨sn,sc,c,rs,i,bad,a1,a2,a3,a4,a5,a6,rfl⟩:=P.at_
 refine⟨.str sn sc,c,I i,a1.trans ?_⟩
 cases bad<;>simp
theorem PP.lo{p n0:Key}{m:Nat}{h h':T ab}{nx nx':Key}(P:PP p m h nx)(l:Lo n0 h h')(hp:p.toNat<n0.toNat)(hn:nx.toNat≤nx'.toNat):PP p m h' nx':=by
 obtain⟨sn,sc,c,rs,i,bad,a1,a2⟩:=P.at_
 exact⟨by have:=P.hi;omega,sn,sc,c,rs,i,bad,by rw[l p hp];exact a1,a2⟩
theorem Ks.lo{p n0:Key}{h h1 h2:T ab}{nx aY aH:Key}(k:Ks p h nx h1 aY)(l:Lo n0 h1 h2)(h0:nx.toNat≤n0.toNat)(hn:aY.toNat≤aH.toNat):Ks p h nx h2 aH:=
 ⟨by have:=k.n;omega,fun b hb hp=>by rw[l b (by omega)];exact k.g b hb hp⟩
variable{C:cU}(S:dd C)
include S
def aoR(p:Key)(m:Nat)(h:T ab)(nx:Key)(k:Nat)(tm':T AV)(h':T ab)(nx':Key):Prop:=
 ∃ (c:AV) (len:Nat) (t:Bool),aa (K 0) tm'=some (.ptr p 0)∧aa (K 3) tm'=some c∧aa (K 4) tm'=some (.bool t)∧Gw W0 0 c len h' nx' nx∧PP p k h' nx'∧len+8*k≤8*m∧Ks p h nx h' nx'
theorem amY{p:Key}{m:Nat}{h:T ab}{nx:Key}(P:PP p m h nx)(hm:m≤9000):aO C uW [.ptr p 0] h nx (jF 0 p m h nx):=by
 have q1:=S.bD
 have q3:=S.bg
 have q4:=S.bJ
 refine S.Xm.call ?_
 simp[AI]
 simp[KC]
 simp[KD,q1]
 refine(eK S P _ _).mono ?_
 rintro o h1 aY ⟨⟨t,m1,rfl,P1,hm1⟩,k1⟩
 cases t with
 |false=>
  simp at hm1
  simp
  simp[KE]
  exact⟨⟨_,m1,rfl,.nil 0,P1,by simp;omega⟩,k1⟩
 |true=>
  simp at hm1
  simp
  simp[KF]
  simp[KG]
  refine W.bV (n:=m1) (aoR p m1 h1 aY) ?_ ?_
  ·exact⟨.nils,0,true,by simp,by simp,by simp,Gw.nil 0 _ _ _,P1,by omega,Ks.refl _ _ _⟩
  rintro k xD h2 aH ⟨c,len,t,f0,f3,f4,gw,P2,hlen,k2⟩
  refine W.of ?_
  obtain⟨x1,x2,x3,gb⟩:=P2.bad
  have fin:∀ Vp:T AV,aa (K 0) Vp=some (.ptr p 0)→aa (K 3) Vp=some c→bt C ((U.ops zY).seq ((U.ops zZ).seq U.ret)) (aN [RV.tmp (K 2)] (jF 0 p m h nx)) Vp h2 aH:=by
   intro Vp e0 e3
   simp
   simp[zY,e0,q3]
   refine(bC S P2 _ _).mono ?_
   rintro o h4 jq ⟨⟨m4,rfl,P4,Oj⟩,k4⟩
   obtain⟨z1,zw,z2⟩:=(gw.ks P2 k4).OS (by omega)
   simp
   simp[zZ,e3]
   have n1:=k1.n
   have n2:=k2.n
   exact⟨⟨_,m4,rfl,z1,P4.lo z2 P1.hi (bS _),by omega⟩,(k1.trans (k2.trans k4)).lo z2 n1 (bS _)⟩
  simp[KJ]
  cases t with
  |false=>
   simp[tp,f4]
   simpa using fin _ (by simp[f0]) (by simp[f3])
  |true=>
   by_cases Rz:k=0
   ·subst Rz
    simp at gb
    simp[tp,f0,f4,gb]
    simpa using fin _ (by simp[f0]) (by simp[f3])
   ·simp[tp,f0,f4,gb,Rz]
    simp[KH,f0,f3,q4]
    refine(iR S P2 0).mono ?_
    rintro o h3 dw ⟨⟨l,m3,rfl,ol,P3,Lj⟩,k3⟩
    obtain⟨k',a',n',tn,tc,rfl,_,ho⟩:=I4 ol
    have n2:=k2.n
    have n3:=k3.n
    have s3:=kTSu dw
    obtain⟨c4,h4,jq,a1,g4,n4,l4,_⟩:=((gw.ks P2 k3).ext (E0 h3 dw (.cells [.str tn tc] .fix))).add (by omega) (r:=[.str tn tc]) (.c ho .nil) (by omega)
    have a1:appendTo 1 c [.str tn tc] 1 _ _=_:=a1
    have h3p:dw≠p:=aG (by have:=P3.hi;omega)
    have P4:=((P3.up (Nat.le_of_lt (by omega:dw.toNat<dw.succ.toNat))).put (B:=some (.cells [.str tn tc] .fix)) h3p).lo l4 P1.hi n4
    have K4:=((k2.trans k3).new (B:=.cells [.str tn tc] .fix)).lo l4 (bS _) n4
    simp[-appendTo,a1]
    simp[KI,f0,q1]
    refine(eK S P4 _ _).mono ?_
    rintro o h5 iW ⟨⟨t,m5,rfl,P5,Oy⟩,k5⟩
    simp
    have aBn:m5≤m3:=by cases t<;>simp at Oy<;>omega
    refine⟨m5,by omega,?_⟩
    unfold aoR
    refine⟨c4,_,t,?_,?_,?_,g4.ks P4 k5,P5,by simp;omega,K4.trans k5⟩
    ·simp[f0]
    ·simp
    ·simp
end Tb
/-
 SP: the reference's parser: operators. No condition.
-/
namespace Tb
open Go.Sx Go
def auZ(n:Nat)(c:AV):Prop:=∃ L:List (Nat×Nat),(c=.nils∧L=[]∨c=.sl (L.map fun x=>AV.str x.1 x.2) L.length 1 .any)∧L.length≤n∧∀ x∈L,x.2<256^x.1∧x.1≤10000
theorem ajB{L:List (Nat×Nat)}{b:Key}{n:Nat}{H:T ab}(hn:L.length=n)(hg:aa b H=some (.cells (L.map fun x=>AV.str x.1 x.2) .fix)):ax 9999 (.slice b 0 n 1) H=(.sl (L.map fun x=>AV.str x.1 x.2) n 1 .any,aK b (some (.cells (L.map fun x=>AV.str x.1 x.2) .ro)) H):=by
 subst hn
 exact si (n:=9998) hg (by simp) (by intro y hy;obtain⟨x,_,rfl⟩:=Vn.1 hy;exact Uo _ _)
variable{C:cU}(S:dd C)
include S
theorem Wu(r:Int):XR C lj [I r] (fun o=>∃ c,o=.ret c∧auZ 4 c):=by
 intro h nx
 have s1:=kTSu nx
 refine S.Up.call ?_
 simp[uB]
 simp[El]
 simp[Em]
 have fin:∀ (n:Nat) (L:List (Nat×Nat)),L.length=n→n≤4→(∀ x∈L,x.2<256^x.1∧x.1≤10000)→auZ 4 (ax 9999 (.slice nx 0 n 1) (aK nx (some (.cells (L.map fun x=>AV.str x.1 x.2) .fix)) h)).1∧Ext h nx (ax 9999 (.slice nx 0 n 1) (aK nx (some (.cells (L.map fun x=>AV.str x.1 x.2) .fix)) h)).2 nx.succ:=by
  intro n L h1 h2 h3
  rw[ajB h1 (by rw[gTSm])]
  exact⟨⟨L,.inr (by rw[h1]),by omega,h3⟩,by omega,fun b hb=>by rw[bA hb,bA hb]⟩
 by_cases h1:r=1
 ·subst h1
  simp[eJ]
  simp[Eo]
  exact fin 1 [(2,29295)] rfl (by omega) (by simp)
 by_cases h2:r=2
 ·subst h2
  simp[eJ]
  simp[gU]
  simp[Ep]
  exact fin 1 [(3,6581857)] rfl (by omega) (by simp)
 by_cases h4:r=4
 ·subst h4
  simp[eJ]
  simp[gU]
  simp[jD]
  simp[Er]
  exact fin 4 [(2,15677),(2,15649),(1,60),(2,15676)] rfl (by omega) (by simp)
 by_cases h5:r=5
 ·subst h5
  simp[eJ]
  simp[gU]
  simp[jD]
  simp[nH]
  simp[Es]
  exact fin 2 [(1,43),(1,45)] rfl (by omega) (by simp)
 by_cases h6:r=6
 ·subst h6
  simp[eJ]
  simp[gU]
  simp[jD]
  simp[nH]
  simp[tI]
  simp[Ct]
  exact fin 1 [(1,42)] rfl (by omega) (by simp)
 have b1:(r==1)=false:=by simpa using h1
 have b2:(r==2)=false:=by simpa using h2
 have b4:(r==4)=false:=by simpa using h4
 have b5:(r==5)=false:=by simpa using h5
 have b6:(r==6)=false:=by simpa using h6
 simp[eJ,b1]
 simp[gU,b2]
 simp[jD,b4]
 simp[nH,b5]
 simp[tI,b6]
 simp[Cu]
 exact⟨⟨[],.inl ⟨rfl,rfl⟩,by simp,by simp⟩,Ext.refl _ _⟩
def ajC(p:Key)(c:AV)(n:Nat)(h:T ab)(nx:Key)(k:Nat)(tm':T AV)(h':T ab)(nx':Key):Prop:=
 ∃ j:Nat,k=n-j∧j≤n∧aa (K 0) tm'=some (.ptr p 0)∧aa (K 5) tm'=some c∧aa (K 6) tm'=some (I j)∧Ext h nx h' nx'
def au0(m:Nat)(h:T ab)(nx:Key)(o:Out)(h':T ab)(nx':Key):Prop:=(∃ a b:Nat,o=.ret (.str a b)∧dg W0 .str (.str a b)∧(a=0∧b=0∨2≤m))∧Ext h nx h' nx'
theorem YF{p:Key}{m:Nat}{h:T ab}{nx:Key}(P:PP p m h nx)(r:Int):aO C jE [.ptr p 0,I r] h nx (au0 m h nx):=by
 have q1:=S.GL
 have q2:=S.Dr
 refine S.Tw.call ?_
 simp[sw]
 simp[Cv]
 simp[Cw,q1]
 refine(Wu S r h nx).mono ?_
 rintro o h1 aY ⟨⟨c,rfl,L,hc,hL,hs⟩,x1⟩
 simp
 simp[Cx]
 refine W.bV (n:=L.length) (ajC p c L.length h nx) ?_ ?_
 ·exact⟨0,rfl,by omega,by simp,by simp,by simp,x1⟩
 rintro k xD h2 aH ⟨j,rfl,hj,f0,f5,f6,x2⟩
 have P2:=P.ext x2
 refine W.of ?_
 simp[Cy]
 by_cases aM:j<L.length
 ·have Xc:c=.sl (L.map fun x=>AV.str x.1 x.2) L.length 1 .any:=by
   rcases hc with⟨_,rfl⟩|hc
   ·simp at aM
   ·exact hc
  subst Xc
  obtain⟨a,b,hab⟩:∃ a b,L[j]=(a,b):=⟨_,_,rfl⟩
  have hx:=hs L[j] (XV aM)
  rw[hab] at hx
  have h1:1≤(L.map fun x=>AV.str x.1 x.2).length-j:=by rw[List.length_map];omega
  have ec:List.take 1 (List.drop j (L.map fun x=>AV.str x.1 x.2))=[.str a b]:=by
   rw[zqt (by rw[List.length_map];exact aM),List.getElem_map,hab];rfl
  have iZ:∀ n H,ax n (.sl (L.map fun x=>AV.str x.1 x.2) L.length 1 .any) H=(.sl (L.map fun x=>AV.str x.1 x.2) L.length 1 .any,H):=fun n H=>VH _ _ _ n H
  generalize (L.map fun x=>AV.str x.1 x.2)=M at f5 h1 ec
  simp[mq,f5,f6,aM]
  simp[Cz,f0,f5,f6,aM,h1,ec,q2]
  refine(ajD S P2 a b).mono ?_
  rintro o h3 dw ⟨⟨t,rfl,ht⟩,x3⟩
  cases t with
  |true=>
   simp
   simp[CA,f5,f6,aM,h1,ec]
   exact⟨⟨a,b,rfl,.str _ _ hx.1 hx.2,.inr (ht rfl)⟩,x2.trans x3⟩
  |false=>
   simp
   simp[CC,f6]
   refine⟨L.length-(j+1),by omega,?_⟩
   unfold ajC
   refine⟨j+1,rfl,by omega,?_,?_,?_,x2.trans x3⟩
   ·simp[f0]
   ·simp[f5]
   ·simp;rw[br (by omega) (by omega)]
 ·have hge:j=L.length:=by omega
  have fin:∀ Vp:T AV,bt C ((U.ops tJ).seq U.ret) (aN [RV.tmp (K 4)] (au0 m h nx)) Vp h2 aH:=by
   intro Vp
   simp
   simp[tJ]
   exact⟨⟨0,0,rfl,.str _ _ (by decide) (by omega),.inl ⟨rfl,rfl⟩⟩,x2⟩
  rcases hc with⟨rfl,rfl⟩|rfl
  ·simp at hge
   subst hge
   simp[mq,f5,f6]
   simpa using fin _
  ·simp[mq,f5,f6,aM]
   simpa using fin _
end Tb
/-
 SP: the reference's parser: what a function of it owns; operands. No condition.
-/
namespace Tb
open Go.Sx Go
structure Ow(p rb:Key)(B:List AV)(m:Nat)(h0:T ab)(nx0:Key)(h:T ab)(nx:Key):Prop where
 P:PP p m h nx
 g:aa rb h=some (.cells B .fix)
 k:Ks p h0 nx0 h nx
 lo:nx0.toNat≤rb.toNat
 hi:rb.toNat<nx.toNat
 ne:rb≠p
theorem Ow.new{p:Key}{m:Nat}{h:T ab}{nx:Key}(P:PP p m h nx)(B:List AV):Ow p nx B m h nx (aK nx (some (.cells B .fix)) h) nx.succ:=
 ⟨P.ext (E0 h nx _),by rw[gTSm],(E0 h nx _).ks p,bS _,by rw[kTSu];omega,aG (by have:=P.hi;omega)⟩
variable{p rb:Key}{B:List AV}{m m':Nat}{h0 h h':T ab}{nx0 nx nx':Key}
theorem Ow.call(O:Ow p rb B m h0 nx0 h nx)(P:PP p m' h' nx')(k:Ks p h nx h' nx'):Ow p rb B m' h0 nx0 h' nx':=
 ⟨P,bH k O.hi O.ne O.g,O.k.trans k,O.lo,by have:=O.hi;have:=k.n;omega,O.ne⟩
theorem Ow.ext(O:Ow p rb B m h0 nx0 h nx)(e:Ext h nx h' nx'):Ow p rb B m h0 nx0 h' nx':=O.call (O.P.ext e) (e.ks p)
theorem Ow.yx(O:Ow p rb B m h0 nx0 h nx)(B':List AV):Ow p rb B' m h0 nx0 (aK rb (some (.cells B' .fix)) h) nx:=
 ⟨O.P.put O.ne,by rw[gTSm],O.k.put O.lo,O.lo,O.hi,O.ne⟩
theorem Ow.low{H:T ab}(O:Ow p rb B m h0 nx0 h nx)(l:Lo nx0 h H)(hp:p.toNat<nx0.toNat):PP p m H nx∧Ks p h0 nx0 H nx:=
 ⟨O.P.lo l hp (bS _),O.k.lo l (bS _) (bS _)⟩
theorem Ow.ret{ts:List CT}{l:List AV}{M:Nat}(O:Ow p rb B m h0 nx0 h nx)(ho:cJ W0 ts l)(hm:Rl M m (AV.iN l)):mf ts p M h0 nx0 (.ret (.agg l)) h nx:=
 ⟨⟨l,m,rfl,ho,O.P,hm⟩,O.k⟩
abbrev Z7:List AV:=[I 0,.str 0 0,I 0,.nils,.nils,.nils,I 0]
theorem ok_int{n:Int}(h1:-9223372036854775808≤n)(h2:n<9223372036854775808):dg W0 .int (I n):=.int _ h1 h2
theorem DW(n:Int):dg W0 .int (.int .i64 (.lit (aW .i64 n))):=by
 have h:-9223372036854775808≤aW .i64 n∧aW .i64 n<9223372036854775808:=by
  rw[nu]
  simp only[IntKind.wrap,IntKind.bits,IntKind.signed]
  simp
  omega
 exact .int _ h.1 h.2
theorem Bw{k:Int}{nm n at_ names binds kids:AV}(h1:-9223372036854775808≤k)(h2:k<9223372036854775808)(a:dg W0 .str nm)(b:dg W0 .int n)(c:dg W0 (.sl 0) names)(d:dg W0 (.sl 2) binds)(e:dg W0 (.sl 4) kids)(f:dg W0 .int at_):cJ W0 sj [I k,nm,n,names,binds,kids,at_]:=
 .i h1 h2 (.c a (.c b (.c c (.c d (.c e (.c f .nil))))))
theorem ID:dg W0 .str (.str 0 0):=.str _ _ (by decide) (by omega)
theorem mM:dg W0 .int (I 0):=ok_int (by omega) (by omega)
variable{C:cU}
def Lm(C:cU)(m:Nat):Prop:=∀ {p:Key} {h:T ab} {nx:Key},PP p m h nx→aO C aS [.ptr p 0] h nx (mf sj p m h nx)
def UQ(C:cU)(m:Nat):Prop:=∀ {p:Key} {h:T ab} {nx:Key} (a b:Nat),PP p m h nx→aO C fF [.ptr p 0,.str a b] h nx (jF 4 p m h nx)
variable(S:dd C)
include S
theorem qC{M:Nat}(O:Ow p rb B M h0 nx0 h nx)(a b:Nat):aO C ao [.ptr p 0,.str a b] h nx (fun o h' nx'=>∃ (t:Bool) (m':Nat),o=.ret (.bool t)∧Ow p rb B m' h0 nx0 h' nx'∧(if t=true then m'<M∧0<m' else m'=M)):=by
 refine(eK S O.P a b).mono ?_
 rintro o h1 aY ⟨⟨t,m1,rfl,P1,hm⟩,k1⟩
 exact⟨t,m1,rfl,O.call P1 k1,hm⟩
theorem agC{M:Nat}(O:Ow p rb B M h0 nx0 h nx)(a b:Nat):aO C ah [.ptr p 0,.str a b] h nx (fun o h' nx'=>∃ (m':Nat),o=.ret (.tuple [])∧Ow p rb B m' h0 nx0 h' nx'∧(m'<M∨m'=0)):=by
 refine(bC S O.P a b).mono ?_
 rintro o h1 aY ⟨⟨m1,rfl,P1,hm⟩,k1⟩
 exact⟨m1,rfl,O.call P1 k1,hm⟩
theorem ahD{M:Nat}(O:Ow p rb B M h0 nx0 h nx)(k:Int):aO C jM [.ptr p 0,I k] h nx (fun o h' nx'=>∃ (t:Bool),o=.ret (.bool t)∧Ow p rb B M h0 nx0 h' nx'∧(t=true→2≤M)):=by
 refine(aks S O.P k).mono ?_
 rintro o h1 aY ⟨⟨t,rfl,ht⟩,x1⟩
 exact⟨t,rfl,O.ext x1,ht⟩
theorem IE{M:Nat}(O:Ow p rb B M h0 nx0 h nx)(k:Int):aO C aL [.ptr p 0,I k] h nx (fun o h' nx'=>∃ (m':Nat) (k a n:Int) (tn tc:Nat),o=.ret (.agg [I k,I a,I n,.str tn tc])∧Ow p rb B m' h0 nx0 h' nx'∧dg W0 .int (I n)∧dg W0 .str (.str tn tc)∧(m'<M∨m'=0)):=by
 refine(iR S O.P k).mono ?_
 rintro o h1 aY ⟨⟨l,m1,rfl,ol,P1,hm⟩,k1⟩
 obtain⟨k',a',n',tn,tc,rfl,hn,ho⟩:=I4 ol
 exact⟨m1,k',a',n',tn,tc,rfl,O.call P1 k1,hn,ho,by omega⟩
theorem Yo{M:Nat}(O:Ow p rb B M h0 nx0 h nx):aO C fq [.ptr p 0] h nx (fun o h' nx'=>∃ n:Int,o=.ret (I n)∧dg W0 .int (I n)∧Ow p rb B M h0 nx0 h' nx'):=by
 refine(amV S O.P).mono ?_
 rintro o h1 aY ⟨⟨n,rfl,hn⟩,x1⟩
 exact⟨n,rfl,hn,O.ext x1⟩
omit S in
theorem Ue{M:Nat}(hE:Lm C M)(O:Ow p rb B M h0 nx0 h nx):aO C aS [.ptr p 0] h nx (fun o h' nx'=>∃ (m':Nat) (l:List AV),o=.ret (.agg l)∧cJ W0 sj l∧l.length=7∧Ow p rb B m' h0 nx0 h' nx'∧Rl M m' (AV.iN l)):=by
 refine(hE O.P).mono ?_
 rintro o h1 aY ⟨⟨l,m1,rfl,ol,P1,hm⟩,k1⟩
 exact⟨m1,l,rfl,ol,ol.len,O.call P1 k1,hm⟩
omit S in
theorem alp{M:Nat}(hE:UQ C M)(O:Ow p rb B M h0 nx0 h nx)(a b:Nat):aO C fF [.ptr p 0,.str a b] h nx (fun o h' nx'=>∃ (m':Nat) (c:AV),o=.ret c∧dg W0 (.sl 4) c∧Ow p rb B m' h0 nx0 h' nx'∧AV.wt c+8*m'≤8*M):=by
 refine(hE a b O.P).mono ?_
 rintro o h1 aY ⟨⟨c,m1,rfl,oc,P1,hm⟩,k1⟩
 exact⟨m1,c,rfl,oc,O.call P1 k1,hm⟩
end Tb
/-
 SP: the reference's parser: operands. No condition.
-/
namespace Tb
open Go.Sx Go
variable{C:cU}(S:dd C)
include S
theorem aiP{m:Nat}(hE:∀ m',m'<m→Lm C m')(hX:∀ m',m'<m→UQ C m'){p:Key}{h:T ab}{nx:Key}(P:PP p m h nx):aO C lq [.ptr p 0] h nx (mf sj p m h nx):=by
 have q1:=S.bD
 have q2:=S.cH
 have q3:=S.bg
 have q4:=S.bJ
 have q5:=S.ji
 have q6:=S.Mn
 have q7:=S.QN
 refine S.U7.call ?_
 simp[vd]
 simp[FL]
 have O0:=Ow.new P Z7
 simp[FM,q5]
 refine(Yo S O0).mono ?_
 rintro o h1 aY ⟨at',rfl,yw,O1⟩
 simp
 simp[FN,q1]
 refine(qC S O1 _ _).mono ?_
 rintro o h2 aH ⟨t,m2,rfl,O2,Cr⟩
 cases t with
 |true=>
  simp at Cr
  simp
  simp[FO,q4]
  refine(IE S O2 2).mono ?_
  rintro o h3 dw ⟨m3,k',a',n',tn,tc,rfl,O3,hn,hs,Lj⟩
  simp[O3.g]
  exact(O3.yx _).ret (Bw (by omega) (by omega) ID (DW _) (.nil _) (.nil _) (.nil _) yw) (by simp;omega)
 |false=>
 simp at Cr
 subst m2
 simp
 simp[FP,q1]
 refine(qC S O2 _ _).mono ?_
 rintro o h3 dw ⟨t,m3,rfl,O3,Lj⟩
 cases t with
 |true=>
  simp at Lj
  simp
  simp[FQ,O3.g]
  exact(O3.yx _).ret (Bw (by omega) (by omega) ID (ok_int (by omega) (by omega)) (.nil _) (.nil _) (.nil _) yw) (by simp;omega)
 |false=>
 simp at Lj
 subst m3
 simp
 simp[FR,q1]
 refine(qC S O3 _ _).mono ?_
 rintro o h4 jq ⟨t,m4,rfl,O4,Oj⟩
 cases t with
 |true=>
  simp at Oj
  simp
  simp[FU,O4.g]
  exact(O4.yx _).ret (Bw (by omega) (by omega) ID mM (.nil _) (.nil _) (.nil _) yw) (by simp;omega)
 |false=>
 simp at Oj
 subst m4
 simp
 simp[FV,q1]
 refine(qC S O4 _ _).mono ?_
 rintro o h5 iW ⟨t,m5,rfl,O5,Oy⟩
 cases t with
 |true=>
  simp at Oy
  simp
  simp[FW,q2]
  refine(Ue (hE m5 Oy.1) O5).mono ?_
  rintro o h6 IC ⟨m6,l,rfl,ol,hl,O6,Wn⟩
  have OT:l.all AV.aD=true:=mi.2 ol.aU
  have htk:List.take 7 l=l:=XO (by omega)
  simp[hl,OT]
  have s6:=kTSu IC
  have n6:=O6.hi
  have O7:=O6.ext (E0 h6 IC (.cells l .fix))
  simp[CX,q3]
  refine(bC S O7.P _ _).mono ?_
  rintro o h7 tZ ⟨⟨m7,rfl,P7,Z8⟩,k7⟩
  have g7:aa IC h7=some (.cells l .fix):=bH k7 (by omega) (aG (by have:=O6.P.hi;omega)) (by rw[gTSm])
  have O8:=O7.call P7 k7
  simp
  have hz:∀ n H,az (ax n) l H=(l,H):=fun n H=>av ol.bY
  simp[CY,g7,hl,htk,O8.g,OT,hz]
  exact(O8.yx _).ret ol (by omega)
 |false=>
 simp at Oy
 subst m5
 simp
 simp[CZ,q1]
 refine(qC S O5 _ _).mono ?_
 rintro o h6 IC ⟨t,m6,rfl,O6,Wn⟩
 cases t with
 |true=>
  simp at Wn
  simp
  simp[C1,q6]
  refine(alp (hX m6 Wn.1) O6 _ _).mono ?_
  rintro o h7 tZ ⟨m7,c,rfl,oc,O7,Z8⟩
  have hz:∀ n H,ax n c H=(c,H):=oc.jh
  simp[O7.g,oc.cells,oc.cell,hz]
  exact(O7.yx _).ret (Bw (by omega) (by omega) ID mM (.nil _) (.nil _) oc yw) (by simp;omega)
 |false=>
 simp at Wn
 subst m6
 simp
 simp[C2,q7]
 refine(ahD S O6 2).mono ?_
 rintro o h7 tZ ⟨t,rfl,O7,Z8⟩
 cases t with
 |true=>
  simp
  simp[C3,q4]
  refine(IE S O7 2).mono ?_
  rintro o h8 Bs ⟨m8,k',a',n',tn,tc,rfl,O8,hn,hs,hm8⟩
  simp[O8.g]
  exact(O8.yx _).ret (Bw (by omega) (by omega) ID hn (.nil _) (.nil _) (.nil _) yw) (by simp;omega)
 |false=>
 simp
 simp[C4,q7]
 refine(ahD S O7 1).mono ?_
 rintro o h8 Bs ⟨t,rfl,O8,hm8⟩
 cases t with
 |true=>
  simp
  simp[C5,q4]
  refine(IE S O8 1).mono ?_
  rintro o h9 Iy ⟨m9,k',a',n',tn,tc,rfl,O9,hn,hs,hm9⟩
  simp
  have s9:=kTSu Iy
  have n9:=O9.hi
  have h9p:Iy≠p:=aG (by have:=O9.P.hi;omega)
  have h9r:nx≠Iy:=aG (by have:=O9.hi;omega)
  have OA:=O9.ext (E0 h9 Iy (.cells [I 4,.str tn tc,I 0,.nils,.nils,.nils,I at'] .fix))
  simp[C6,q1]
  refine(eK S OA.P _ _).mono ?_
  rintro o hB nxB ⟨⟨t,mB,rfl,PB,hmB⟩,kB⟩
  have gB:aa Iy hB=some (.cells [I 4,.str tn tc,I 0,.nils,.nils,.nils,I at'] .fix):=bH kB (by omega) h9p (by rw[gTSm])
  have OB:=OA.call PB kB
  have nB:=kB.n
  cases t with
  |false=>
   simp at hmB
   simp
   simp[tQ,gB,OB.g]
   exact(OB.yx _).ret (Bw (by omega) (by omega) hs mM (.nil _) (.nil _) (.nil _) yw) (by simp;omega)
  |true=>
   simp at hmB
   simp
   simp[C7,q6]
   refine(hX mB (by omega) _ _ OB.P).mono ?_
   rintro o hD nxD ⟨⟨c,mD,rfl,oc,PD,hmD⟩,kD⟩
   have gD:aa Iy hD=some (.cells [I 4,.str tn tc,I 0,.nils,.nils,.nils,I at'] .fix):=bH kD (by omega) h9p gB
   have OD:=OB.call PD kD
   have hz:∀ n H,ax n c H=(c,H):=oc.jh
   have OE:Ow p nx _ mD h nx (aK Iy (some (.cells [I 4,.str tn tc,I 0,.nils,.nils,c,I at'] .fix)) hD) nxD:=⟨OD.P.put h9p,by rw[bU _ _ _ _ h9r];exact OD.g,OD.k.put (by have:=O9.lo;omega),OD.lo,OD.hi,OD.ne⟩
   have gr:=OE.g
   simp[gD,oc.cells,oc.cell]
   simp[tQ,gr,oc.cell,hz]
   exact(OE.yx [I 4,.str tn tc,I 0,.nils,.nils,c,I at']).ret (Bw (k:=4) (by omega) (by omega) hs mM (.nil _) (.nil _) oc yw) (by simp;omega)
 |false=>
 simp
 simp[C8,q4]
 refine(IE S O8 0).mono ?_
 rintro o h9 Iy ⟨m9,k',a',n',tn,tc,rfl,O9,hn,hs,hm9⟩
 simp
 have s9:=kTSu Iy
 have n9:=O9.hi
 have h9p:Iy≠p:=aG (by have:=O9.P.hi;omega)
 have h9r:nx≠Iy:=aG (by have:=O9.hi;omega)
 have OA:=O9.ext (E0 h9 Iy (.cells [I 2,.str tn tc,I 0,.nils,.nils,.nils,I at'] .fix))
 simp[C9,q1]
 refine(eK S OA.P _ _).mono ?_
 rintro o hB nxB ⟨⟨t,mB,rfl,PB,hmB⟩,kB⟩
 have gB:aa Iy hB=some (.cells [I 2,.str tn tc,I 0,.nils,.nils,.nils,I at'] .fix):=bH kB (by omega) h9p (by rw[gTSm])
 have OB:=OA.call PB kB
 have nB:=kB.n
 cases t with
 |false=>
  simp at hmB
  simp
  simp[tT,gB,OB.g]
  exact(OB.yx _).ret (Bw (by omega) (by omega) hs mM (.nil _) (.nil _) (.nil _) yw) (by simp;omega)
 |true=>
  simp at hmB
  simp
  simp[Da,gB]
  have PC:=PB.put (B:=some (.cells [I 3,.str tn tc,I 0,.nils,.nils,.nils,I at'] .fix)) h9p
  have OC:Ow p nx _ mB h nx (aK Iy (some (.cells [I 3,.str tn tc,I 0,.nils,.nils,.nils,I at'] .fix)) hB) nxB:=⟨PC,by rw[bU _ _ _ _ h9r];exact OB.g,OB.k.put (by have:=O9.lo;omega),OB.lo,OB.hi,OB.ne⟩
  simp[Db,q6]
  refine(hX mB (by omega) _ _ OC.P).mono ?_
  rintro o hD nxD ⟨⟨c,mD,rfl,oc,PD,hmD⟩,kD⟩
  have gD:aa Iy hD=some (.cells [I 3,.str tn tc,I 0,.nils,.nils,.nils,I at'] .fix):=bH kD (by omega) h9p (by rw[gTSm])
  have OD:=OC.call PD kD
  have hz:∀ n H,ax n c H=(c,H):=oc.jh
  have OE:Ow p nx _ mD h nx (aK Iy (some (.cells [I 3,.str tn tc,I 0,.nils,.nils,c,I at'] .fix)) hD) nxD:=⟨OD.P.put h9p,by rw[bU _ _ _ _ h9r];exact OD.g,OD.k.put (by have:=O9.lo;omega),OD.lo,OD.hi,OD.ne⟩
  have gr:=OE.g
  simp[gD,oc.cells,oc.cell]
  simp[tT,gr,oc.cell,hz]
  exact(OE.yx [I 3,.str tn tc,I 0,.nils,.nils,c,I at']).ret (Bw (k:=3) (by omega) (by omega) hs mM (.nil _) (.nil _) oc yw) (by simp;omega)
end Tb
/-
 SP: the reference's parser: lists of expressions. No condition.
-/
namespace Tb
open Go.Sx Go
variable{C:cU}(S:dd C)
include S
def aoU(p:Key)(a b:Nat)(m:Nat)(h:T ab)(nx:Key)(k:Nat)(tm':T AV)(h':T ab)(nx':Key):Prop:=
 ∃ (c:AV) (len:Nat) (t:Bool),aa (K 0) tm'=some (.ptr p 0)∧aa (K 1) tm'=some (.str a b)∧aa (K 5) tm'=some c∧aa (K 6) tm'=some (.bool t)∧Gw W0 4 c len h' nx' nx∧PP p k h' nx'∧len+8*k≤8*m∧Ks p h nx h' nx'
theorem ag6{m:Nat}(hE:∀ m',m'≤m→Lm C m')(hm:m≤9000):UQ C m:=by
 intro p h nx a b P
 have q1:=S.bD
 have q3:=S.bg
 have q4:=S.cH
 refine S.Xo.call ?_
 simp[AH]
 simp[Kt]
 simp[Ku]
 simp[Kv,q1]
 refine(eK S P _ _).mono ?_
 rintro o h1 aY ⟨⟨t,m1,rfl,P1,hm1⟩,k1⟩
 cases t with
 |true=>
  simp at hm1
  simp
  simp[Kw]
  exact⟨⟨_,m1,rfl,.nil 4,P1,by simp;omega⟩,k1⟩
 |false=>
  simp at hm1
  subst m1
  simp
  simp[Ky]
  refine W.bV (n:=m) (aoU p a b m h1 aY) ?_ ?_
  ·exact⟨.nils,0,true,by simp,by simp,by simp,by simp,Gw.nil 4 _ _ _,P1,by omega,Ks.refl _ _ _⟩
  rintro k xD h2 aH ⟨c,len,t,f0,f1,f3,f4,gw,P2,hlen,k2⟩
  refine W.of ?_
  obtain⟨x1,x2,x3,gb⟩:=P2.bad
  have fin:∀ Vp:T AV,aa (K 0) Vp=some (.ptr p 0)→aa (K 1) Vp=some (.str a b)→aa (K 5) Vp=some c→bt C ((U.ops zV).seq ((U.ops zX).seq U.ret)) (aN [RV.tmp (K 4)] (jF 4 p m h nx)) Vp h2 aH:=by
   intro Vp e0 e1 e3
   simp
   simp[zV,e0,e1,q3]
   refine(bC S P2 _ _).mono ?_
   rintro o h4 jq ⟨⟨m4,rfl,P4,Oj⟩,k4⟩
   obtain⟨z1,zw,z2⟩:=(gw.ks P2 k4).OS (by omega)
   simp
   simp[zX,e3]
   have n1:=k1.n
   have n2:=k2.n
   exact⟨⟨_,m4,rfl,z1,P4.lo z2 P1.hi (bS _),by omega⟩,(k1.trans (k2.trans k4)).lo z2 n1 (bS _)⟩
  simp[KB]
  cases t with
  |false=>
   simp[tj,f4]
   simpa using fin _ (by simp[f0]) (by simp[f1]) (by simp[f3])
  |true=>
   by_cases Rz:k=0
   ·subst Rz
    simp at gb
    simp[tj,f0,f4,gb]
    simpa using fin _ (by simp[f0]) (by simp[f1]) (by simp[f3])
   ·simp[tj,f0,f4,gb,Rz]
    simp[Kz,f0,f3,q4]
    refine(hE k (by omega) P2).mono ?_
    rintro o h3 dw ⟨⟨l,m3,rfl,ol,P3,Lj⟩,k3⟩
    have n2:=k2.n
    have n3:=k3.n
    have s3:=kTSu dw
    have hl:l.length=7:=ol.len
    have OT:l.all AV.aD=true:=mi.2 ol.aU
    have htk:List.take 7 l=l:=XO (by omega)
    have hz:∀ n H,az (ax n) l H=(l,H):=fun n H=>av ol.bY
    obtain⟨c4,h4,jq,a1,g4,n4,l4,_⟩:=((gw.ks P2 k3).ext (E0 h3 dw (.cells l .fix))).add (by omega) (r:=l) ol (by omega)
    have a1:appendTo 7 c l 1 _ _=_:=a1
    have h3p:dw≠p:=aG (by have:=P3.hi;omega)
    have P4:=((P3.up (Nat.le_of_lt (by omega:dw.toNat<dw.succ.toNat))).put (B:=some (.cells l .fix)) h3p).lo l4 P1.hi n4
    have K4:=((k2.trans k3).new (B:=.cells l .fix)).lo l4 (bS _) n4
    simp[-appendTo,hl,htk,hz,a1]
    simp[KA,f0,q1]
    refine(eK S P4 _ _).mono ?_
    rintro o h5 iW ⟨⟨t,m5,rfl,P5,Oy⟩,k5⟩
    simp
    have aBn:m5≤m3:=by cases t<;>simp at Oy<;>omega
    refine⟨m5,by omega,?_⟩
    unfold aoU
    refine⟨c4,_,t,?_,?_,?_,?_,g4.ks P4 k5,P5,by omega,K4.trans k5⟩
    ·simp[f0]
    ·simp[f1]
    ·simp
    ·simp
end Tb
/-
 SP: the reference's parser: expressions. No condition.
-/
namespace Tb
open Go.Sx Go
theorem sh{l:List AV}{z:Nat}(h:l.length=z):∀ n,z≤n→List.take n l=l:=fun n hn=>XO (by omega)
theorem dpn{l:List AV}{z:Nat}(h:l.length=z):∀ n,z≤n→List.drop n l=[]:=fun n hn=>List.drop_eq_nil_of_le (by omega)
theorem Ow.more{p rb:Key}{B B':List AV}{m:Nat}{h0 h:T ab}{nx0 nx:Key}(O:Ow p rb B m h0 nx0 h nx):Ow p nx B' m h0 nx0 (aK nx (some (.cells B' .fix)) h) nx.succ:=
 ⟨O.P.ext (E0 h nx _),by rw[gTSm],O.k.new,by have:=O.k.n;omega,by rw[kTSu];omega,aG (by have:=O.P.hi;omega)⟩
theorem Ow.xE{p rb:Key}{B:List AV}{m:Nat}{h0 h:T ab}{nx0 nx:Key}(O:Ow p rb B m h0 nx0 h nx)(B':ab):Ow p rb B m h0 nx0 (aK nx (some B') h) nx.succ:=O.ext (E0 h nx B')
theorem Ow.ae1{p rb q:Key}{B L row:List AV}{m M len z:Nat}{h0 H:T ab}{nx0 nx:Key}{ts:List CT}{f:AV→List AV}(O:Ow p rb B m h0 nx0 H nx)(R:Ow p q L m h0 nx0 H nx)(hq:q≠rb)(hl:L.length=len*z)(hs:∀ y∈L,XP y)(ho:cJ W0 ts (f (.sl L len z .any)))(hm:Rl M m (AV.iN (f (.sl L len z .any)))) :
  mf ts p M h0 nx0 (.ret (.agg (f (ax 9998 (.slice q 0 len z) (aK rb (some (.cells row .fix)) H)).1))) (ax 9998 (.slice q 0 len z) (aK rb (some (.cells row .fix)) H)).2 nx:=by
 rw[si (n:=9997) (l:=L) (by rw[bU _ _ _ _ hq];exact R.g) hl hs]
 exact⟨⟨_,m,rfl,ho,(O.P.put O.ne).put R.ne,hm⟩,(O.k.put O.lo).put R.lo⟩
theorem Di{a b:List AV}(h1:∀ y∈a,XP y)(h2:∀ y∈b,XP y):∀ y∈a++b,XP y:=fun y hy=>(List.mem_append.1 hy).elim (h1 y) (h2 y)
def aje(ts:List CT)(p:Key)(B:Nat)(h:T ab)(nx:Key)(o:Out)(h':T ab)(nx':Key):Prop:=(∃ (l:List AV) (m':Nat),o=.ret (.agg l)∧cJ W0 ts l∧PP p m' h' nx'∧AV.iN l+8*m'≤B)∧Ks p h nx h' nx'
def abI(C:cU)(m:Nat):Prop:=∀ {p:Key} {h:T ab} {nx:Key} (a:Int),dg W0 .int (I a)→PP p m h nx→aO C uq [.ptr p 0,I a] h nx (aje sj p (8*m+1) h nx)
def lf(C:cU)(r:Nat)(m:Nat):Prop:=∀ {p:Key} {h:T ab} {nx:Key},PP p m h nx→aO C fD [.ptr p 0,I r] h nx (mf sj p m h nx)
variable{C:cU}(S:dd C)
include S
theorem adm{m:Nat}(hE:∀ m',m'<m→Lm C m')(hM:∀ m',m'<m→abI C m')(hL:lf C 1 m):Lm C m:=by
 intro p h nx P
 have q1:=S.bD
 have q2:=S.cH
 have q3:=S.bg
 have q4:=S.bJ
 have q5:=S.ji
 have q6:=S.W8
 have q7:=S.Bv
 refine S.Yn.call ?_
 simp[Dm]
 simp[Mc]
 have O0:=Ow.new P Z7
 simp[Md,q5]
 refine(Yo S O0).mono ?_
 rintro o h1 aY ⟨at',rfl,yw,O1⟩
 simp
 simp[Me,q1]
 refine(qC S O1 _ _).mono ?_
 rintro o h2 aH ⟨t,m2,rfl,O2,Cr⟩
 cases t with
 |true=>
  simp at Cr
  simp
  simp[Mf,q2]
  refine(Ue (hE m2 Cr.1) O2).mono ?_
  rintro o h3 dw ⟨m3,l3,rfl,o3,e3,O3,Lj⟩
  have c3:l3.all AV.aD=true:=mi.2 o3.aU
  have t3:List.take 7 l3=l3:=XO (by omega)
  have N3:=O3.more (B':=l3)
  have O4:=O3.xE (.cells l3 .fix)
  simp[e3,c3]
  simp[Mg,q3]
  refine(bC S O4.P _ _).mono ?_
  rintro o h5 iW ⟨⟨m5,rfl,P5,Oy⟩,k5⟩
  have N5:=N3.call P5 k5
  have O5:=O4.call P5 k5
  simp
  simp[Mh,q2]
  refine(hE m5 (by omega) P5).mono ?_
  rintro o h6 IC ⟨⟨l6,m6,rfl,o6,P6,Wn⟩,k6⟩
  have e6:l6.length=7:=o6.len
  have c6:l6.all AV.aD=true:=mi.2 o6.aU
  have t6:List.take 7 l6=l6:=XO (by omega)
  have N6:=(N5.call P6 k6).xE (.cells l6 .fix)
  have M6:=(O5.call P6 k6).more (B':=l6)
  have O6:=(O5.call P6 k6).xE (.cells l6 .fix)
  simp[e6,c6]
  simp[Mi,q3]
  refine(bC S O6.P _ _).mono ?_
  rintro o h7 tZ ⟨⟨m7,rfl,P7,Z8⟩,k7⟩
  have N7:=N6.call P7 k7
  have M7:=M6.call P7 k7
  have O7:=O6.call P7 k7
  simp
  simp[Mj,N7.g,M7.g,e3,e6,t3,t6,q2]
  refine(hE m7 (by omega) P7).mono ?_
  rintro o h8 Bs ⟨⟨l8,m8,rfl,o8,P8,hm8⟩,k8⟩
  have e8:l8.length=7:=o8.len
  have N8:=N7.call P8 k8
  have M8:=M7.call P8 k8
  have O8:=O7.call P8 k8
  have hl:AV.kP l3=true:=o3.lits
  have hl6:AV.kP l6=true:=o6.lits
  have Q8:=O8.xE (.cells (l3++(l6++l8)) .fix)
  have R8:=O8.more (B':=l3++(l6++l8))
  simp[N8.g,M8.g,e3,e6,e8,Q8.g,zqw,zqq,sh e3,sh e6,dpn e3,dpn e6]
  have eM:Bs≠nx:=aG (by have:=O8.hi;omega)
  refine⟨⟨beq_refl _ (by simpa[AV.lits] using hl),beq_refl _ (by simpa[AV.lits] using hl6)⟩,?_⟩
  exact Q8.ae1 (f:=fun c=>[I 6,.str 0 0,I 0,.nils,.nils,c,I at']) R8 eM (by simp[e3,e6,e8]) (Di o3.bY (Di o6.bY o8.bY)) (Bw (by omega) (by omega) ID mM (.nil _) (.nil _) (ok_three rfl o3 o6 o8) yw) (by simp;omega)
 |false=>
 simp at Cr
 subst m2
 simp
 simp[Mk,q1]
 refine(qC S O2 _ _).mono ?_
 rintro o h3 dw ⟨t,m3,rfl,O3,Lj⟩
 cases t with
 |true=>
  simp at Lj
  simp
  simp[Ml,q4]
  refine(IE S O3 0).mono ?_
  rintro o h4 jq ⟨m4,k',a',n',tn,tc,rfl,O4,hn,hs,Oj⟩
  simp
  simp[IF,q3]
  refine(agC S O4 _ _).mono ?_
  rintro o h5 iW ⟨m5,rfl,O5,Oy⟩
  simp
  simp[IG,q2]
  refine(Ue (hE m5 (by omega)) O5).mono ?_
  rintro o h6 IC ⟨m6,l6,rfl,o6,e6,O6,Wn⟩
  have c6:l6.all AV.aD=true:=mi.2 o6.aU
  have N6:=O6.more (B':=l6)
  have O7:=O6.xE (.cells l6 .fix)
  simp[e6,c6]
  simp[IH,q3]
  refine(bC S O7.P _ _).mono ?_
  rintro o h7 tZ ⟨⟨m7,rfl,P7,Z8⟩,k7⟩
  have N7:=N6.call P7 k7
  have O8:=O7.call P7 k7
  simp
  simp[II,N7.g,e6,sh e6,q2]
  refine(hE m7 (by omega) P7).mono ?_
  rintro o h8 Bs ⟨⟨l8,m8,rfl,o8,P8,hm8⟩,k8⟩
  have e8:l8.length=7:=o8.len
  have N8:=N7.call P8 k8
  have O9:=O8.call P8 k8
  have hl6:AV.kP l6=true:=o6.lits
  have Q8:=O9.xE (.cells (l6++l8) .fix)
  have R8:=O9.more (B':=l6++l8)
  simp[N8.g,e6,e8,Q8.g,zqw,zqq,sh e6,dpn e6]
  have eM:Bs≠nx:=aG (by have:=O9.hi;omega)
  refine⟨beq_refl _ (by simpa[AV.lits] using hl6),?_⟩
  exact Q8.ae1 (f:=fun c=>[I 7,.str tn tc,I 0,.nils,.nils,c,I at']) R8 eM (by simp[e6,e8]) (Di o6.bY o8.bY) (Bw (by omega) (by omega) hs mM (.nil _) (.nil _) (ok_two rfl o6 o8) yw) (by simp;omega)
 |false=>
 simp at Lj
 subst m3
 simp
 simp[IJ,q1]
 refine(qC S O3 _ _).mono ?_
 rintro o h4 jq ⟨t,m4,rfl,O4,Oj⟩
 cases t with
 |true=>
  simp at Oj
  simp
  simp[IK,q6]
  refine(hM m4 Oj.1 _ yw O4.P).mono ?_
  rintro o h5 iW ⟨⟨l5,m5,rfl,o5,P5,Oy⟩,k5⟩
  have e5:l5.length=7:=o5.len
  have O5:=O4.call P5 k5
  have hz:∀ n H,az (ax n) l5 H=(l5,H):=fun n H=>av o5.bY
  have c5:l5.all AV.aD=true:=mi.2 o5.aU
  simp[O5.g,e5,c5,sh e5,hz]
  exact(O5.yx _).ret o5 (by omega)
 |false=>
 simp at Oj
 subst m4
 simp
 simp[IM,q7]
 refine(hL O4.P).mono ?_
 rintro o h5 iW ⟨⟨l5,m5,rfl,o5,P5,Oy⟩,k5⟩
 have e5:l5.length=7:=o5.len
 have O5:=O4.call P5 k5
 have hz:∀ n H,az (ax n) l5 H=(l5,H):=fun n H=>av o5.bY
 have c5:l5.all AV.aD=true:=mi.2 o5.aU
 simp[O5.g,e5,c5,sh e5,hz]
 exact(O5.yx _).ret o5 (by omega)
end Tb
/-
 SP: the reference's parser: structures whose fields grow; matches. No condition.
-/
namespace Tb
open Go.Sx Go
structure Sr(p e:Key)(fs:List FS)(cs:List AV)(m:Nat)(A:Key→Prop)(h0:T ab)(nx0:Key)(h:T ab)(nx:Key):Prop where
 P:PP p m h nx
 g:aa e h=some (.cells cs .fix)
 F:Fl W0 h nx A fs cs
 k:Ks p h0 nx0 h nx
 hp:p.toNat<nx0.toNat
 lo:nx0.toNat≤e.toNat
 hi:e.toNat<nx.toNat
 eA:¬ A e
 aA:∀ b,A b→nx0.toNat≤b.toNat
 fA:∀ b:Key,nx.toNat≤b.toNat→A b
variable{p e:Key}{fs:List FS}{cs:List AV}{m m':Nat}{A:Key→Prop}{h0 h h':T ab}{nx0 nx nx':Key}
theorem Sr.ne(O:Sr p e fs cs m A h0 nx0 h nx):e≠p:=aG (by have:=O.hp;have:=O.lo;omega)
theorem Sr.call(O:Sr p e fs cs m A h0 nx0 h nx)(P:PP p m' h' nx')(k:Ks p h nx h' nx'):Sr p e fs cs m' A h0 nx0 h' nx':=
 ⟨P,bH k O.hi O.ne O.g,O.F.stay k.n fun c hc b hb=>k.g b (O.F.own c hc hb).2 (aG (by have:=O.aA b (O.F.own c hc hb).1;have:=O.hp;omega)),O.k.trans k,O.hp,O.lo,by have:=O.hi;have:=k.n;omega,O.eA,O.aA,fun b hb=>O.fA b (by have:=k.n;omega)⟩
theorem Sr.ext(O:Sr p e fs cs m A h0 nx0 h nx)(x:Ext h nx h' nx'):Sr p e fs cs m A h0 nx0 h' nx':=O.call (O.P.ext x) (x.ks p)
theorem Sr.xE(O:Sr p e fs cs m A h0 nx0 h nx)(B:ab):Sr p e fs cs m A h0 nx0 (aK nx (some B) h) nx.succ:=O.ext (E0 h nx B)
theorem Sr.app(O:Sr p e fs cs m A h0 nx0 h nx){i k len:Nat}(hi:fs[i]?=some (.g k len))(hz:0<(W0 k).length){r:List AV}(hr:cJ W0 (W0 k) r)(hl:len+1≤1048576) :
  ∃ c c' h' nx',cs[i]?=some c∧AV.beq c c=true∧appendTo (W0 k).length c r 1 h nx=.val c' h' nx'∧c'.aD=true∧c'.cells=[c']∧aa e h'=some (.cells cs .fix)∧nx.toNat≤nx'.toNat∧(∀ b:Key,b.toNat<nx.toNat→¬ A b→aa b h'=aa b h)∧Sr p e (fs.set i (.g k (len+1+AV.iN r))) (cs.set i c') m A h0 nx0 (aK e (some (.cells (cs.set i c') .fix)) h') nx':=by
 obtain⟨c,hc,hg,hd⟩:=O.F.at_ hi
 obtain⟨c',h',nx',a1,a2,a3,a4,a5⟩:=hg.add hz O.fA hr hl
 have hfr:∀ b:Key,b.toNat<nx.toNat→¬ A b→aa b h'=aa b h:=fun b hb hA=>a5 b hb fun h2=>hA (hg.own h2).1
 have hpA:¬ A p:=fun h2=>by have:=O.aA p h2;have:=O.hp;omega
 have hg':aa e h'=some (.cells cs .fix):=by rw[hfr e O.hi O.eA];exact O.g
 obtain⟨c1,c2⟩:=a2.cell
 refine⟨c,c',h',nx',hc,hg.beq,a1,c1,c2,hg',a4,hfr,?_⟩
 have F1:=O.F.aia (Gx.nil k h nx A) hi (fun c _ b hb=>by rcases hb with⟨_,_,e⟩|⟨_,_,_,e⟩<;>cases e)
 have mO:∀ x∈cs.set i .nils,∀ b,rk x b→b.toNat<nx.toNat∧¬ rk c b:=by
  intro x hx b hb
  refine⟨(F1.own x hx hb).2,?_⟩
  obtain⟨j,hj⟩:=List.getElem?_of_mem hx
  by_cases hji:j=i
  ·subst hji
   have:x=.nils:=by
    rw[List.getElem?_set] at hj
    simp at hj
    exact hj.2.symm
   subst this
   rcases hb with⟨_,_,e⟩|⟨_,_,_,e⟩<;>cases e
  ·rw[List.getElem?_set_ne (Ne.symm hji)] at hj
   exact fun h2=>hd j x b hji hj h2 hb
 have F2:=F1.stay (h':=h') a4 (fun x hx b hb=>a5 b (mO x hx b hb).1 (mO x hx b hb).2)
 have F3:=F2.aia (k:=k) (len:=0) (i:=i) a2 (by
  rw[List.getElem?_set]
  have:i<fs.length:=by
   have:=List.getElem?_eq_some_iff.1 hi
   exact this.1
  simp[this]) (fun x hx b hb h2=>by have:=a3 b hb;have:=(mO x hx b h2).1;omega)
 rw[List.set_set,List.set_set] at F3
 refine⟨?_,by rw[gTSm],F3.stay (bS _) fun x hx b hb=>?_,?_,O.hp,O.lo,by have:=O.hi;omega,O.eA,O.aA,fun b hb=>O.fA b (by omega)⟩
 ·obtain⟨sn,sc,c0,rs,j,bad,b1,b2⟩:=O.P.at_
  exact PP.put ⟨by have:=O.P.hi;omega,sn,sc,c0,rs,j,bad,by rw[hfr p O.P.hi hpA];exact b1,b2⟩ O.ne
 ·rw[bU]
  rintro rfl
  exact O.eA (F3.own x hx hb).1
 ·refine Ks.put ⟨by have:=O.k.n;omega,fun b hb hbp=>?_⟩ O.lo
  rw[hfr b (by have:=O.k.n;omega) (fun h2=>by have:=O.aA b h2;omega)]
  exact O.k.g b hb hbp
theorem Sr.Dq(O:Sr p e fs cs m A h0 nx0 h nx){i:Nat}{f:FS}(hi:fs[i]?=some f){v:AV}(hv:dg W0 f.ct v):Sr p e (fs.set i (.d f.ct)) (cs.set i v) m A h0 nx0 (aK e (some (.cells (cs.set i v) .fix)) h) nx:=
 ⟨O.P.put O.ne,by rw[gTSm],(O.F.Dq hv hi rfl).stay (bS _) fun x hx b hb=>bU _ _ _ _ (by
   rintro rfl
   exact O.eA ((O.F.Dq hv hi rfl).own x hx hb).1),O.k.put O.lo,O.hp,O.lo,O.hi,O.eA,O.aA,O.fA⟩
theorem Sr.amu{rb:Key}{B:Nat}{ts:List CT}(O:Sr p e fs cs m A h0 nx0 h nx)(hrb:¬ A rb)(vj:nx0.toNat≤rb.toNat)(hts:fs.map FS.ct=ts)(hlen:wF fs cs≤100000)(hm:wF fs cs+8*m≤B)(n:Nat) :
  aje ts p B h0 nx0 (.ret (.agg (az (ax (n+1)) cs (aK rb (some (.cells cs .fix)) h)).1)) (az (ax (n+1)) cs (aK rb (some (.cells cs .fix)) h)).2 nx:=by
 have hpA:¬ A p:=fun h2=>by have:=O.aA p h2;have:=O.hp;omega
 have hrp:rb≠p:=aG (by have:=O.hp;omega)
 have F1:=O.F.stay (h':=aK rb (some (.cells cs .fix)) h) (bS _) fun x hx b hb=>bU _ _ _ _ (by
   rintro rfl
   exact hrb (O.F.own x hx hb).1)
 obtain⟨a,aw,b⟩:=F1.Uf hlen n _ (fun _ _ _ _=>rfl)
 rw[hts] at a
 have P1:=O.P.put (B:=some (.cells cs .fix)) hrp
 have k1:=O.k.put (B:=some (.cells cs .fix)) vj
 obtain⟨sn,sc,c0,rs,j,bad,b1,b2⟩:=P1.at_
 refine⟨⟨_,m,rfl,a,⟨P1.hi,sn,sc,c0,rs,j,bad,by rw[b p hpA];exact b1,b2⟩,by omega⟩,k1.n,fun x hx hxp=>?_⟩
 rw[b x (fun h2=>by have:=O.aA x h2;omega)]
 exact k1.g x hx hxp
end Tb
/-
 SP: the reference's parser: matches. No condition.
-/
namespace Tb
open Go.Sx Go
theorem Iu{cs:List AV}{i n:Nat}{v:AV}(hl:cs.length=n)(hi:i<n):List.take i cs++v ::List.drop (i+1) cs=cs.set i v:=
 (List.set_eq_take_append_cons_drop.trans (by rw[if_pos (by omega)])).symm
theorem aHM{cs:List AV}(h:cs.length=7):∃ a b c d e f g,cs=[a,b,c,d,e,f,g]:=by
 match cs,h with
 | [a,b,c,d,e,f,g],_=>exact⟨a,b,c,d,e,f,g,rfl⟩
def Ax(nx0 rb e:Key)(b:Key):Prop:=nx0.toNat≤b.toNat∧b≠rb∧b≠e
abbrev mtF(n1 n2 n3:Nat):List FS:=[.d .int,.d .str,.d .int,.g 0 n1,.g 2 n2,.g 4 n3,.d .int]
variable{C:cU}(S:dd C)
include S
def ap6(p rb e:Key)(m:Nat)(h:T ab)(nx:Key)(k:Nat)(tm':T AV)(h':T ab)(nx':Key):Prop:=
 ∃ (cs:List AV) (n1 n2 n3:Nat) (t:Bool),aa (K 0) tm'=some (.ptr p 0)∧aa (K 4) tm'=some (.ptr rb 0)∧aa (K 5) tm'=some (.ptr e 0)∧aa (K 6) tm'=some (.bool t)∧Sr p e (mtF n1 n2 n3) cs k (Ax nx rb e) h nx h' nx'∧aa rb h'=some (.cells Z7 .fix)∧wF (mtF n1 n2 n3) cs+8*k≤8*m+1∧k≤m
theorem aon{m:Nat}(hE:∀ m',m'≤m→Lm C m')(hm:m≤9000):abI C m:=by
 intro p h nx a ha P
 have q1:=S.bD
 have q2:=S.cH
 have q3:=S.bg
 have q4:=S.bJ
 have q5:=S.XG
 have s0:=kTSu nx
 have hpn:=P.hi
 refine S.XF.call ?_
 simp[AG]
 simp[Ka]
 have O0:=Ow.new P Z7
 simp[Kb,q2]
 refine(Ue (hE m (bS _)) O0).mono ?_
 rintro o h1 aY ⟨m1,l1,rfl,o1,e1,O1,hm1⟩
 have s1:=kTSu aY
 have s2:=kTSu aY.succ
 have hi1:=O1.hi
 have c1:l1.all AV.aD=true:=mi.2 o1.aU
 have Q1:=(O1.xE (.cells l1 .fix)).xE (.cells [I 8,.str 0 0,I 0,.nils,.nils,.slice aY 0 1 7,I a] .fix)
 have O2:Sr p aY.succ (mtF 0 0 (1+AV.iN l1)) [I 8,.str 0 0,I 0,.nils,.nils,.slice aY 0 1 7,I a] m1 (Ax nx nx aY.succ) h nx (aK aY.succ (some (.cells [I 8,.str 0 0,I 0,.nils,.nils,.slice aY 0 1 7,I a] .fix)) (aK aY (some (.cells l1 .fix)) h1)) aY.succ.succ:=by
  refine⟨Q1.P,by rw[gTSm],?_,Q1.k,hpn,by omega,by omega,fun h2=>h2.2.2 rfl,fun b hb=>hb.1,fun b hb=>⟨by omega,aG (by omega),aG (by omega)⟩⟩
  have WO:∀ (b:Key),∀ c'∈[I a],¬ rk c' b:=fun b c' hc'=>by simp at hc';subst hc';exact ha.aeH b
  have hnl:∀ b,¬ rk .nils b:=fun b hb=>by rcases hb with⟨_,_,e⟩|⟨_,_,_,e⟩<;>cases e
  exact .d _ _ _ _ (ok_int (by omega) (by omega)) (.d _ _ _ _ ID (.d _ _ _ _ mM (.g _ _ _ _ _ (Gx.nil _ _ _ _) (fun b hb=>absurd hb (hnl b)) (.g _ _ _ _ _ (Gx.nil _ _ _ _) (fun b hb=>absurd hb (hnl b))
   (.g _ _ _ _ _ (Gx.lit (k:=4) o1 (by rw[bU _ _ _ _ (aG (by omega)),gTSm]) ⟨by omega,aG (by omega),aG (by omega)⟩ (by omega)) (fun b _=>WO b) (.d _ _ _ _ ha .nil))))))
 have g2:=Q1.g
 simp[e1]
 simp[Kc,q3]
 refine(bC S O2.P _ _).mono ?_
 rintro o h3 dw ⟨⟨m3,rfl,P3,Lj⟩,k3⟩
 have O3:=O2.call P3 k3
 have g3:aa nx h3=some (.cells Z7 .fix):=bH k3 (by omega) (aG (by omega)) g2
 simp
 simp[Kd]
 generalize he:aY.succ=e at O3
 refine W.bV (n:=m3) (ap6 p nx e m h nx) ?_ ?_
 ·exact⟨_,0,0,1+AV.iN l1,true,by simp,by simp,by simp,by simp,O3,g3,by simp;omega,by omega⟩
 rintro k oW h4 jq ⟨cs,n1,n2,n3,t,f0,f4,f5,f6,O4,g4,hn,hk⟩
 refine W.of ?_
 obtain⟨x1,x2,x3,gb⟩:=O4.P.bad
 have OT:cs.length=7:=O4.F.len
 have fin:∀ Wt:T AV,aa (K 0) Wt=some (.ptr p 0)→aa (K 4) Wt=some (.ptr nx 0)→aa (K 5) Wt=some (.ptr e 0)→bt C ((U.ops wY).seq ((U.ops wZ).seq U.ret)) (aN [RV.cell (K 4) true 7] (aje sj p (8*m+1) h nx)) Wt h4 jq:=by
  intro Wt e0 e4 e5
  simp
  simp[wY,e0,q3]
  refine(bC S O4.P _ _).mono ?_
  rintro o h5 iW ⟨⟨m5,rfl,P5,Oy⟩,k5⟩
  have O5:=O4.call P5 k5
  have hi4:=O4.hi
  have lo4:=O4.lo
  have hir:nx.toNat<jq.toNat:=by have:=O4.k.n;omega
  have g5:aa nx h5=some (.cells Z7 .fix):=bH k5 hir (aG (by omega)) g4
  have ON:cs.all AV.aD=true:=mi.2 O5.F.aU
  simp
  simp[wZ,e4,e5,O5.g,OT,sh OT,ON,g5]
  exact O5.amu (fun h2=>h2.2.1 rfl) (bS _) rfl (by omega) (by omega) 9997
 have hi4:=O4.hi
 have lo4:=O4.lo
 have n4:=O4.k.n
 have hpr:nx≠p:=aG (by omega)
 have hre:nx≠e:=aG (by rw[← he];omega)
 have hep:=O4.ne
 simp[Kk]
 cases t with
 |false=>
  simp[sZ,f6]
  simpa using fin _ (by simp[f0]) (by simp[f4]) (by simp[f5])
 |true=>
 by_cases Rz:k=0
 ·subst Rz
  simp at gb
  simp[sZ,f0,f6,gb]
  simpa using fin _ (by simp[f0]) (by simp[f4]) (by simp[f5])
 simp[sZ,f0,f6,gb,Rz]
 obtain⟨w0,w1,w2,c3,c4,c5,w6,rfl⟩:=aHM OT
 simp at hn
 simp[Ke,f0,f5,O4.g,q4]
 refine(iR S O4.P 1).mono ?_
 rintro o h5 iW ⟨⟨l5,m5,rfl,o5,P5,Oy⟩,k5⟩
 obtain⟨k',a',n',tn,tc,rfl,VE,hs⟩:=I4 o5
 have O5:=O4.call P5 k5
 have g5:aa nx h5=some (.cells Z7 .fix):=bH k5 (by omega) hpr g4
 have s5:=kTSu iW
 have i5:=k5.n
 have O6:=O5.xE (.cells [.str tn tc] .fix)
 have g6:aa nx (aK iW (some (.cells [.str tn tc] .fix)) h5)=some (.cells Z7 .fix):=by rw[bA (by omega)];exact g5
 obtain⟨c3',d3,h7,tZ,e3,b3,a3,x3,y3,g7,n7,l7,O7⟩:=O6.app (i:=3) rfl (by decide) (r:=[.str tn tc]) (.c hs .nil) (by omega)
 simp at e3
 subst e3
 have a3:appendTo 1 c3 [.str tn tc] 1 _ _=_:=a3
 have g8:aa nx (aK e (some (.cells [w0,w1,w2,d3,c4,c5,w6] .fix)) h7)=some (.cells Z7 .fix):=by
  rw[bU _ _ _ _ hre,l7 nx (by omega) (fun h2=>h2.2.1 rfl)];exact g6
 simp at O7
 simp[-appendTo,f5,O5.g,b3,a3,x3,y3,g7]
 -- the names avr are bound
 have aPK:m5≤k:=by omega
 simp[Kg,f0,f5,O7.g,q5]
 refine(amY S O7.P (by omega)).mono ?_
 rintro o h8 Bs ⟨⟨cn,m8,rfl,ocn,P8,hm8⟩,k8⟩
 have O8:=O7.call P8 k8
 have i8:=k8.n
 have g8':aa nx h8=some (.cells Z7 .fix):=bH k8 (by omega) hpr g8
 have s8:=kTSu Bs
 have O9:=O8.xE (.cells [cn] .fix)
 have g9:aa nx (aK Bs (some (.cells [cn] .fix)) h8)=some (.cells Z7 .fix):=by rw[bA (by omega)];exact g8'
 obtain⟨c4',d4,hA,nxA,e4,b4,a4,x4,y4,gA,nA,lA,OA⟩:=O9.app (i:=4) rfl (by decide) (r:=[cn]) (.c ocn .nil) (by omega)
 simp at e4
 subst e4
 have a4:appendTo 1 c4 [cn] 1 _ _=_:=a4
 have gB:aa nx (aK e (some (.cells [w0,w1,w2,d3,d4,c5,w6] .fix)) hA)=some (.cells Z7 .fix):=by
  rw[bU _ _ _ _ hre,lA nx (by omega) (fun h2=>h2.2.1 rfl)];exact g9
 simp at OA
 have hzn:∀ n H,ax n cn H=(cn,H):=ocn.jh
 simp[-appendTo,f5,O8.g,b4,a4,x4,y4,gA,ocn.cells,hzn]
 simp[Kh,f0,q3]
 refine(bC S OA.P _ _).mono ?_
 rintro o hB nxB ⟨⟨mB,rfl,PB,hmB⟩,kB⟩
 have OB:=OA.call PB kB
 have iB:=kB.n
 have gB':aa nx hB=some (.cells Z7 .fix):=bH kB (by omega) hpr gB
 simp
 -- aPO is behind the arrow
 simp[Ki,f0,f5,OB.g,q2]
 refine(hE mB (by omega) OB.P).mono ?_
 rintro o hC nxC ⟨⟨lC,mC,rfl,oC,PC,hmC⟩,kC⟩
 have OC:=OB.call PC kC
 have iC:=kC.n
 have gC:aa nx hC=some (.cells Z7 .fix):=bH kC (by omega) hpr gB'
 have sC:=kTSu nxC
 have hlC:lC.length=7:=oC.len
 have hcC:lC.all AV.aD=true:=mi.2 oC.aU
 have hzC:∀ n H,az (ax n) lC H=(lC,H):=fun n H=>av oC.bY
 have OD:=OC.xE (.cells lC .fix)
 have gD:aa nx (aK nxC (some (.cells lC .fix)) hC)=some (.cells Z7 .fix):=by rw[bA (by omega)];exact gC
 obtain⟨c5',d5,hE',nxE,e5,b5,a5,x5,y5,gE,nE,lE,OE⟩:=OD.app (i:=5) rfl (by decide) (r:=lC) oC (by omega)
 simp at e5
 subst e5
 have a5:appendTo 7 c5 lC 1 _ _=_:=a5
 have gF:aa nx (aK e (some (.cells [w0,w1,w2,d3,d4,d5,w6] .fix)) hE')=some (.cells Z7 .fix):=by
  rw[bU _ _ _ _ hre,lE nx (by omega) (fun h2=>h2.2.1 rfl)];exact gD
 simp at OE
 simp[-appendTo,f5,OC.g,b5,a5,x5,y5,gE,hlC,hzC,sh hlC]
 simp[Kj,f0,q1]
 refine(eK S OE.P _ _).mono ?_
 rintro o hG nxG ⟨⟨t,mG,rfl,PG,hmG⟩,kG⟩
 have OG:=OE.call PG kG
 have gG:aa nx hG=some (.cells Z7 .fix):=bH kG (by omega) hpr gF
 have aGb:mG≤mC:=by cases t<;>simp at hmG<;>omega
 simp
 refine⟨mG,by omega,?_⟩
 unfold ap6
 refine⟨_,_,_,_,t,?_,?_,?_,?_,OG,gG,by simp;omega,by omega⟩
 ·simp[f0]
 ·simp[f4]
 ·simp[f5]
 ·simp
end Tb
/-
 SP: the reference's parser: operations. No condition.
-/
namespace Tb
open Go.Sx Go
def Lv(nx0 rb e nx:Key)(b:Key):Prop:=nx0.toNat≤b.toNat∧b.toNat<nx.toNat∧b≠rb∧b≠e
theorem am9(orc:pF)(a b:Nat):opS .neq a b 0 0=some (.bool (decide (¬ (a=0∧b=0)))):=by
 simp only[opS]
 by_cases h1:a=0<;>by_cases h2:b=0<;>simp[h1,h2]
variable{C:cU}(S:dd C)
include S
theorem akF{m:Nat}(hO:∀ {p:Key} {h:T ab} {nx:Key},PP p m h nx→aO C lq [.ptr p 0] h nx (mf sj p m h nx)):lf C 7 m:=by
 intro p h nx P
 have q5:=S.ji
 have q6:=S.UT
 refine S.Cp.call ?_
 simp[pQ]
 simp[ta]
 have O0:=Ow.new P Z7
 simp[td,q5]
 refine(Yo S O0).mono ?_
 rintro o h1 aY ⟨at',rfl,yw,O1⟩
 simp
 simp[tf]
 simp[zU]
 simp[Ko,q6]
 refine(hO O1.P).mono ?_
 rintro o h5 iW ⟨⟨l5,m5,rfl,o5,P5,Oy⟩,k5⟩
 have e5:l5.length=7:=o5.len
 have O5:=O1.call P5 k5
 have hz:∀ n H,az (ax n) l5 H=(l5,H):=fun n H=>av o5.bY
 have c5:l5.all AV.aD=true:=mi.2 o5.aU
 simp[O5.g,e5,c5,sh e5,hz]
 exact(O5.yx _).ret o5 (by omega)
theorem akG{m:Nat}(h3:∀ m',m'<m→lf C 3 m')(h4:lf C 4 m):lf C 3 m:=by
 intro p h nx P
 have q1:=S.bD
 have q5:=S.ji
 have q6:=S.Bv
 refine S.Cp.call ?_
 simp[pQ]
 simp[ta]
 have O0:=Ow.new P Z7
 simp[td,q5]
 refine(Yo S O0).mono ?_
 rintro o h1 aY ⟨at',rfl,yw,O1⟩
 simp
 simp[tf]
 simp[Kl,q1]
 refine(qC S O1 _ _).mono ?_
 rintro o h2 aH ⟨t,m2,rfl,O2,Cr⟩
 cases t with
 |true=>
  simp at Cr
  simp
  simp[Km,q6]
  refine(h3 m2 Cr.1 O2.P).mono ?_
  rintro o h5 iW ⟨⟨l5,m5,rfl,o5,P5,Oy⟩,k5⟩
  have e5:l5.length=7:=o5.len
  have O5:=O2.call P5 k5
  have Q8:=O5.xE (.cells l5 .fix)
  have R8:=O5.more (B':=l5)
  have eM:iW≠nx:=aG (by have:=O5.hi;omega)
  simp[e5,Q8.g]
  exact Q8.ae1 (f:=fun c=>[I 9,.str 3 7630702,I 0,.nils,.nils,c,I at']) R8 eM (by simp[e5]) o5.bY (Bw (by omega) (by omega) (.str _ _ (by decide) (by omega)) mM (.nil _) (.nil _) (ok_one rfl o5) yw) (by simp;omega)
 |false=>
  simp at Cr
  subst m2
  simp
  simp[Kn,q6]
  refine(h4 O2.P).mono ?_
  rintro o h5 iW ⟨⟨l5,m5,rfl,o5,P5,Oy⟩,k5⟩
  have e5:l5.length=7:=o5.len
  have O5:=O2.call P5 k5
  have hz:∀ n H,az (ax n) l5 H=(l5,H):=fun n H=>av o5.bY
  have c5:l5.all AV.aD=true:=mi.2 o5.aU
  simp[O5.g,e5,c5,sh e5,hz]
  exact(O5.yx _).ret o5 (by omega)
def akH(p rb e:Key)(r:Nat)(at':Int)(M m:Nat)(h:T ab)(nx:Key)(k:Nat)(tm':T AV)(h':T ab)(nx':Key):Prop:=
 ∃ (cs:List AV) (d w a b:Nat),Rl M k w∧aa (K 0) tm'=some (.ptr p 0)∧aa (K 1) tm'=some (I r)∧aa (K 4) tm'=some (.ptr rb 0)∧aa (K 5) tm'=some (I at')∧aa (K 6) tm'=some (.ptr e 0)∧aa (K 7) tm'=some (.str a b)∧
  Ow p rb Z7 k h nx h' nx'∧aa e h'=some (.cells cs .fix)∧TL W0 h' (Lv nx rb e nx') d w sj cs∧d+k≤m∧dg W0 .str (.str a b)∧(a=0∧b=0∨2≤k)∧nx.toNat≤e.toNat∧e.toNat<nx'.toNat∧e≠rb∧e≠p
theorem QT{m r:Nat}(hr:r≤6)(h3:r≠3)(hN:∀ m',m'≤m→lf C (r+1) m')(hm:m≤9000):lf C r m:=by
 intro p h nx P
 have q1:=S.TV
 have q3:=S.bg
 have q5:=S.ji
 have q6:=S.Bv
 have hpn:=P.hi
 refine S.Cp.call ?_
 simp[pQ]
 simp[ta]
 have O0:=Ow.new P Z7
 simp[td,q5]
 refine(Yo S O0).mono ?_
 rintro o h1 aY ⟨at',rfl,yw,O1⟩
 have b3:((r:Int)==3)=false:=by simp;omega
 have b7:((r:Int)==7)=false:=by simp;omega
 have hw:aW .i64 ((r:Int)+1)=((r+1:Nat):Int):=by rw[show(r:Int)+1=((r+1:Nat):Int) by omega];exact br (by omega) (by omega)
 obtain⟨r1,hr1⟩:∃ r1,r1=r+1:=⟨_,rfl⟩
 rw[← hr1] at hw hN
 simp
 simp[tf,b3]
 simp[zU,b7]
 simp[Kp,hw,q6]
 refine(hN m (bS _) O1.P).mono ?_
 rintro o h2 aH ⟨⟨l2,m2,rfl,o2,P2,Cr⟩,k2⟩
 have O2:=O1.call P2 k2
 have e2:l2.length=7:=o2.len
 have c2:l2.all AV.aD=true:=mi.2 o2.aU
 have N2:=O2.more (B':=l2)
 have O3:=O2.xE (.cells l2 .fix)
 have s2:=kTSu aH
 have i2:=O2.hi
 simp[e2,c2]
 simp[Kq,q1]
 refine(YF S O3.P (r:Int)).mono ?_
 rintro o h4 jq ⟨⟨a,b,rfl,hab,hk⟩,x4⟩
 have O4:=O3.ext x4
 have N4:=N2.ext x4
 simp
 generalize he:aH=e at N4
 refine W.bV (n:=m2) (akH p nx e r at' m m2 h nx) ?_ ?_
 ·exact⟨l2,0,AV.iN l2,a,b,Cr,by simp,by simp,by simp,by simp,by simp,by simp,O4,N4.g,o2.da 0,by omega,hab,hk,N4.lo,N4.hi,by rw[← he];exact aG (by omega),N4.ne⟩
 rintro k Wt h5 iW ⟨cs,d,w,a,b,hw5,f0,f1,f4,f5,f6,f7,O5,g5,D5,hd,hab,hk,elo,ehi,erb,ep⟩
 refine W.of ?_
 simp[Kr]
 have OT:cs.length=7:=by
  have:∀ {d w:Nat} {ts:List CT} {cs:List AV},TL W0 h5 (Lv nx nx e iW) d w ts cs→cs.length=ts.length:=fun h=>h.len
  exact this D5
 have GG:=am9 C.orc a b
 by_cases hz0:a=0∧b=0
 ·have aEY:opS .neq a b 0 0=some (.bool false):=by rw[GG];simp[hz0]
  have ON:cs.all AV.aD=true:=mi.2 D5.aU
  simp[w7,f7,aEY]
  simp[HD,f6,f4,g5,OT,sh OT,ON,O5.g]
  have D6:TL W0 (aK nx (some (.cells cs .fix)) h5) (Lv nx nx e iW) d w sj cs:=D5.stay fun b l kk hA hb _=>⟨by rw[bU _ _ _ _ hA.2.2.1];exact hb,hA⟩
  obtain⟨a1,aw,_,a3,_⟩:=D6.Uf 9998 (by omega) _ (Rf.refl _)
  have O6:=O5.yx cs
  have P6:=O6.P
  obtain⟨sn,sc,c0,rs,j,bad,b1,b2⟩:=P6.at_
  refine⟨⟨_,k,rfl,a1,⟨P6.hi,sn,sc,c0,rs,j,bad,by rw[a3 p (fun hA=>by have:=hA.1;omega)];exact b1,b2⟩,by rw[aw];exact hw5⟩,O6.k.n,fun x hx hxp=>?_⟩
  rw[a3 x (fun hA=>by have:=hA.1;omega)]
  exact O6.k.g x hx hxp
 ·have aEZ:opS .neq a b 0 0=some (.bool true):=by rw[GG];simp[hz0]
  have hk2:2≤k:=by rcases hk with hk|hk;exact absurd hk hz0;exact hk
  simp[w7,f7,aEZ]
  simp[Hy,f0,f7,q3]
  refine(bC S O5.P _ _).mono ?_
  rintro o h6 IC ⟨⟨m6,rfl,P6,Wn⟩,k6⟩
  have O6:=O5.call P6 k6
  simp
  simp[Hz,f0,f1,hw,q6]
  refine(hN m6 (by omega) O6.P).mono ?_
  rintro o h7 tZ ⟨⟨l7,m7,rfl,o7,P7,Z8⟩,k7⟩
  have O7:=O6.call P7 k7
  have e7:l7.length=7:=o7.len
  have c7:l7.all AV.aD=true:=mi.2 o7.aU
  have s7:=kTSu tZ
  have s8:=kTSu tZ.succ
  have O8:=O7.xE (.cells l7 .fix)
  have N8:=O7.more (B':=l7)
  have i7:=O7.hi
  have n6:=k6.n
  have n7:=k7.n
  have aML:nx≠p:=aG (by omega)
  have g7:aa e h7=some (.cells cs .fix):=bH k7 (by omega) ep (bH k6 ehi ep g5)
  have g8:aa e (aK tZ (some (.cells l7 .fix)) h7)=some (.cells cs .fix):=by rw[bA (by omega)];exact g7
  have e78:tZ≠tZ.succ:=aG (by omega)
  simp[e7,c7]
  have O9:=O8.xE (.cells (cs++l7) .fix)
  have ge:aa e (aK tZ.succ (some (.cells (cs++l7) .fix)) (aK tZ (some (.cells l7 .fix)) h7))=some (.cells cs .fix):=by rw[bA (by omega)];exact g8
  have hln:AV.kP cs=true:=D5.lits
  simp[HA,f5,f6,f7,g8,OT,sh OT,N8.g,e7,sh e7,zqw,zqq,dpn OT,ge]
  obtain⟨H,hH⟩:∃ H,H=aK e (some (.cells [I 9,.str a b,I 0,.nils,.nils,.slice tZ.succ 0 2 7,I at'] .fix)) (aK tZ.succ (some (.cells (cs++l7) .fix)) (aK tZ (some (.cells l7 .fix)) h7)):=⟨_,rfl⟩
  have Bx:∀ (b:Key),nx.toNat≤b.toNat→b.toNat<iW.toNat→b≠e→aa b H=aa b h5:=by
   intro x h1 h2 h3
   rw[hH,bU _ _ _ _ h3,bA (by omega),bA (by omega),k7.g x (by omega) (aG (by omega)),k6.g x h2 (aG (by omega))]
  have D8:TL W0 H (Lv nx nx e tZ.succ.succ) d w sj cs:=D5.stay fun b l kk hA hb _=>⟨by rw[Bx b hA.1 hA.2.1 hA.2.2.2];exact hb,hA.1,by have:=hA.2.1;omega,hA.2.2.1,hA.2.2.2⟩
  have gq:aa tZ.succ H=some (.cells (cs++l7) .fix):=by rw[hH,bU _ _ _ _ (aG (by omega)),gTSm]
  have DK:DaC W0 H (Lv nx nx e tZ.succ.succ) (d+1) (2+(w+(AV.iN l7+0))) (.sl 4) (.slice tZ.succ 0 2 7):=
   DaC.sl d (w+(AV.iN l7+0)) 4 tZ.succ [cs,l7] .fix (by rw[gq];simp) (.inl rfl) ⟨by have:=O7.k.n;omega,by omega,aG (by have:=O7.k.n;omega),aG (by omega)⟩ (by simp) (.cons _ _ _ _ _ _ D8 (.cons _ _ _ _ _ _ (o7.da d) (.nil _ _)))
  have DE:TL W0 H (Lv nx nx e tZ.succ.succ) (d+1) (0+(0+(0+(0+(0+(2+(w+(AV.iN l7+0))+(0+0))))))) sj [I 9,.str a b,I 0,.nils,.nils,.slice tZ.succ 0 2 7,I at']:=
   .cons _ _ _ _ _ _ _ (.ok _ _ _ _ (ok_int (by omega) (by omega)) (by simp)) (.cons _ _ _ _ _ _ _ (.ok _ _ _ _ hab (by simp)) (.cons _ _ _ _ _ _ _ (.ok _ _ _ _ mM (by simp)) (.cons _ _ _ _ _ _ _ (.ok _ _ _ _ (.nil _) (by simp)) (.cons _ _ _ _ _ _ _ (.ok _ _ _ _ (.nil _) (by simp)) (.cons _ _ _ _ _ _ _ DK (.cons _ _ _ _ _ _ _ (.ok _ _ _ _ yw (by simp)) (.nil _)))))))
  have OE:Ow p nx Z7 m7 h nx H tZ.succ.succ:=by
   rw[hH]
   exact⟨O9.P.put ep,by rw[bU _ _ _ _ (Ne.symm erb)];exact O9.g,O9.k.put elo,O9.lo,O9.hi,O9.ne⟩
  have gH:aa e H=some (.cells [I 9,.str a b,I 0,.nils,.nils,.slice tZ.succ 0 2 7,I at'] .fix):=by rw[hH,gTSm]
  rw[← hH]
  simp[HB,f0,f1,q1]
  refine(YF S OE.P (r:Int)).mono ?_
  rintro o hF nxF ⟨⟨a2,b2,rfl,aE0,hk3⟩,xF⟩
  have OF:=OE.ext xF
  have gF:aa e hF=some (.cells [I 9,.str a b,I 0,.nils,.nils,.slice tZ.succ 0 2 7,I at'] .fix):=by rw[xF.g e (by omega)];exact gH
  have nF:=xF.n
  have DF:TL W0 hF (Lv nx nx e nxF) (d+1) (0+(0+(0+(0+(0+(2+(w+(AV.iN l7+0))+(0+0))))))) sj [I 9,.str a b,I 0,.nils,.nils,.slice tZ.succ 0 2 7,I at']:=DE.stay fun b l kk hA hb _=>⟨by rw[xF.g b hA.2.1];exact hb,hA.1,by have:=hA.2.1;omega,hA.2.2.1,hA.2.2.2⟩
  simp
  by_cases hr4:r=4
  ·subst hr4
   simp[w9,f1]
   simp[HC]
   refine⟨m7,by omega,?_⟩
   unfold akH
   refine⟨_,d+1,_,0,0,by omega,?_,?_,?_,?_,?_,?_,OF,gF,DF,by omega,ID,.inl ⟨rfl,rfl⟩,elo,by omega,erb,ep⟩
   ·simp[f0]
   ·simp[f1]
   ·simp[f4]
   ·simp[f5]
   ·simp[f6]
   ·simp
  ·have b4:((r:Int)==4)=false:=by simp;omega
   simp[w9,f1,b4]
   refine⟨m7,by omega,?_⟩
   unfold akH
   refine⟨_,d+1,_,a2,b2,by omega,?_,?_,?_,?_,?_,?_,OF,gF,DF,by omega,aE0,hk3,elo,by omega,erb,ep⟩
   ·simp[f0]
   ·simp[f1]
   ·simp[f4]
   ·simp[f5]
   ·simp[f6]
   ·simp
end Tb
/-
 SP: the reference's parser: expressions, all of them. No condition.
-/
namespace Tb
open Go.Sx Go
variable{C:cU}(S:dd C)
include S
theorem atx:∀ m:Nat,m≤9000→Lm C m∧∀ r,1≤r→r≤7→lf C r m:=by
 intro m
 induction m using Nat.strongRecOn with
 |ind m ih=>
 intro hm
 have hE:∀ m',m'<m→Lm C m':=fun m' h=>(ih m' h (by omega)).1
 have hX:∀ m',m'<m→UQ C m':=fun m' h=>ag6 S (fun m2 h2=>hE m2 (by omega)) (by omega)
 have hM:∀ m',m'<m→abI C m':=fun m' h=>aon S (fun m2 h2=>hE m2 (by omega)) (by omega)
 have L7:lf C 7 m:=akF S fun P=>aiP S hE hX P
 have up:∀ r,1≤r→r≤7→lf C r m→∀ m',m'≤m→lf C r m':=fun r h1 h2 h3 m' h4=>by
  by_cases e:m'=m
  ·subst e;exact h3
  ·exact(ih m' (by omega) (by omega)).2 r h1 h2
 have L6:lf C 6 m:=QT S (by omega) (by omega) (up 7 (by omega) (by omega) L7) hm
 have L5:lf C 5 m:=QT S (by omega) (by omega) (up 6 (by omega) (by omega) L6) hm
 have L4:lf C 4 m:=QT S (by omega) (by omega) (up 5 (by omega) (by omega) L5) hm
 have L3:lf C 3 m:=akG S (fun m' h=>(ih m' h (by omega)).2 3 (by omega) (by omega)) L4
 have L2:lf C 2 m:=QT S (by omega) (by omega) (up 3 (by omega) (by omega) L3) hm
 have L1:lf C 1 m:=QT S (by omega) (by omega) (up 2 (by omega) (by omega) L2) hm
 refine⟨adm S hE hM L1,fun r h1 h2=>?_⟩
 have:r=1∨r=2∨r=3∨r=4∨r=5∨r=6∨r=7:=by omega
 rcases this with rfl|rfl|rfl|rfl|rfl|rfl|rfl<;>assumption
theorem vJ{m:Nat}(hm:m≤9000):Lm C m:=(atx S m hm).1
theorem ajK{m:Nat}(hm:m≤9000):UQ C m:=ag6 S (fun m' h=>vJ S (by omega)) hm
end Tb
/-
 SP: the reference's parser: bounds of generators. No condition.
-/
namespace Tb
open Go.Sx Go
variable{C:cU}(S:dd C)
include S
def ap8(k:Nat)(p:Key)(B:Nat)(h:T ab)(nx:Key)(o:Out)(h':T ab)(nx':Key):Prop:=(∃ (c:AV) (m':Nat),o=.ret c∧dg W0 (.sl k) c∧PP p m' h' nx'∧AV.wt c+8*m'≤B)∧Ks p h nx h' nx'
theorem adl{p:Key}{m:Nat}{h:T ab}{nx:Key}(P:PP p m h nx)(hm:m≤9000):aO C mL [.ptr p 0] h nx (ap8 4 p (8*m+2) h nx):=by
 have q2:=S.cH
 have q3:=S.bg
 have hpn:=P.hi
 refine S.Vv.call ?_
 simp[vI]
 simp[GA]
 simp[GB,q2]
 refine(vJ S hm P).mono ?_
 rintro o h1 aY ⟨⟨l1,m1,rfl,o1,P1,hm1⟩,k1⟩
 have e1:l1.length=7:=o1.len
 have c1:l1.all AV.aD=true:=mi.2 o1.aU
 have s1:=kTSu aY
 have n1:=k1.n
 have N1:Ow p aY l1 m1 h nx (aK aY (some (.cells l1 .fix)) h1) aY.succ:=⟨P1.ext (E0 h1 aY _),by rw[gTSm],k1.new,by omega,by omega,aG (by have:=P1.hi;omega)⟩
 simp[e1,c1]
 simp[GC,q3]
 refine(bC S N1.P _ _).mono ?_
 rintro o h2 aH ⟨⟨m2,rfl,P2,Cr⟩,k2⟩
 have N2:=N1.call P2 k2
 simp
 simp[GD,N2.g,e1,sh e1,q2]
 refine(vJ S (by omega) P2).mono ?_
 rintro o h3 dw ⟨⟨l3,m3,rfl,o3,P3,Lj⟩,k3⟩
 have e3:l3.length=7:=o3.len
 have N3:=N2.call P3 k3
 have hl1:AV.kP l1=true:=o1.lits
 have hz:=si (n:=9998) (b:=dw) (len:=2) (sz:=7) (l:=l1++l3) (H:=aK dw (some (.cells (l1++l3) .fix)) h3) (by rw[gTSm]) (by simp[e1,e3]) (Di o1.bY o3.bY)
 have s3:=kTSu dw
 simp[N3.g,e1,e3,zqq,sh e1,dpn e1,hz]
 refine⟨beq_refl _ (by simpa[AV.lits] using hl1),⟨_,m3,rfl,ok_two rfl o1 o3,?_,by simp;omega⟩,?_⟩
 ·exact(P3.up (by omega)).put (aG (by have:=P3.hi;omega))
 ·have:=N3.k.n
  exact(N3.k.up (by omega)).put (by omega)
end Tb
/-
 SP: the reference's parser: parts of generators. No condition.
-/
namespace Tb
open Go.Sx Go
abbrev gnZ:List AV:=[I 0,.str 0 0,.nils,.nils,.nils,I 0]
theorem ab2{k:Int}{nm ws args kids at_:AV}(h1:-9223372036854775808≤k)(h2:k<9223372036854775808)(a:dg W0 .str nm)(b:dg W0 (.sl 1) ws)(c:dg W0 (.sl 4) args)(d:dg W0 (.sl 5) kids)(f:dg W0 .int at_):cJ W0 RZ [I k,nm,ws,args,kids,at_]:=
 .i h1 h2 (.c a (.c b (.c c (.c d (.c f .nil)))))
theorem amz{cs:List AV}(h:cs.length=6):∃ a b c d e f,cs=[a,b,c,d,e,f]:=by
 match cs,h with
 | [a,b,c,d,e,f],_=>exact⟨a,b,c,d,e,f,rfl⟩
abbrev gnF(n k:Nat):List FS:=[.d .int,.d .str,.g 1 n,.d (.sl 4),.g 5 k,.d .int]
structure Sg(p rb e:Key)(fs:List FS)(cs:List AV)(Z:List AV)(m:Nat)(h:T ab)(nx:Key)(h':T ab)(nx':Key):Prop where
 S:Sr p e fs cs m (Ax nx rb e) h nx h' nx'
 g:aa rb h'=some (.cells Z .fix)
 lo:nx.toNat≤rb.toNat
 hi:rb.toNat<nx'.toNat
 ne:rb≠e
variable{p rb e:Key}{fs:List FS}{cs Z:List AV}{m m':Nat}{h h1 h2:T ab}{nx aY aH:Key}
theorem Sg.rp(O:Sg p rb e fs cs Z m h nx h1 aY):rb≠p:=aG (by have:=O.S.hp;have:=O.lo;omega)
theorem Sg.call(O:Sg p rb e fs cs Z m h nx h1 aY)(P:PP p m' h2 aH)(k:Ks p h1 aY h2 aH):Sg p rb e fs cs Z m' h nx h2 aH:=
 ⟨O.S.call P k,bH k O.hi O.rp O.g,O.lo,by have:=O.hi;have:=k.n;omega,O.ne⟩
theorem Sg.xE(O:Sg p rb e fs cs Z m h nx h1 aY)(B:ab):Sg p rb e fs cs Z m h nx (aK aY (some B) h1) aY.succ:=
 ⟨O.S.xE B,by rw[bA O.hi];exact O.g,O.lo,by have:=O.hi;rw[kTSu];omega,O.ne⟩
theorem Sg.app(O:Sg p rb e fs cs Z m h nx h1 aY){i k len:Nat}(hi:fs[i]?=some (.g k len))(hz:0<(W0 k).length){r:List AV}(hr:cJ W0 (W0 k) r)(hl:len+1≤1048576) :
  ∃ c c' h' nx',cs[i]?=some c∧AV.beq c c=true∧appendTo (W0 k).length c r 1 h1 aY=.val c' h' nx'∧c'.aD=true∧c'.cells=[c']∧aa e h'=some (.cells cs .fix)∧Sg p rb e (fs.set i (.g k (len+1+AV.iN r))) (cs.set i c') Z m h nx (aK e (some (.cells (cs.set i c') .fix)) h') nx':=by
 obtain⟨c,c',h',nx',a1,a2,a3,a4,a5,a6,a7,a8,a9⟩:=O.S.app hi hz hr hl
 refine⟨c,c',h',nx',a1,a2,a3,a4,a5,a6,a9,?_,O.lo,by have:=O.hi;omega,O.ne⟩
 rw[bU _ _ _ _ O.ne,a8 rb O.hi (fun h2=>h2.2.1 rfl)]
 exact O.g
theorem Sg.Dq(O:Sg p rb e fs cs Z m h nx h1 aY){i:Nat}{f:FS}(hi:fs[i]?=some f){v:AV}(hv:dg W0 f.ct v):Sg p rb e (fs.set i (.d f.ct)) (cs.set i v) Z m h nx (aK e (some (.cells (cs.set i v) .fix)) h1) aY:=
 ⟨O.S.Dq hi hv,by rw[bU _ _ _ _ O.ne];exact O.g,O.lo,O.hi,O.ne⟩
theorem Sg.ret{M:Nat}{ts:List CT}(O:Sg p rb e fs cs Z m h nx h1 aY)(hts:fs.map FS.ct=ts)(hlen:wF fs cs≤100000)(hm:Rl M m (wF fs cs))(n:Nat) :
  mf ts p M h nx (.ret (.agg (az (ax (n+1)) cs (aK rb (some (.cells cs .fix)) h1)).1)) (az (ax (n+1)) cs (aK rb (some (.cells cs .fix)) h1)).2 aY:=by
 obtain⟨⟨l,m',a,b,c,d⟩,e⟩:=O.S.amu (B:=wF fs cs+8*m) (fun h2=>h2.2.1 rfl) O.lo hts hlen (bS _) n
 refine⟨⟨l,m',a,b,c,?_⟩,e⟩
 omega
variable{C:cU}(S:dd C)
include S
def YH(C:cU)(m:Nat):Prop:=∀ {p:Key} {h:T ab} {nx:Key},PP p m h nx→aO C fi [.ptr p 0] h nx (mf RZ p m h nx)
def YI(C:cU)(m:Nat):Prop:=∀ {p:Key} {h:T ab} {nx:Key},PP p m h nx→aO C rq [.ptr p 0] h nx (mf RZ p m h nx)
theorem aif{M:Nat}{tm:T AV}(O:Sg p nx e (gnF 0 0) cs gnZ m h nx h1 aY)(hw0:wF (gnF 0 0) cs=0)(hm:m≤9000)(hM:m≤M)(f0:aa (K 0) tm=some (.ptr p 0))(f2:aa (K 2) tm=some (.ptr nx 0))(f6:aa (K 6) tm=some (.ptr e 0)) :
  bt C ((U.ops yE).seq ((U.ops yF).seq ((U.ops yG).seq ((U.ops yH).seq ((U.ops yI).seq .ret))))) (aN [RV.cell (K 2) true 6] (mf RZ p M h nx)) tm h1 aY:=by
 have q3:=S.bg
 have q4:=S.bJ
 have q6:=S.Mn
 obtain⟨w0,w1,w2,w3,w4,w5,rfl⟩:=amz O.S.F.len
 simp at hw0
 simp
 have O1:=O.Dq (i:=0) rfl (v:=I 7) (ok_int (by omega) (by omega))
 simp at O1
 simp[yE,f6,O.S.g]
 simp[yF,f0,q4]
 refine(iR S O1.S.P 0).mono ?_
 rintro o h3 dw ⟨⟨l3,m3,rfl,o3,P3,Lj⟩,k3⟩
 obtain⟨k',a',n',tn,tc,rfl,VE,hs⟩:=I4 o3
 have O3:=O1.call P3 k3
 have O4:=O3.Dq (i:=1) rfl (v:=.str tn tc) hs
 simp at O4
 simp[f6,O3.S.g]
 simp[yG,f0,q3]
 refine(bC S O4.S.P _ _).mono ?_
 rintro o h5 iW ⟨⟨m5,rfl,P5,Oy⟩,k5⟩
 have O5:=O4.call P5 k5
 simp
 simp[yH,f0,q6]
 refine(ajK S (by omega) _ _ P5).mono ?_
 rintro o h6 IC ⟨⟨c,m6,rfl,oc,P6,Wn⟩,k6⟩
 have O6:=O5.call P6 k6
 have O7:=O6.Dq (i:=3) rfl (v:=c) oc
 simp at O7
 simp[f6,O6.S.g,oc.cell,oc.cells]
 have hcb:=O7.S.F.aU
 simp at hcb
 simp[yI,f2,f6,O7.S.g,O7.g,hcb]
 exact O7.ret rfl (by simp;omega) (by simp;omega) 9997
end Tb
/-
 SP: the reference's parser: parts of generators: made values, choices. No condition.
-/
namespace Tb
open Go.Sx Go
variable{p rb e:Key}{fs:List FS}{cs Z:List AV}{m m':Nat}{h h1 h2:T ab}{nx aY aH:Key}
variable{C:cU}(S:dd C)
include S
def akX(p e:Key)(M:Nat)(h:T ab)(nx:Key)(k:Nat)(tm':T AV)(h':T ab)(nx':Key):Prop:=
 ∃ (cs:List AV) (n1 n:Nat) (t:Bool),aa (K 0) tm'=some (.ptr p 0)∧aa (K 2) tm'=some (.ptr nx 0)∧aa (K 6) tm'=some (.ptr e 0)∧aa (K 8) tm'=some (.bool t)∧Sg p nx e (gnF n1 n) cs gnZ k h nx h' nx'∧wF (gnF n1 n) cs+8*k≤8*M
theorem aiG{M:Nat}{tm:T AV}(hG:∀ m',m'≤m→YH C m')(O:Sg p nx e (gnF 0 0) cs gnZ m h nx h1 aY)(hw0:wF (gnF 0 0) cs=0)(hm:m≤9000)(hM:m<M∨m=0)(f0:aa (K 0) tm=some (.ptr p 0))(f2:aa (K 2) tm=some (.ptr nx 0))(f6:aa (K 6) tm=some (.ptr e 0)){P0:U} :
  bt C ((U.ops zP).seq ((U.ops zQ).seq ((U.ops zR).seq ((U.ops zS).seq ((U.block 2 Cm.loop).seq ((U.ops sY).seq .ret)))))) (ak (bt C P0 (aN [RV.cell (K 2) true 6] (mf RZ p M h nx))) (aN [RV.cell (K 2) true 6] (mf RZ p M h nx))) tm h1 aY:=by
 have q1:=S.bD
 have q3:=S.bg
 have q4:=S.bJ
 have q6:=S.pJ
 obtain⟨w0,w1,w2,w3,w4,w5,rfl⟩:=amz O.S.F.len
 simp at hw0
 simp
 have O1:Sg p nx e (gnF 0 0) [I 4,w1,w2,w3,w4,w5] gnZ m h nx _ aY:=O.Dq (i:=0) rfl (v:=I 4) (ok_int (by omega) (by omega))
 simp at O1
 simp[zP,f6,O.S.g]
 simp[zQ,f0,q4]
 refine(iR S O1.S.P 1).mono ?_
 rintro o h3 dw ⟨⟨l3,m3,rfl,o3,P3,Lj⟩,k3⟩
 obtain⟨k',a',n',tn,tc,rfl,VE,hs⟩:=I4 o3
 have O3:=O1.call P3 k3
 have O4:Sg p nx e (gnF 0 0) [I 4,.str tn tc,w2,w3,w4,w5] gnZ m3 h nx _ dw:=O3.Dq (i:=1) rfl (v:=.str tn tc) hs
 simp at O4
 simp[f6,O3.S.g]
 simp[zR,f0,q3]
 refine(bC S O4.S.P _ _).mono ?_
 rintro o h5 iW ⟨⟨m5,rfl,P5,Oy⟩,k5⟩
 have O5:=O4.call P5 k5
 simp
 simp[zS,f0,q1]
 refine(eK S P5 _ _).mono ?_
 rintro o h6 IC ⟨⟨t,m6,rfl,P6,Wn⟩,k6⟩
 have O6:=O5.call P6 k6
 have aMW:m6≤m5:=by cases t<;>simp at Wn<;>omega
 simp
 refine W.bV (n:=m6) (akX p e m6 h nx) ?_ ?_
 ·exact⟨_,0,0,!t,by simp[f0],by simp[f2],by simp[f6],by simp,O6,by simp;omega⟩
 rintro k tm7 h7 tZ ⟨cs,n1,n,t,f0,f2,f6,f8,O7,hn⟩
 refine W.of ?_
 obtain⟨x1,x2,x3,gb⟩:=O7.S.P.bad
 obtain⟨w0,w1,w2,w3,w4,w5,rfl⟩:=amz O7.S.F.len
 simp at hn
 have fin:∀ Wt:T AV,aa (K 2) Wt=some (.ptr nx 0)→aa (K 6) Wt=some (.ptr e 0)→bt C ((U.ops sY).seq U.ret) (ak (bt C P0 (aN [RV.cell (K 2) true 6] (mf RZ p M h nx))) (aN [RV.cell (K 2) true 6] (mf RZ p M h nx))) Wt h7 tZ:=by
  intro Wt e2 e6
  have hcb:=O7.S.F.aU
  simp at hcb
  simp
  simp[sY,e2,e6,O7.S.g,O7.g,hcb]
  exact O7.ret rfl (by simp;omega) (by simp;omega) 9997
 simp[Cm]
 cases t with
 |false=>
  simp[sX,f8]
  simpa using fin _ (by simp[f2]) (by simp[f6])
 |true=>
 by_cases Rz:k=0
 ·subst Rz
  simp at gb
  simp[sX,f0,f8,gb]
  simpa using fin _ (by simp[f2]) (by simp[f6])
 simp[sX,f0,f8,gb,Rz]
 simp[J7,f0,f6,O7.S.g,q6]
 refine(hG k (by omega) O7.S.P).mono ?_
 rintro o h8 Bs ⟨⟨l8,m8,rfl,o8,P8,hm8⟩,k8⟩
 have O8:=O7.call P8 k8
 have e8:l8.length=6:=o8.len
 have c8:l8.all AV.aD=true:=mi.2 o8.aU
 have hz:∀ n H,az (ax n) l8 H=(l8,H):=fun n H=>av o8.bY
 have O9:=O8.xE (.cells l8 .fix)
 obtain⟨c4,d4,hA,nxA,e4,b4,a4,x4,y4,gA,OA⟩:=O9.app (i:=4) rfl (by decide) (r:=l8) o8 (by omega)
 simp at e4
 subst e4
 have a4:appendTo 6 w4 l8 1 _ _=_:=a4
 simp at OA
 simp[-appendTo,f6,O8.S.g,b4,a4,x4,y4,gA,e8,hz,sh e8]
 simp[J8,f0,q1]
 refine(eK S OA.S.P _ _).mono ?_
 rintro o hB nxB ⟨⟨t,mB,rfl,PB,hmB⟩,kB⟩
 have OB:=OA.call PB kB
 cases t with
 |true=>
  simp at hmB
  simp
  simp[zT]
  refine⟨mB,by omega,?_⟩
  unfold akX
  exact⟨_,_,_,true,by simp[f0],by simp[f2],by simp[f6],by simp,OB,by simp;omega⟩
 |false=>
  simp at hmB
  subst mB
  simp
  simp[zT]
  simp[J9,f0,q3]
  refine(bC S PB _ _).mono ?_
  rintro o hC nxC ⟨⟨mC,rfl,PC,hmC⟩,kC⟩
  have OC:=OB.call PC kC
  simp
  refine⟨mC,by omega,?_⟩
  unfold akX
  exact⟨_,_,_,false,by simp[f0],by simp[f2],by simp[f6],by simp,OC,by simp;omega⟩
def apj(p e:Key)(M:Nat)(h:T ab)(nx:Key)(k:Nat)(tm':T AV)(h':T ab)(nx':Key):Prop:=
 ∃ (cs:List AV) (n1 n:Nat) (t:Bool),aa (K 0) tm'=some (.ptr p 0)∧aa (K 2) tm'=some (.ptr nx 0)∧aa (K 6) tm'=some (.ptr e 0)∧aa (K 7) tm'=some (.bool t)∧Sg p nx e (gnF n1 n) cs gnZ k h nx h' nx'∧wF (gnF n1 n) cs+8*k≤8*M
theorem akY{M:Nat}{tm:T AV}(hG:∀ m',m'≤m→YH C m')(O:Sg p nx e (gnF 0 0) cs gnZ m h nx h1 aY)(hw0:wF (gnF 0 0) cs=0)(hm:m≤9000)(hM:m<M∨m=0)(f0:aa (K 0) tm=some (.ptr p 0))(f2:aa (K 2) tm=some (.ptr nx 0))(f6:aa (K 6) tm=some (.ptr e 0)){P0:U} :
  bt C ((U.ops zN).seq ((U.ops zO).seq ((U.block 0 Cl.loop).seq ((U.ops sU).seq ((U.ops sW).seq .ret))))) (ak (bt C P0 (aN [RV.cell (K 2) true 6] (mf RZ p M h nx))) (aN [RV.cell (K 2) true 6] (mf RZ p M h nx))) tm h1 aY:=by
 have q1:=S.bD
 have q3:=S.bg
 have q4:=S.bJ
 have q6:=S.pJ
 simp
 simp[zN,f0,q3]
 refine(bC S O.S.P _ _).mono ?_
 rintro o h5 iW ⟨⟨m5,rfl,P5,Oy⟩,k5⟩
 have O5:=O.call P5 k5
 simp
 simp[zO]
 refine W.bV (n:=m5) (apj p e m5 h nx) ?_ ?_
 ·exact⟨_,0,0,true,by simp[f0],by simp[f2],by simp[f6],by simp,O5,by omega⟩
 rintro k tm7 h7 tZ ⟨cs,n1,n,t,f0,f2,f6,f8,O7,hn⟩
 refine W.of ?_
 obtain⟨x1,x2,x3,gb⟩:=O7.S.P.bad
 obtain⟨w0,w1,w2,w3,w4,w5,rfl⟩:=amz O7.S.F.len
 simp at hn
 have fin:∀ Wt:T AV,aa (K 0) Wt=some (.ptr p 0)→aa (K 2) Wt=some (.ptr nx 0)→aa (K 6) Wt=some (.ptr e 0)→bt C ((U.ops sU).seq ((U.ops sW).seq U.ret)) (ak (bt C P0 (aN [RV.cell (K 2) true 6] (mf RZ p M h nx))) (aN [RV.cell (K 2) true 6] (mf RZ p M h nx))) Wt h7 tZ:=by
  intro Wt e0 e2 e6
  simp
  simp[sU,e0,q3]
  refine(bC S O7.S.P _ _).mono ?_
  rintro o h8 Bs ⟨⟨m8,rfl,P8,hm8⟩,k8⟩
  have O8:=O7.call P8 k8
  have hcb:=O8.S.F.aU
  simp at hcb
  simp
  simp[sW,e2,e6,O8.S.g,O8.g,hcb]
  exact O8.ret rfl (by simp;omega) (by simp;omega) 9997
 simp[Cl]
 cases t with
 |false=>
  simp[sT,f8]
  simpa using fin _ (by simp[f0]) (by simp[f2]) (by simp[f6])
 |true=>
 by_cases Rz:k=0
 ·subst Rz
  simp at gb
  simp[sT,f0,f8,gb]
  simpa using fin _ (by simp[f0]) (by simp[f2]) (by simp[f6])
 simp[sT,f0,f8,gb,Rz]
 simp[J2,f0,f6,O7.S.g,q4]
 refine(iR S O7.S.P 2).mono ?_
 rintro o h8 Bs ⟨⟨l8,m8,rfl,o8,P8,hm8⟩,k8⟩
 obtain⟨k',a',n',tn,tc,rfl,VE,hs⟩:=I4 o8
 have O8:=O7.call P8 k8
 have O9:=O8.xE (.cells [I n'] .fix)
 obtain⟨c2,d2,hA,nxA,e2,b2,a2,x2,y2,gA,OA⟩:=O9.app (i:=2) rfl (by decide) (r:=[I n']) (.c VE .nil) (by omega)
 simp at e2
 subst e2
 have a2:appendTo 1 w2 [I n'] 1 _ _=_:=a2
 simp at OA
 simp[-appendTo,f6,O8.S.g,b2,a2,x2,y2,gA]
 simp[J3,f0,q3]
 refine(bC S OA.S.P _ _).mono ?_
 rintro o hB nxB ⟨⟨mB,rfl,PB,hmB⟩,kB⟩
 have OB:=OA.call PB kB
 simp
 simp[J4,f0,f6,OB.S.g,q6]
 refine(hG mB (by omega) PB).mono ?_
 rintro o hC nxC ⟨⟨lC,mC,rfl,oC,PC,hmC⟩,kC⟩
 have OC:=OB.call PC kC
 have eC:lC.length=6:=oC.len
 have cC:lC.all AV.aD=true:=mi.2 oC.aU
 have hz:∀ n H,az (ax n) lC H=(lC,H):=fun n H=>av oC.bY
 have OD:=OC.xE (.cells lC .fix)
 obtain⟨c4,d4,hE,nxE,e4,b4,a4,x4,y4,gE,OE⟩:=OD.app (i:=4) rfl (by decide) (r:=lC) oC (by omega)
 simp at e4
 subst e4
 have a4:appendTo 6 w4 lC 1 _ _=_:=a4
 simp at OE
 simp[-appendTo,f6,OC.S.g,b4,a4,x4,y4,gE,eC,hz,sh eC]
 simp[J5,f0,q1]
 refine(eK S OE.S.P _ _).mono ?_
 rintro o hG' nxG ⟨⟨t,mG,rfl,PG,hmG⟩,kG⟩
 have OG:=OE.call PG kG
 have aGb:mG≤mC:=by cases t<;>simp at hmG<;>omega
 simp
 refine⟨mG,by omega,?_⟩
 unfold apj
 exact⟨_,_,_,t,by simp[f0],by simp[f2],by simp[f6],by simp,OG,by simp;omega⟩
end Tb
/-
 SP: the reference's parser: generators. No condition.
-/
namespace Tb
open Go.Sx Go
variable{C:cU}(S:dd C)
include S
theorem asA{m:Nat}(hm:m≤9000)(hG:∀ m',m'<m→YH C m')(hQ:∀ m',m'<m→YI C m'):YI C m:=by
 intro p h nx P
 have q1:=S.bD
 have q2:=S.cH
 have q3:=S.bg
 have q5:=S.ji
 have q6:=S.Wd
 have q7:=S.Q3
 have q8:=S.pJ
 have hpn:=P.hi
 have sn:=kTSu nx
 refine S.ZA.call ?_
 simp[DU]
 simp[Nu]
 have O0:=Ow.new P gnZ
 simp[Nv,q5]
 refine(Yo S O0).mono ?_
 rintro o h1 aY ⟨at',rfl,yw,O1⟩
 simp
 simp[Nx,q1]
 refine(qC S O1 _ _).mono ?_
 rintro o h2 aH ⟨t,m2,rfl,O2,Cr⟩
 cases t with
 |true=>
  simp at Cr
  simp
  simp[Ny,q2]
  refine(Ue (vJ S (by omega)) O2).mono ?_
  rintro o h3 dw ⟨m3,l3,rfl,o3,e3,O3,Lj⟩
  have Q8:=O3.xE (.cells l3 .fix)
  have R8:=O3.more (B':=l3)
  have eM:dw≠nx:=aG (by have:=O3.hi;omega)
  simp[e3,Q8.g]
  exact Q8.ae1 (f:=fun c=>[I 0,.str 0 0,.nils,c,.nils,I at']) R8 eM (by simp[e3]) o3.bY (ab2 (by omega) (by omega) ID (.nil _) (ok_one rfl o3) (.nil _) yw) (by simp;omega)
 |false=>
 simp at Cr
 subst m2
 simp
 simp[Nz,q1]
 refine(qC S O2 _ _).mono ?_
 rintro o h3 dw ⟨t,m3,rfl,O3,Lj⟩
 cases t with
 |true=>
  simp at Lj
  simp
  simp[NC,q6]
  refine(adl S O3.P (by omega)).mono ?_
  rintro o h4 jq ⟨⟨c,m4,rfl,oc,P4,Oj⟩,k4⟩
  have O4:=O3.call P4 k4
  have hz:∀ n H,ax n c H=(c,H):=oc.jh
  simp[O4.g,oc.cells,oc.cell,hz]
  exact(O4.yx _).ret (ab2 (by omega) (by omega) ID (.nil _) oc (.nil _) yw) (by simp;omega)
 |false=>
 simp at Lj
 subst m3
 simp
 simp[NI,q1]
 refine(qC S O3 _ _).mono ?_
 rintro o h4 jq ⟨t,m4,rfl,O4,Oj⟩
 cases t with
 |true=>
  simp at Oj
  simp
  simp[NJ,q6]
  refine(adl S O4.P (by omega)).mono ?_
  rintro o h5 iW ⟨⟨c,m5,rfl,oc,P5,Oy⟩,k5⟩
  have O5:=O4.call P5 k5
  have hz:∀ n H,ax n c H=(c,H):=oc.jh
  have s5:=kTSu iW
  have i5:=O5.hi
  have N5:=O5.more (B':=[I 3,.str 0 0,.nils,c,.nils,I at'])
  have O6:=O5.xE (.cells [I 3,.str 0 0,.nils,c,.nils,I at'] .fix)
  simp[oc.cells,oc.cell]
  simp[NK,q3]
  refine(bC S O6.P _ _).mono ?_
  rintro o h7 tZ ⟨⟨m7,rfl,P7,Z8⟩,k7⟩
  have N7:=N5.call P7 k7
  have O7:=O6.call P7 k7
  simp
  simp[NL,q7]
  refine(hQ m7 (by omega) P7).mono ?_
  rintro o h8 Bs ⟨⟨l8,m8,rfl,o8,P8,hm8⟩,k8⟩
  have e8:l8.length=6:=o8.len
  have N8:=N7.call P8 k8
  have O8:=O7.call P8 k8
  have n7:=k7.n
  have n8:=k8.n
  have s8:=kTSu Bs
  have g8:aa iW (aK Bs (some (.cells l8 .fix)) h8)=some (.cells [I 3,.str 0 0,.nils,c,.nils,I at'] .fix):=by rw[bA (by omega)];exact N8.g
  have Q8:=O8.xE (.cells l8 .fix)
  have R8:=O8.more (B':=l8)
  have h58:iW≠nx:=aG (by omega)
  have h85:Bs≠iW:=aG (by omega)
  have eM:Bs≠nx:=aG (by omega)
  have Q9:Ow p nx gnZ m8 h nx (aK iW (some (.cells [I 3,.str 0 0,.nils,c,.slice Bs 0 1 6,I at'] .fix)) (aK Bs (some (.cells l8 .fix)) h8)) Bs.succ:=
   ⟨Q8.P.put N8.ne,by rw[bU _ _ _ _ (Ne.symm h58)];exact Q8.g,Q8.k.put N8.lo,Q8.lo,Q8.hi,Q8.ne⟩
  have R9:Ow p Bs l8 m8 h nx (aK iW (some (.cells [I 3,.str 0 0,.nils,c,.slice Bs 0 1 6,I at'] .fix)) (aK Bs (some (.cells l8 .fix)) h8)) Bs.succ:=
   ⟨Q8.P.put N8.ne,by rw[bU _ _ _ _ h85];exact R8.g,Q8.k.put N8.lo,R8.lo,R8.hi,R8.ne⟩
  simp[e8,g8]
  simp[JV,oc.cell,Q9.g,hz]
  exact Q9.ae1 (f:=fun x=>[I 3,.str 0 0,.nils,c,x,I at']) R9 eM (by simp[e8]) o8.bY (ab2 (by omega) (by omega) ID (.nil _) oc (ok_one rfl o8) yw) (by simp;omega)
 |false=>
 simp at Oj
 subst m4
 simp
 simp[JW,q1]
 refine(qC S O4 _ _).mono ?_
 rintro o h5 iW ⟨t,m5,rfl,O5,Oy⟩
 cases t with
 |true=>
  simp at Oy
  simp
  simp[JX,q8]
  refine(hG m5 Oy.1 O5.P).mono ?_
  rintro o h6 IC ⟨⟨l,m6,rfl,ol,P6,Wn⟩,k6⟩
  have O6:=O5.call P6 k6
  have hl:l.length=6:=ol.len
  have OT:l.all AV.aD=true:=mi.2 ol.aU
  have N6:=O6.more (B':=l)
  have O7:=O6.xE (.cells l .fix)
  simp[hl,OT]
  simp[JY,q3]
  refine(bC S O7.P _ _).mono ?_
  rintro o h7 tZ ⟨⟨m7,rfl,P7,Z8⟩,k7⟩
  have N7:=N6.call P7 k7
  have O8:=O7.call P7 k7
  have hz:∀ n H,az (ax n) l H=(l,H):=fun n H=>av ol.bY
  simp
  simp[JZ,N7.g,hl,sh hl,O8.g,OT,hz]
  exact(O8.yx _).ret ol (by omega)
 |false=>
 simp at Oy
 subst m5
 have s5:=kTSu iW
 have i5:=O5.hi
 have N5:=O5.more (B':=[I 2,.str 0 0,.nils,.nils,.nils,I at'])
 have O6:=O5.xE (.cells [I 2,.str 0 0,.nils,.nils,.nils,I at'] .fix)
 have hnl:∀ b,¬ rk .nils b:=fun b hb=>by rcases hb with⟨_,_,e⟩|⟨_,_,_,e⟩<;>cases e
 have G6:Sg p nx iW (gnF 0 0) [I 2,.str 0 0,.nils,.nils,.nils,I at'] gnZ m h nx (aK iW (some (.cells [I 2,.str 0 0,.nils,.nils,.nils,I at'] .fix)) h5) iW.succ:=by
  refine⟨⟨O6.P,N5.g,?_,O6.k,hpn,N5.lo,N5.hi,fun h2=>h2.2.2 rfl,fun b hb=>hb.1,fun b hb=>⟨by omega,aG (by omega),aG (by omega)⟩⟩,O6.g,bS _,O6.hi,aG (by omega)⟩
  exact .d _ _ _ _ (ok_int (by omega) (by omega)) (.d _ _ _ _ ID (.g _ _ _ _ _ (Gx.nil _ _ _ _) (fun b hb=>absurd hb (hnl b)) (.d _ _ _ _ (.nil _) (.g _ _ _ _ _ (Gx.nil _ _ _ _) (fun b hb=>absurd hb (hnl b)) (.d _ _ _ _ yw .nil)))))
 simp
 simp[J0]
 simp[J1,q1]
 refine(eK S G6.S.P _ _).mono ?_
 rintro o h7 tZ ⟨⟨t,m7,rfl,P7,Z8⟩,k7⟩
 have G7:=G6.call P7 k7
 cases t with
 |true=>
  simp at Z8
  simp
  have key:=fun tm P0 f0 f2 f6=>akY S (M:=m) (P0:=P0) (tm:=tm) (fun m' h=>hG m' (by omega)) G7 (by simp) (by omega) (by omega) f0 f2 f6
  simp at key
  refine key _ _ ?_ ?_ ?_
  ·simp
  ·simp
  ·simp
 |false=>
 simp at Z8
 subst m7
 simp
 simp[J6,q1]
 refine(eK S G7.S.P _ _).mono ?_
 rintro o h8 Bs ⟨⟨t,m8,rfl,P8,hm8⟩,k8⟩
 have G8:=G7.call P8 k8
 cases t with
 |true=>
  simp at hm8
  simp
  have key:=fun tm P0 f0 f2 f6=>aiG S (M:=m) (P0:=P0) (tm:=tm) (fun m' h=>hG m' (by omega)) G8 (by simp) (by omega) (by omega) f0 f2 f6
  simp at key
  refine key _ _ ?_ ?_ ?_
  ·simp
  ·simp
  ·simp
 |false=>
 simp at hm8
 subst m8
 simp
 have key:=fun tm f0 f2 f6=>aif S (M:=m) (tm:=tm) G8 (by simp) (by omega) (by omega) f0 f2 f6
 simp at key
 refine key _ ?_ ?_ ?_
 ·simp
 ·simp
 ·simp
end Tb
/-
 SP: the reference's parser: generators. No condition.
-/
namespace Tb
open Go.Sx Go
variable{C:cU}(S:dd C)
include S
def apw(p rb e:Key)(at':Int)(M0 M:Nat)(h:T ab)(nx:Key)(k:Nat)(tm':T AV)(h':T ab)(nx':Key):Prop:=
 ∃ (cs:List AV) (d w:Nat),Rl M0 k w∧aa (K 0) tm'=some (.ptr p 0)∧aa (K 2) tm'=some (.ptr rb 0)∧aa (K 3) tm'=some (I at')∧aa (K 6) tm'=some (.ptr e 0)∧
  Ow p rb gnZ k h nx h' nx'∧aa e h'=some (.cells cs .fix)∧TL W0 h' (Lv nx rb e nx') d w RZ cs∧d+k≤M∧nx.toNat≤e.toNat∧e.toNat<nx'.toNat∧e≠rb∧e≠p
theorem agj{m:Nat}(hm:m≤8000)(hG:∀ m',m'<m→YH C m')(hQ:YI C m):YH C m:=by
 intro p h nx P
 have q1:=S.bD
 have q2:=S.cH
 have q3:=S.bg
 have q4:=S.bJ
 have q5:=S.ji
 have q7:=S.Q3
 have q8:=S.pJ
 have hpn:=P.hi
 have sn:=kTSu nx
 refine S.aaL.call ?_
 simp[Hw]
 simp[Qh]
 have O0:=Ow.new P gnZ
 simp[Qi,q5]
 refine(Yo S O0).mono ?_
 rintro o h1 aY ⟨at',rfl,yw,O1⟩
 simp
 simp[Qj,q1]
 refine(qC S O1 _ _).mono ?_
 rintro o h2 aH ⟨t,m2,rfl,O2,Cr⟩
 cases t with
 |true=>
  simp at Cr
  simp
  simp[Qk,q4]
  refine(IE S O2 0).mono ?_
  rintro o h4 jq ⟨m4,k',a',n',tn,tc,rfl,O4,hn,hs,Oj⟩
  simp
  simp[Ql,q3]
  refine(agC S O4 _ _).mono ?_
  rintro o h5 iW ⟨m5,rfl,O5,Oy⟩
  simp
  simp[Qm,q8]
  refine(hG m5 (by omega) O5.P).mono ?_
  rintro o h6 IC ⟨⟨l6,m6,rfl,o6,P6,Wn⟩,k6⟩
  have O6:=O5.call P6 k6
  have e6:l6.length=6:=o6.len
  have c6:l6.all AV.aD=true:=mi.2 o6.aU
  have N6:=O6.more (B':=l6)
  have O7:=O6.xE (.cells l6 .fix)
  simp[e6,c6]
  simp[Qn,q3]
  refine(bC S O7.P _ _).mono ?_
  rintro o h7 tZ ⟨⟨m7,rfl,P7,Z8⟩,k7⟩
  have N7:=N6.call P7 k7
  have O8:=O7.call P7 k7
  simp
  simp[Qo,N7.g,e6,sh e6,q8]
  refine(hG m7 (by omega) P7).mono ?_
  rintro o h8 Bs ⟨⟨l8,m8,rfl,o8,P8,hm8⟩,k8⟩
  have e8:l8.length=6:=o8.len
  have N8:=N7.call P8 k8
  have O9:=O8.call P8 k8
  have hl6:AV.kP l6=true:=o6.lits
  have Q8:=O9.xE (.cells (l6++l8) .fix)
  have R8:=O9.more (B':=l6++l8)
  simp[N8.g,e6,e8,Q8.g,zqw,zqq,sh e6,dpn e6]
  have eM:Bs≠nx:=aG (by have:=O9.hi;omega)
  refine⟨beq_refl _ (by simpa[AV.lits] using hl6),?_⟩
  exact Q8.ae1 (f:=fun c=>[I 5,.str tn tc,.nils,.nils,c,I at']) R8 eM (by simp[e6,e8]) (Di o6.bY o8.bY) (ab2 (by omega) (by omega) hs (.nil _) (.nil _) (ok_two rfl o6 o8) yw) (by simp;omega)
 |false=>
 simp at Cr
 subst m2
 simp
 simp[Qp,q7]
 refine(hQ O2.P).mono ?_
 rintro o h3 dw ⟨⟨l3,m3,rfl,o3,P3,Lj⟩,k3⟩
 have O3:=O2.call P3 k3
 have e3:l3.length=6:=o3.len
 have c3:l3.all AV.aD=true:=mi.2 o3.aU
 have N3:=O3.more (B':=l3)
 have O4:=O3.xE (.cells l3 .fix)
 have i3:=O3.hi
 have s3:=kTSu dw
 simp[e3,c3]
 generalize he:dw=e at N3 O4
 refine W.bV (n:=m3) (apw p nx e at' m m3 h nx) ?_ ?_
 ·exact⟨l3,0,AV.iN l3,Lj,by simp,by simp,by simp,by simp,O4,N3.g,o3.da 0,by omega,N3.lo,N3.hi,by rw[← he];exact aG (by omega),N3.ne⟩
 rintro k Wt h5 iW ⟨cs,d,w,hw5,f0,f2,f3,f6,O5,g5,D5,hd,elo,ehi,erb,ep⟩
 refine W.of ?_
 have OT:cs.length=6:=by
  have:∀ {d w:Nat} {ts:List CT} {cs:List AV},TL W0 h5 (Lv nx nx e iW) d w ts cs→cs.length=ts.length:=fun h=>h.len
  exact this D5
 simp[Qr]
 simp[Qq,f0,q1]
 refine(eK S O5.P _ _).mono ?_
 rintro o h6 IC ⟨⟨t,m6,rfl,P6,Wn⟩,k6⟩
 have O6:=O5.call P6 k6
 have n6:=k6.n
 have g6:aa e h6=some (.cells cs .fix):=bH k6 ehi ep g5
 have D6:TL W0 h6 (Lv nx nx e IC) d w RZ cs:=D5.stay fun b l kk hA hb _=>⟨by rw[k6.g b hA.2.1 (aG (by have:=hA.1;omega))];exact hb,hA.1,by have:=hA.2.1;omega,hA.2.2.1,hA.2.2.2⟩
 cases t with
 |false=>
  simp at Wn
  subst m6
  have ON:cs.all AV.aD=true:=mi.2 D6.aU
  simp
  simp[No,f6,f2,g6,OT,sh OT,ON,O6.g]
  have D7:TL W0 (aK nx (some (.cells cs .fix)) h6) (Lv nx nx e IC) d w RZ cs:=D6.stay fun b l kk hA hb _=>⟨by rw[bU _ _ _ _ hA.2.2.1];exact hb,hA⟩
  obtain⟨a1,aw,_,a3,_⟩:=D7.Uf 9998 (by omega) _ (Rf.refl _)
  have O7:=O6.yx cs
  have P7:=O7.P
  obtain⟨sn,sc,c0,rs,j,bad,b1,b2⟩:=P7.at_
  refine⟨⟨_,k,rfl,a1,⟨P7.hi,sn,sc,c0,rs,j,bad,by rw[a3 p (fun hA=>by have:=hA.1;omega)];exact b1,b2⟩,by rw[aw];exact hw5⟩,O7.k.n,fun x hx hxp=>?_⟩
  rw[a3 x (fun hA=>by have:=hA.1;omega)]
  exact O7.k.g x hx hxp
 |true=>
 simp at Wn
 simp
 simp[Nk,f0,q4]
 refine(iR S O6.P 0).mono ?_
 rintro o h7 tZ ⟨⟨l7,m7,rfl,o7,P7,Z8⟩,k7⟩
 obtain⟨k',a',n',tn,tc,rfl,hn,hs⟩:=I4 o7
 have O7:=O6.call P7 k7
 have n7:=k7.n
 simp
 simp[Nl,f0,q3]
 refine(bC S P7 _ _).mono ?_
 rintro o h8 Bs ⟨⟨m8,rfl,P8,hm8⟩,k8⟩
 have O8:=O7.call P8 k8
 have n8:=k8.n
 have s8:=kTSu Bs
 have g8:aa e h8=some (.cells cs .fix):=bH k8 (by omega) ep (bH k7 (by omega) ep g6)
 simp
 simp[Nn,f0,f3,f6,g8,OT,sh OT,q2]
 refine(vJ S (by omega) (P8.up (by omega))).mono ?_
 rintro o h9 Iy ⟨⟨l9,m9,rfl,o9,P9,hm9⟩,k9⟩
 have e9:l9.length=7:=o9.len
 have n9:=k9.n
 have s9:=kTSu Iy
 have hln:AV.kP cs=true:=D5.lits
 have g9:aa e h9=some (.cells cs .fix):=bH k9 (by omega) ep g8
 have e89:Bs≠Iy:=aG (by omega)
 have gE:aa e (aK Bs (some (.cells cs .fix)) (aK Iy (some (.cells l9 .fix)) h9))=some (.cells cs .fix):=by
  rw[bA (by omega),bA (by omega)];exact g9
 simp[f6,g9,gE,OT,sh OT,dpn OT,e9]
 refine⟨beq_refl _ (by simpa[AV.lits] using hln),m9,by omega,?_⟩
 obtain⟨H,hH⟩:∃ H,H=aK e (some (.cells [I 6,.str tn tc,.nils,.slice Iy 0 1 7,.slice Bs 0 1 6,I at'] .fix)) (aK Bs (some (.cells cs .fix)) (aK Iy (some (.cells l9 .fix)) h9)):=⟨_,rfl⟩
 have hi8:=O8.hi
 have lo8:=O8.k.n
 have Bx:∀ (b:Key),nx.toNat≤b.toNat→b.toNat<IC.toNat→b≠e→aa b H=aa b h6:=by
  intro x h1 h2 h3
  rw[hH,bU _ _ _ _ h3,bA (by omega),bA (by omega),k9.g x (by omega) (aG (by omega)),k8.g x (by omega) (aG (by omega)),k7.g x h2 (aG (by omega))]
 have D8:TL W0 H (Lv nx nx e Iy.succ) d w RZ cs:=D6.stay fun b l kk hA hb _=>⟨by rw[Bx b hA.1 hA.2.1 hA.2.2.2];exact hb,hA.1,by have:=hA.2.1;omega,hA.2.2.1,hA.2.2.2⟩
 have gq8:aa Bs H=some (.cells cs .fix):=by rw[hH,bU _ _ _ _ (aG (by omega)),gTSm]
 have gq9:aa Iy H=some (.cells l9 .fix):=by rw[hH,bU _ _ _ _ (aG (by omega)),bU _ _ _ _ (Ne.symm e89),gTSm]
 have DK:DaC W0 H (Lv nx nx e Iy.succ) (d+1) (1+(w+0)) (.sl 5) (.slice Bs 0 1 6):=
  DaC.sl d (w+0) 5 Bs [cs] .fix (by rw[gq8];simp) (.inl rfl) ⟨by omega,by omega,aG (by omega),aG (by omega)⟩ (by simp) (.cons _ _ _ _ _ _ D8 (.nil _ _))
 have DX:DaC W0 H (Lv nx nx e Iy.succ) (d+1) (1+(AV.iN l9+0)) (.sl 4) (.slice Iy 0 1 7):=
  DaC.sl d (AV.iN l9+0) 4 Iy [l9] .fix (by rw[gq9];simp) (.inl rfl) ⟨by omega,by omega,aG (by omega),aG (by omega)⟩ (by simp) (.cons _ _ _ _ _ _ (o9.da d) (.nil _ _))
 have DE:TL W0 H (Lv nx nx e Iy.succ) (d+1) (0+(0+(0+(1+(AV.iN l9+0)+(1+(w+0)+(0+0)))))) RZ [I 6,.str tn tc,.nils,.slice Iy 0 1 7,.slice Bs 0 1 6,I at']:=
  .cons _ _ _ _ _ _ _ (.ok _ _ _ _ (ok_int (by omega) (by omega)) (by simp)) (.cons _ _ _ _ _ _ _ (.ok _ _ _ _ hs (by simp)) (.cons _ _ _ _ _ _ _ (.ok _ _ _ _ (.nil _) (by simp)) (.cons _ _ _ _ _ _ _ DX (.cons _ _ _ _ _ _ _ DK (.cons _ _ _ _ _ _ _ (.ok _ _ _ _ yw (by simp)) (.nil _))))))
 have g8r:aa nx h9=some (.cells gnZ .fix):=bH k9 (by omega) (aG (by omega)) O8.g
 have hKs:Ks p h nx h9 Iy:=(O8.k.up (by omega:Bs.toNat≤Bs.succ.toNat)).trans k9
 have OE:Ow p nx gnZ m9 h nx H Iy.succ:=by
  rw[hH]
  refine⟨(((P9.up (by omega)).put (aG (by have:=P9.hi;omega))).put (aG (by omega))).put ep,?_,((((hKs.up (by omega:Iy.toNat≤Iy.succ.toNat)).put (by omega)).put (by omega)).put elo),bS _,by omega,aG (by omega)⟩
  rw[bU _ _ _ _ (Ne.symm erb),bA (by omega),bA (by omega)];exact g8r
 have gH:aa e H=some (.cells [I 6,.str tn tc,.nils,.slice Iy 0 1 7,.slice Bs 0 1 6,I at'] .fix):=by rw[hH,gTSm]
 rw[← hH]
 unfold apw
 refine⟨_,d+1,_,by omega,?_,?_,?_,?_,OE,gH,DE,by omega,elo,by omega,erb,ep⟩
 ·simp[f0]
 ·simp[f2]
 ·simp[f3]
 ·simp[f6]
theorem anU:∀ m:Nat,m≤8000→YH C m∧YI C m:=by
 intro m
 induction m using Nat.strongRecOn with
 |ind m ih=>
 intro hm
 have hQ:YI C m:=asA S (by omega) (fun m' h=>(ih m' h (by omega)).1) (fun m' h=>(ih m' h (by omega)).2)
 exact⟨agj S hm (fun m' h=>(ih m' h (by omega)).1) hQ,hQ⟩
theorem aoz{m:Nat}(hm:m≤8000):YH C m:=(anU S m hm).1
end Tb
/-
 SP: the reference's parser: parameters, draws. No condition.
-/
namespace Tb
open Go.Sx Go
theorem aBf{cs:List AV}(h:cs.length=3):∃ a b c,cs=[a,b,c]:=by
 match cs,h with
 | [a,b,c],_=>exact⟨a,b,c,rfl⟩
theorem ty3{l:List AV}(h:cJ W0 YG l):∃ a b c,l=[a,b,c]∧dg W0 .int a∧dg W0 .str b∧dg W0 (.sl 3) c:=by
 cases h with
 |cons _ _ c1 _ h1 h=>
  cases h with
  |cons _ _ c2 _ h2 h=>
   cases h with
   |cons _ _ c3 _ h3 h=>cases h;exact⟨_,_,_,rfl,h1,h2,h3⟩
theorem gn6{l:List AV}(h:cJ W0 RZ l):∃ a b c d e f,l=[a,b,c,d,e,f]∧dg W0 .int a∧dg W0 .str b∧dg W0 (.sl 1) c∧dg W0 (.sl 4) d∧dg W0 (.sl 5) e∧dg W0 .int f:=by
 cases h with
 |cons _ _ c1 _ h1 h=>
  cases h with
  |cons _ _ c2 _ h2 h=>
   cases h with
   |cons _ _ c3 _ h3 h=>
    cases h with
    |cons _ _ c4 _ h4 h=>
     cases h with
     |cons _ _ c5 _ h5 h=>
      cases h with
      |cons _ _ c6 _ h6 h=>cases h;exact⟨_,_,_,_,_,_,rfl,h1,h2,h3,h4,h5,h6⟩
theorem Gw.more{k z:Nat}{c:AV}{len m:Nat}{p n0:Key}{h h0:T ab}{nx:Key}{l:List AV}(hz:(W0 k).length=z)(g:Gw W0 k c len h nx n0)(P:PP p m h nx)(K:Ks p h0 n0 h nx)(hp:p.toNat<n0.toNat)(ol:cJ W0 (W0 k) l)(hl:len+1≤1048576) :
  ∃ c' h' nx',appendTo z c l 1 (aK nx (some (.cells l .fix)) h) nx.succ=.val c' h' nx'∧Gw W0 k c' (len+1+AV.iN l) h' nx' n0∧PP p m h' nx'∧Ks p h0 n0 h' nx'∧Lo n0 h h'∧nx.toNat≤nx'.toNat:=by
 subst hz
 have s3:=kTSu nx
 have kn:=K.n
 obtain⟨c4,h4,jq,a1,g4,n4,l4,_⟩:=(g.ext (E0 h nx (.cells l .fix))).add (by omega) ol hl
 have h3p:nx≠p:=aG (by have:=P.hi;omega)
 refine⟨c4,h4,jq,a1,g4,((P.up (by omega)).put (B:=some (.cells l .fix)) h3p).lo l4 hp n4,(K.new (B:=.cells l .fix)).lo l4 (bS _) n4,fun b hb=>by rw[l4 b hb,bA (by omega)],by omega⟩
variable{C:cU}(S:dd C)
include S
def apE(p:Key)(M:Nat)(h:T ab)(nx:Key)(k:Nat)(tm':T AV)(h':T ab)(nx':Key):Prop:=
 ∃ (c:AV) (len:Nat) (t:Bool),aa (K 0) tm'=some (.ptr p 0)∧aa (K 3) tm'=some c∧aa (K 4) tm'=some (.bool t)∧Gw W0 6 c len h' nx' nx∧PP p k h' nx'∧len+8*k≤8*M∧Ks p h nx h' nx'
theorem adW{p:Key}{m:Nat}{h:T ab}{nx:Key}(P:PP p m h nx)(hm:m≤8000):aO C mW [.ptr p 0] h nx (jF 6 p m h nx):=by
 have q1:=S.bD
 have q3:=S.bg
 have q4:=S.bJ
 have q5:=S.pI
 refine S.Wk.call ?_
 simp[wS]
 simp[Hl]
 simp[Hm,q3]
 refine(bC S P _ _).mono ?_
 rintro o h1 aY ⟨⟨m1,rfl,P1,hm1⟩,k1⟩
 simp
 simp[Hn,q1]
 refine(eK S P1 _ _).mono ?_
 rintro o h2 aH ⟨⟨t,m2,rfl,P2,Cr⟩,k2⟩
 have K2:=k1.trans k2
 cases t with
 |true=>
  simp at Cr
  simp
  simp[Ho]
  exact⟨⟨_,m2,rfl,.nil 6,P2,by simp;omega⟩,K2⟩
 |false=>
 simp at Cr
 subst m2
 simp
 simp[Hp]
 simp[Hq]
 have hp2:=P2.hi
 have n2:=K2.n
 refine W.bV (n:=m1) (apE p m1 h2 aH) ?_ ?_
 ·exact⟨.nils,0,true,by simp,by simp,by simp,Gw.nil 6 _ _ _,P2,by omega,Ks.refl _ _ _⟩
 rintro k Vp h3 dw ⟨c,len,t,f0,f3,f4,gw,P3,hlen,k3⟩
 refine W.of ?_
 obtain⟨x1,x2,x3,gb⟩:=P3.bad
 have n3:=k3.n
 have fin:∀ oW:T AV,aa (K 0) oW=some (.ptr p 0)→aa (K 3) oW=some c→bt C ((U.ops vm).seq ((U.ops vn).seq U.ret)) (aN [RV.tmp (K 2)] (jF 6 p m h nx)) oW h3 dw:=by
  intro oW e0 e3
  simp
  simp[vm,e0,q3]
  refine(bC S P3 _ _).mono ?_
  rintro o h4 jq ⟨⟨m4,rfl,P4,Oj⟩,k4⟩
  obtain⟨z1,zw,z2⟩:=(gw.ks P3 k4).OS (by omega)
  simp
  simp[vn,e3]
  exact⟨⟨_,m4,rfl,z1,P4.lo z2 P2.hi (bS _),by omega⟩,(K2.trans (k3.trans k4)).lo z2 n2 (bS _)⟩
 simp[Hu]
 cases t with
 |false=>
  simp[qM,f4]
  simpa using fin _ (by simp[f0]) (by simp[f3])
 |true=>
 by_cases Rz:k=0
 ·subst Rz
  simp at gb
  simp[qM,f0,f4,gb]
  simpa using fin _ (by simp[f0]) (by simp[f3])
 simp[qM,f0,f4,gb,Rz]
 simp[Hr,f0,q4]
 refine(iR S P3 0).mono ?_
 rintro o h5 iW ⟨⟨l5,m5,rfl,o5,P5,Oy⟩,k5⟩
 obtain⟨k',a',n',tn,tc,rfl,hn,hs⟩:=I4 o5
 simp
 simp[Hs,f0,q3]
 refine(bC S P5 _ _).mono ?_
 rintro o h6 IC ⟨⟨m6,rfl,P6,Wn⟩,k6⟩
 simp
 simp[Ht,f0,f3,q5]
 refine(adA S m6 P6).mono ?_
 rintro o h7 tZ ⟨⟨l7,m7,rfl,o7,P7,Z8⟩,k7⟩
 obtain⟨a,b,d,rfl,oa,ob,od⟩:=ty3 o7
 have K7:=(k5.trans k6).trans k7
 have g7:=gw.ks P3 K7
 have ol:cJ W0 (W0 6) [.str tn tc,a,b,d]:=.c hs o7
 obtain⟨c8,h8,Bs,a8,g8,P8,K8,l8,n8⟩:=Gw.more (z:=4) rfl g7 P7 (k3.trans K7) hp2 ol (by omega)
 have hza:∀ n H,ax n a H=(a,H):=oa.jh
 have hzb:∀ n H,ax n b H=(b,H):=ob.jh
 have hzd:∀ n H,ax n d H=(d,H):=od.jh
 simp[-appendTo,hza,hzb,hzd,a8]
 simp[FJ,f0,q1]
 refine(eK S P8 _ _).mono ?_
 rintro o h9 Iy ⟨⟨t,m9,rfl,P9,hm9⟩,k9⟩
 have aNQ:m9≤m7:=by cases t<;>simp at hm9<;>omega
 simp
 refine⟨m9,by omega,?_⟩
 unfold apE
 simp at Z8
 exact⟨c8,_,t,by simp[f0],by simp,by simp,g8.ks P8 k9,P9,by simp;omega,K8.trans k9⟩
end Tb
/-
 SP: the reference's parser: draws. No condition.
-/
namespace Tb
open Go.Sx Go
variable{C:cU}(S:dd C)
include S
abbrev drT:List CT:=.str ::(YG++RZ ++ [.bool])
def adz(p:Key)(cm:Bool)(M:Nat)(h:T ab)(nx:Key)(k:Nat)(tm':T AV)(h':T ab)(nx':Key):Prop:=
 ∃ (c:AV) (len:Nat) (t:Bool),aa (K 0) tm'=some (.ptr p 0)∧aa (K 1) tm'=some (.bool cm)∧aa (K 5) tm'=some c∧aa (K 6) tm'=some (.bool t)∧Gw W0 7 c len h' nx' nx∧PP p k h' nx'∧len+8*k≤8*M∧Ks p h nx h' nx'
theorem agN{p:Key}{m:Nat}{h:T ab}{nx:Key}(P:PP p m h nx)(hm:m≤8000)(cm:Bool):aO C pg [.ptr p 0,.bool cm] h nx (jF 7 p m h nx):=by
 have q1:=S.bD
 have q3:=S.bg
 have q4:=S.bJ
 have q5:=S.pI
 have q6:=S.pJ
 refine S.Xf.call ?_
 simp[Ae]
 simp[IW]
 simp[IX,q3]
 refine(bC S P _ _).mono ?_
 rintro o h1 aY ⟨⟨m1,rfl,P1,hm1⟩,k1⟩
 simp
 simp[IY,q1]
 refine(eK S P1 _ _).mono ?_
 rintro o h2 aH ⟨⟨t,m2,rfl,P2,Cr⟩,k2⟩
 have K2:=k1.trans k2
 cases t with
 |true=>
  simp at Cr
  simp
  simp[IZ]
  exact⟨⟨_,m2,rfl,.nil 7,P2,by simp;omega⟩,K2⟩
 |false=>
 simp at Cr
 subst m2
 simp
 simp[I0]
 simp[I1]
 have hp2:=P2.hi
 have n2:=K2.n
 refine W.bV (n:=m1) (adz p cm m1 h2 aH) ?_ ?_
 ·exact⟨.nils,0,true,by simp,by simp,by simp,by simp,Gw.nil 7 _ _ _,P2,by omega,Ks.refl _ _ _⟩
 rintro k Vp h3 dw ⟨c,len,t,f0,f1,f3,f4,gw,P3,hlen,k3⟩
 refine W.of ?_
 obtain⟨x1,x2,x3,gb⟩:=P3.bad
 have n3:=k3.n
 have fin:∀ oW:T AV,aa (K 0) oW=some (.ptr p 0)→aa (K 5) oW=some c→bt C ((U.ops iP).seq ((U.ops iQ).seq U.ret)) (aN [RV.tmp (K 4)] (jF 7 p m h nx)) oW h3 dw:=by
  intro oW e0 e3
  simp
  simp[iP,e0,q3]
  refine(bC S P3 _ _).mono ?_
  rintro o h4 jq ⟨⟨m4,rfl,P4,Oj⟩,k4⟩
  obtain⟨z1,zw,z2⟩:=(gw.ks P3 k4).OS (by omega)
  simp
  simp[iQ,e3]
  exact⟨⟨_,m4,rfl,z1,P4.lo z2 P2.hi (bS _),by omega⟩,(K2.trans (k3.trans k4)).lo z2 n2 (bS _)⟩
 simp[I2]
 cases t with
 |false=>
  simp[sx,f4]
  simpa using fin _ (by simp[f0]) (by simp[f3])
 |true=>
 by_cases Rz:k=0
 ·subst Rz
  simp at gb
  simp[sx,f0,f4,gb]
  simpa using fin _ (by simp[f0]) (by simp[f3])
 simp[sx,f0,f4,gb,Rz]
 simp[I3,f0,q4]
 refine(iR S P3 0).mono ?_
 rintro o h5 iW ⟨⟨l5,m5,rfl,o5,P5,Oy⟩,k5⟩
 obtain⟨k',a',n',tn,tc,rfl,hn,hs⟩:=I4 o5
 have K5:=k3.trans k5
 have s5:=kTSu iW
 have n5:=k5.n
 have D5:Ow p iW [.str tn tc,I 0,.str 0 0,.nils,I 0,.str 0 0,.nils,.nils,.nils,I 0,.bool false] m5 h2 aH (aK iW (some (.cells [.str tn tc,I 0,.str 0 0,.nils,I 0,.str 0 0,.nils,.nils,.nils,I 0,.bool false] .fix)) h5) iW.succ:=
  ⟨P5.ext (E0 h5 iW _),by rw[gTSm],K5.new,by omega,by omega,aG (by have:=P5.hi;omega)⟩
 simp
 simp[I5,f0,q3]
 refine(bC S D5.P _ _).mono ?_
 rintro o h6 IC ⟨⟨m6,rfl,P6,Wn⟩,k6⟩
 have D6:=D5.call P6 k6
 simp
 simp[I6,f0,q5]
 refine(adA S m6 P6).mono ?_
 rintro o h7 tZ ⟨⟨l7,m7,rfl,o7,P7,Z8⟩,k7⟩
 obtain⟨a,b,d,rfl,oa,ob,od⟩:=ty3 o7
 simp at Z8
 have D7:=D6.call P7 k7
 have D8:=D7.yx [.str tn tc,a,b,d,I 0,.str 0 0,.nils,.nils,.nils,I 0,.bool false]
 simp[D7.g,oa.cell,ob.cell,od.cell]
 simp[GM,f0,q3]
 refine(bC S D8.P _ _).mono ?_
 rintro o h9 Iy ⟨⟨m9,rfl,P9,hm9⟩,k9⟩
 have D9:=D8.call P9 k9
 have hza:∀ n H,ax n a H=(a,H):=oa.jh
 have hzb:∀ n H,ax n b H=(b,H):=ob.jh
 have hzd:∀ n H,ax n d H=(d,H):=od.jh
 have K9:Ks p h3 dw h9 Iy:=by
  have kk:Ks p h3 dw (aK iW (some (.cells [.str tn tc,a,b,d,I 0,.str 0 0,.nils,.nils,.nils,I 0,.bool false] .fix)) h7) tZ:=((k5.new.trans k6).trans k7).put (by omega)
  exact kk.trans k9
 -- the row is ready
 have tail:∀ (tm':T AV) (hx:T ab) (aF:Key) (mx:Nat) (cs:List AV),aa (K 0) tm'=some (.ptr p 0)→aa (K 1) tm'=some (.bool cm)→aa (K 5) tm'=some c→aa (K 7) tm'=some (.ptr iW 0)→PP p mx hx aF→Ks p h3 dw hx aF→aa iW hx=some (.cells cs .fix)→cJ W0 drT cs→AV.iN cs+1+8*mx≤8*k→
   bt C ((U.ops qF).seq (.ops qG)) (ai 1 (ak (fun tm h nx=>∃ m,m<k∧adz p cm m1 h2 aH m tm h nx) (ai 0 (ak (bt C ((U.ops iP).seq ((U.ops iQ).seq U.ret)) (aN [RV.tmp (K 4)] (jF 7 p m h nx))) (aN [RV.tmp (K 4)] (jF 7 p m h nx)))))) tm' hx aF:=by
  intro tm' hx aF mx cs e0 e1 e5 e7 Px Kx gx ox hmx
  have OT:cs.length=11:=ox.len
  have hcb:cs.all AV.aD=true:=mi.2 ox.aU
  have hz:∀ n H,az (ax n) cs H=(cs,H):=fun n H=>av ox.bY
  obtain⟨c8,h8,Bs,a8,g8,P8,K8,l8,n8⟩:=Gw.more (z:=11) rfl (gw.ks P3 Kx) Px (k3.trans Kx) hp2 (l:=cs) ox (by omega)
  simp
  simp[-appendTo,qF,e5,e7,gx,OT,sh OT,hz,a8]
  simp[qG,e0,q1]
  refine(eK S P8 _ _).mono ?_
  rintro o hy nxy ⟨⟨t,my,rfl,Py,hmy⟩,ky⟩
  have aAH:my≤mx:=by cases t<;>simp at hmy<;>omega
  simp
  refine⟨my,by omega,?_⟩
  unfold adz
  exact⟨c8,_,t,by simp[e0],by simp[e1],by simp,by simp,g8.ks P8 ky,Py,by omega,K8.trans ky⟩
 have au2:∀ (tm':T AV) (hx:T ab) (aF:Key) (mx:Nat),aa (K 0) tm'=some (.ptr p 0)→aa (K 1) tm'=some (.bool cm)→aa (K 5) tm'=some c→aa (K 7) tm'=some (.ptr iW 0)→PP p mx hx aF→Ks p h3 dw hx aF→aa iW hx=some (.cells [.str tn tc,a,b,d,I 0,.str 0 0,.nils,.nils,.nils,I 0,.bool false] .fix)→iW.toNat<aF.toNat→AV.wt a+(AV.wt b+AV.wt d)+1+8*mx≤8*k→
   bt C (.ops vO) (ak (bt C ((U.ops qF).seq (.ops qG)) (ai 1 (ak (fun tm h nx=>∃ m,m<k∧adz p cm m1 h2 aH m tm h nx) (ai 0 (ak (bt C ((U.ops iP).seq ((U.ops iQ).seq U.ret)) (aN [RV.tmp (K 4)] (jF 7 p m h nx))) (aN [RV.tmp (K 4)] (jF 7 p m h nx)))))))
    (ai 1 (ak (fun tm h nx=>∃ m,m<k∧adz p cm m1 h2 aH m tm h nx) (ai 0 (ak (bt C ((U.ops iP).seq ((U.ops iQ).seq U.ret)) (aN [RV.tmp (K 4)] (jF 7 p m h nx))) (aN [RV.tmp (K 4)] (jF 7 p m h nx))))))) tm' hx aF:=by
  intro tm' hx aF mx e0 e1 e5 e7 Px Kx gx aM hmx
  simp[vO,e0,q6]
  refine(aoz S (by omega) Px).mono ?_
  rintro o hy nxy ⟨⟨ly,my,rfl,oy,Py,hmy⟩,ky⟩
  have Rh:iW≠p:=aG (by omega)
  have gy:=bH ky aM Rh gx
  obtain⟨y1,y2,y3,y4,y5,y6,rfl,w1,w2,w3,w4,w5,w6⟩:=gn6 oy
  have key:=fun tm' e0 e1 e5 e7=>tail tm' (aK iW (some (.cells [.str tn tc,a,b,d,y1,y2,y3,y4,y5,y6,.bool false] .fix)) hy) nxy my [.str tn tc,a,b,d,y1,y2,y3,y4,y5,y6,.bool false] e0 e1 e5 e7 (Py.put Rh) ((Kx.trans ky).put (by omega)) (by rw[gTSm]) (.c hs (.c oa (.c ob (.c od (.c w1 (.c w2 (.c w3 (.c w4 (.c w5 (.c w6 (.c (.bool false) .nil))))))))))) (by simp at hmy ⊢;omega)
  simp at key
  simp[e7,gy,w1.cell,w2.cell,w3.cell,w4.cell,w5.cell,w6.cell]
  refine key _ ?_ ?_ ?_ ?_
  ·simp[e0]
  ·simp[e1]
  ·simp[e5]
  ·simp[e7]
 cases cm with
 |false=>
  simp
  simp[vQ,f1]
  have key:=fun tm' e0 e1 e5 e7=>au2 tm' h9 Iy m9 e0 e1 e5 e7 P9 K9 D9.g D9.hi (by omega)
  simp at key
  refine key _ ?_ ?_ ?_ ?_
  ·simp[f0]
  ·simp[f1]
  ·simp[f3]
  ·simp
 |true=>
  simp
  simp[vQ,f0,f1,q1]
  refine(eK S P9 _ _).mono ?_
  rintro o hA nxA ⟨⟨t,mA,rfl,PA,hmA⟩,kA⟩
  have DA:=D9.call PA kA
  cases t with
  |true=>
   simp at hmA
   simp
   simp[GN,DA.g]
   have key:=fun tm' e0 e1 e5 e7=>tail tm' (aK iW (some (.cells [.str tn tc,a,b,d,I 0,.str 0 0,.nils,.nils,.nils,I 0,.bool true] .fix)) hA) nxA mA [.str tn tc,a,b,d,I 0,.str 0 0,.nils,.nils,.nils,I 0,.bool true] e0 e1 e5 e7 (PA.put DA.ne) ((K9.trans kA).put (by omega)) (by rw[gTSm]) (.c hs (.c oa (.c ob (.c od (.c mM (.c ID (.c (.nil _) (.c (.nil _) (.c (.nil _) (.c mM (.c (.bool true) .nil))))))))))) (by simp;omega)
   simp at key
   refine key _ ?_ ?_ ?_ ?_
   ·simp[f0]
   ·simp[f1]
   ·simp[f3]
   ·simp
  |false=>
   simp at hmA
   subst mA
   simp
   have key:=fun tm' e0 e1 e5 e7=>au2 tm' hA nxA m9 e0 e1 e5 e7 PA (K9.trans kA) DA.g DA.hi (by omega)
   simp at key
   refine key _ ?_ ?_ ?_ ?_
   ·simp[f0]
   ·simp[f1]
   ·simp[f3]
   ·simp
end Tb
/-
 SP: the reference's parser: constructors. No condition.
-/
namespace Tb
open Go.Sx Go
theorem Gw.aw0{k z:Nat}{c:AV}{len m3 m:Nat}{p e n0:Key}{h0 h3 h:T ab}{dw nx:Key}{fs:List FS}{cs:List AV}{A:Key→Prop}(hz:(W0 k).length=z)(gw:Gw W0 k c len h3 dw n0)(P3:PP p m3 h3 dw)(O:Sr p e fs cs m A h3 dw h nx)(hts:fs.map FS.ct=W0 k)(hlen:wF fs cs≤100000)(K:Ks p h0 n0 h3 dw)(hp:p.toNat<n0.toNat)(hl:len+1≤1048576) :
  ∃ c' h' nx',appendTo z c (az (ax 9999) cs (aK nx (some (.cells cs .fix)) h)).1 1 (az (ax 9999) cs (aK nx (some (.cells cs .fix)) h)).2 nx.succ=.val c' h' nx'∧Gw W0 k c' (len+1+wF fs cs) h' nx' n0∧PP p m h' nx'∧Ks p h0 n0 h' nx'∧nx.toNat≤nx'.toNat:=by
 subst hz
 have s1:=kTSu nx
 have O1:=O.xE (.cells cs .fix)
 have hn3:=O.k.n
 have hn0:=K.n
 obtain⟨a1,aw,a2⟩:=O1.F.Uf hlen 9998 _ (fun _ _ _ _=>rfl)
 rw[hts] at a1
 have hpA:¬ A p:=fun h2=>by have:=O.aA p h2;have:=O.hp;omega
 generalize hF:az (ax (9998+1)) cs (aK nx (some (.cells cs .fix)) h)=F at a1 a2 aw
 have Kf:Ks p h3 dw F.2 nx.succ:=⟨by omega,fun b hb hbp=>by rw[a2 b (fun h2=>by have:=O.aA b h2;omega)];exact O1.k.g b hb hbp⟩
 have g1:=gw.ks P3 Kf
 obtain⟨c',h',nx',b1,b2,b3,b4,_⟩:=g1.add (by omega) a1 hl
 obtain⟨sn,sc,c0,rs,j,bad,d1,d2⟩:=O1.P.at_
 have P1:PP p m F.2 nx.succ:=⟨O1.P.hi,sn,sc,c0,rs,j,bad,by rw[a2 p hpA];exact d1,d2⟩
 exact⟨c',h',nx',b1,b2.mono (by omega),P1.lo b4 hp b3,(K.trans Kf).lo b4 (bS _) b3,by omega⟩
theorem anG{cs:List AV}(h:cs.length=2):∃ a b,cs=[a,b]:=by
 match cs,h with
 | [a,b],_=>exact⟨a,b,rfl⟩
variable{C:cU}(S:dd C)
include S
def Al(nx0 e:Key)(b:Key):Prop:=nx0.toNat≤b.toNat∧b≠e
def aeo(p:Key)(M:Nat)(h:T ab)(nx:Key)(k:Nat)(tm':T AV)(h':T ab)(nx':Key):Prop:=
 ∃ (c:AV) (len:Nat) (t:Bool),aa (K 0) tm'=some (.ptr p 0)∧aa (K 3) tm'=some c∧aa (K 4) tm'=some (.bool t)∧Gw W0 8 c len h' nx' nx∧PP p k h' nx'∧len+8*k≤8*M∧Ks p h nx h' nx'
def apq(p e:Key)(c:AV)(M:Nat)(h:T ab)(nx:Key)(k:Nat)(tm':T AV)(h':T ab)(nx':Key):Prop:=
 ∃ (cs:List AV) (n:Nat) (t:Bool),aa (K 0) tm'=some (.ptr p 0)∧aa (K 3) tm'=some c∧aa (K 5) tm'=some (.ptr e 0)∧aa (K 6) tm'=some (.bool t)∧Sr p e [.d .str,.g 3 n] cs k (Al nx e) h nx h' nx'∧wF [.d .str,.g 3 n] cs+8*k≤8*M
theorem anH{p:Key}{m:Nat}{h:T ab}{nx:Key}(P:PP p m h nx)(hm:m≤8000):aO C uT [.ptr p 0] h nx (jF 8 p m h nx):=by
 have q1:=S.bD
 have q3:=S.bg
 have q4:=S.bJ
 have q5:=S.pI
 refine S.Xu.call ?_
 simp[AB]
 simp[JA]
 simp[JB]
 simp[JC]
 have hp2:=P.hi
 refine W.bV (n:=m) (aeo p m h nx) ?_ ?_
 ·exact⟨.nils,0,true,by simp,by simp,by simp,Gw.nil 8 _ _ _,P,by omega,Ks.refl _ _ _⟩
 rintro k Vp h3 dw ⟨c,len,t,f0,f3,f4,gw,P3,hlen,k3⟩
 refine W.of ?_
 obtain⟨x1,x2,x3,gb⟩:=P3.bad
 have n3:=k3.n
 have fin:∀ oW:T AV,aa (K 3) oW=some c→bt C ((U.ops iU).seq U.ret) (aN [RV.tmp (K 2)] (jF 8 p m h nx)) oW h3 dw:=by
  intro oW e3
  obtain⟨z1,zw,z2⟩:=gw.OS (by omega)
  simp
  simp[iU,e3]
  exact⟨⟨_,k,rfl,z1,P3.lo z2 P.hi (bS _),by omega⟩,k3.lo z2 (bS _) (bS _)⟩
 simp[JJ]
 cases t with
 |false=>
  simp[sQ,f4]
  simpa using fin _ (by simp[f3])
 |true=>
 by_cases Rz:k=0
 ·subst Rz
  simp at gb
  simp[sQ,f0,f4,gb]
  simpa using fin _ (by simp[f3])
 simp[sQ,f0,f4,gb,Rz]
 simp[JD,f0,q4]
 refine(iR S P3 1).mono ?_
 rintro o h5 iW ⟨⟨l5,m5,rfl,o5,P5,Oy⟩,k5⟩
 obtain⟨k',a',n',tn,tc,rfl,hn,hs⟩:=I4 o5
 have s5:=kTSu iW
 have n5:=k5.n
 have hnl:∀ b,¬ rk .nils b:=fun b hb=>by rcases hb with⟨_,_,e⟩|⟨_,_,_,e⟩<;>cases e
 have hpn:=P5.hi
 have aGr:=P3.hi
 have O5:Sr p iW [.d .str,.g 3 0] [.str tn tc,.nils] m5 (Al dw iW) h3 dw (aK iW (some (.cells [.str tn tc,.nils] .fix)) h5) iW.succ:=
  ⟨P5.ext (E0 h5 iW _),by rw[gTSm],.d _ _ _ _ hs (.g _ _ _ _ _ (Gx.nil _ _ _ _) (fun b hb=>absurd hb (hnl b)) .nil),k5.new,aGr,by omega,by omega,fun h2=>h2.2 rfl,fun b hb=>hb.1,fun b hb=>⟨by omega,aG (by omega)⟩⟩
 simp
 simp[JE,f0,q1]
 refine(eK S O5.P _ _).mono ?_
 rintro o h6 IC ⟨⟨t,m6,rfl,P6,Wn⟩,k6⟩
 have O6:=O5.call P6 k6
 -- the row is ready
 have tail:∀ (tm':T AV) (hx:T ab) (aF:Key) (mx n:Nat) (cs:List AV),aa (K 0) tm'=some (.ptr p 0)→aa (K 3) tm'=some c→aa (K 5) tm'=some (.ptr iW 0)→Sr p iW [.d .str,.g 3 n] cs mx (Al dw iW) h3 dw hx aF→wF [.d .str,.g 3 n] cs+8*mx≤8*m5→
   bt C ((U.ops qK).seq (.ops qL)) (ai 1 (ak (fun tm KT ns=>∃ m_1,m_1<k∧aeo p m h nx m_1 tm KT ns) (ai 0 (ak (bt C ((U.ops iU).seq U.ret) (aN [RV.tmp (K 2)] (jF 8 p m h nx))) (aN [RV.tmp (K 2)] (jF 8 p m h nx)))))) tm' hx aF:=by
  intro tm' hx aF mx n cs e0 e3 e5 Ox hmx
  obtain⟨c8,h8,Bs,a8,g8,P8,K8,n8⟩:=Gw.aw0 (k:=8) (z:=2) rfl gw P3 Ox rfl (by omega) k3 hp2 (by omega)
  have hcb:=Ox.F.aU
  obtain⟨w0,w1,rfl⟩:=anG Ox.F.len
  simp at hcb
  have gx:=Ox.g
  simp[-appendTo] at a8
  simp
  simp[-appendTo,qK,e3,e5,gx,a8]
  simp[qL,e0,q1]
  refine(eK S P8 _ _).mono ?_
  rintro o hy nxy ⟨⟨t,my,rfl,Py,hmy⟩,ky⟩
  have aAH:my≤mx:=by cases t<;>simp at hmy<;>omega
  simp
  refine⟨my,by omega,?_⟩
  unfold aeo
  exact⟨c8,_,t,by simp[e0],by simp,by simp,g8.ks P8 ky,Py,by omega,K8.trans ky⟩
 cases t with
 |false=>
  simp at Wn
  subst m6
  simp
  have key:=fun tm' e0 e3 e5=>tail tm' h6 IC m5 0 [.str tn tc,.nils] e0 e3 e5 O6 (by simp)
  simp at key
  refine key _ ?_ ?_ ?_
  ·simp[f0]
  ·simp[f3]
  ·simp
 |true=>
 simp at Wn
 simp
 simp[JF]
 refine W.bV (n:=m6) (apq p iW c m6 h3 dw) ?_ ?_
 ·exact⟨_,0,true,by simp[f0],by simp[f3],by simp,by simp,O6,by simp⟩
 rintro j tm7 h7 tZ ⟨cs,n,t,f0,f3,f5,f6,O7,hn7⟩
 refine W.of ?_
 obtain⟨x1,x2,x3,gb⟩:=O7.P.bad
 obtain⟨w0,w1,rfl⟩:=anG O7.F.len
 simp at hn7
 simp[JI]
 have aaE:∀ oW:T AV,aa (K 0) oW=some (.ptr p 0)→aa (K 3) oW=some c→aa (K 5) oW=some (.ptr iW 0)→
   bt C (.ops wR) (ak (bt C ((U.ops qK).seq (.ops qL)) (ai 1 (ak (fun tm KT ns=>∃ m_1,m_1<k∧aeo p m h nx m_1 tm KT ns) (ai 0 (ak (bt C ((U.ops iU).seq U.ret) (aN [RV.tmp (K 2)] (jF 8 p m h nx))) (aN [RV.tmp (K 2)] (jF 8 p m h nx)))))))
    (ai 1 (ak (fun tm KT ns=>∃ m_1,m_1<k∧aeo p m h nx m_1 tm KT ns) (ai 0 (ak (bt C ((U.ops iU).seq U.ret) (aN [RV.tmp (K 2)] (jF 8 p m h nx))) (aN [RV.tmp (K 2)] (jF 8 p m h nx))))))) oW h7 tZ:=by
  intro oW e0 e3 e5
  simp
  simp[wR,e0,q3]
  refine(bC S O7.P _ _).mono ?_
  rintro o h8 Bs ⟨⟨m8,rfl,P8,hm8⟩,k8⟩
  have O8:=O7.call P8 k8
  simp
  have key:=fun tm' e0 e3 e5=>tail tm' h8 Bs m8 n [w0,w1] e0 e3 e5 O8 (by simp;omega)
  simp at key
  refine key _ ?_ ?_ ?_
  ·simp[e0]
  ·simp[e3]
  ·simp[e5]
 cases t with
 |false=>
  simp[sR,f6]
  simpa using aaE _ (by simp[f0]) (by simp[f3]) (by simp[f5])
 |true=>
 by_cases hj0:j=0
 ·subst hj0
  simp at gb
  simp[sR,f0,f6,gb]
  simpa using aaE _ (by simp[f0]) (by simp[f3]) (by simp[f5])
 simp[sR,f0,f6,gb,hj0]
 simp[JG,f0,f5,O7.g,q5]
 refine(adA S j O7.P).mono ?_
 rintro o h8 Bs ⟨⟨l8,m8,rfl,o8,P8,hm8⟩,k8⟩
 obtain⟨a,b,d,rfl,oa,ob,od⟩:=ty3 o8
 have O8:=O7.call P8 k8
 have O9:=O8.xE (.cells [a,b,d] .fix)
 obtain⟨c4,d4,hA,nxA,e4,b4,a4,x4,y4,gA,nA,lA,OA⟩:=O9.app (i:=1) rfl (by decide) (r:=[a,b,d]) o8 (by omega)
 simp at e4
 subst e4
 have a4:appendTo 3 w1 [a,b,d] 1 _ _=_:=a4
 simp at OA
 have hza:∀ n H,ax n a H=(a,H):=oa.jh
 have hzb:∀ n H,ax n b H=(b,H):=ob.jh
 have hzd:∀ n H,ax n d H=(d,H):=od.jh
 simp[-appendTo,f5,O8.g,b4,a4,x4,y4,gA,hza,hzb,hzd]
 simp[JH,f0,q1]
 refine(eK S OA.P _ _).mono ?_
 rintro o hB nxB ⟨⟨t,mB,rfl,PB,hmB⟩,kB⟩
 have OB:=OA.call PB kB
 have aNa:mB≤m8:=by cases t<;>simp at hmB<;>omega
 simp
 refine⟨mB,by omega,?_⟩
 unfold apq
 simp at hm8
 exact⟨_,_,t,by simp[f0],by simp[f3],by simp[f5],by simp,OB,by simp;omega⟩
end Tb
/-
 SP: the reference's parser: what is read into a declaration; its state. No condition.
-/
namespace Tb
open Go.Sx Go
theorem abD{W:H6}:∀ {ts:List CT} {cs:List AV},cJ W ts cs→∀ (b:Key),∀ c∈cs,¬ rk c b
 |_,_,.nil,b,c,hc=>by simp at hc
 |_,_,.cons _ _ _ _ h1 h,b,c,hc=>by
  rcases xH.1 hc with rfl|hc
  ·exact h1.aeH b
  ·exact abD h b c hc
theorem Ry{W:H6}{h:T ab}{nx:Key}{A:Key→Prop}:∀ {ts:List CT} {vs:List AV},cJ W ts vs→∀ {fs:List FS} {cs:List AV},Fl W h nx A fs cs→Fl W h nx A (ts.map FS.d++fs.drop ts.length) (vs++cs.drop vs.length)
 |_,_,.nil,fs,cs,F=>by simpa using F
 |_,_,.cons t ts c vs hc hr,_,_,.nil=>.d _ _ _ _ hc (by simpa using Ry hr (.nil (W:=W) (h:=h) (nx:=nx) (A:=A)))
 |_,_,.cons t ts c vs hc hr,_,_,.d _ fs _ cs _ F=>.d _ _ _ _ hc (by simpa using Ry hr F)
 |_,_,.cons t ts c vs hc hr,_,_,.g _ _ fs _ cs _ _ F=>.d _ _ _ _ hc (by simpa using Ry hr F)
theorem Vb{W:H6}{h:T ab}{nx:Key}{A:Key→Prop}{ts:List CT}{vs:List AV}(hr:cJ W ts vs):∀ {fs:List FS} {cs:List AV},Fl W h nx A fs cs→∀ i,i≤fs.length→Fl W h nx A (fs.take i++(ts.map FS.d++fs.drop (i+ts.length))) (cs.take i++(vs++cs.drop (i+vs.length)))
 |fs,cs,F,0,_=>by simpa using Ry hr F
 |_,_,.nil,i+1,h=>by simp at h
 |_,_,.d t fs c cs ho F,i+1,h=>by
  have:=Vb hr F i (by simpa using h)
  rw[Nat.add_right_comm i 1,Nat.add_right_comm i 1]
  exact .d _ _ _ _ ho this
 |_,_,.g k len fs c cs hg hx F,i+1,h=>by
  have:=Vb hr F i (by simpa using h)
  rw[Nat.add_right_comm i 1,Nat.add_right_comm i 1]
  refine .g _ _ _ _ _ hg (fun b hb c2 Xc=>?_) this
  rcases List.mem_append.1 Xc with Xc|Xc
  ·exact hx b hb c2 (List.mem_of_mem_take Xc)
  ·rcases List.mem_append.1 Xc with Xc|Xc
   ·exact abD hr b c2 Xc
   ·exact hx b hb c2 (List.mem_of_mem_drop Xc)
theorem Sr.ZG{p e:Key}{fs:List FS}{cs:List AV}{m:Nat}{A:Key→Prop}{h0 h:T ab}{nx0 nx:Key}(O:Sr p e fs cs m A h0 nx0 h nx){ts:List CT}{vs:List AV}(hr:cJ W0 ts vs){i:Nat}(hi:i≤fs.length){j:Nat}(hj:i+vs.length=j)(hf:fs.take i++(ts.map FS.d++fs.drop (i+ts.length))=fs) :
  Sr p e fs (cs.take i++(vs++cs.drop j)) m A h0 nx0 (aK e (some (.cells (cs.take i++(vs++cs.drop j)) .fix)) h) nx:=by
 have F:=Vb hr O.F i hi
 rw[hf,hj] at F
 exact⟨O.P.put O.ne,by rw[gTSm],F.stay (bS _) fun x hx b hb=>bU _ _ _ _ (by
   rintro rfl
   exact O.eA (F.own x hx hb).1),O.k.put O.lo,O.hp,O.lo,O.hi,O.eA,O.aA,O.fA⟩
abbrev dF(a b c e f:Nat):List FS:=[.d .int,.d .str,.d .int,.d (.sl 8),.d (.sl 6)]++YG.map .d++sj.map .d ++ [.d .int]++RZ.map .d ++ [.d (.sl 7),.g 9 a,.g 9 b,.g 10 c]++YG.map .d++sj.map .d ++ [.g 11 e,.g 12 f]++sj.map .d
def acu(p d:Key)(V:Nat)(A:Key→Prop)(h0:T ab)(nx0:Key)(o:Out)(h':T ab)(nx':Key):Prop:=
 o=.ret (.tuple [])∧∃ (m' na nb nc ne nf:Nat) (cs:List AV),Sr p d (dF na nb nc ne nf) cs m' A h0 nx0 h' nx'∧wF (dF na nb nc ne nf) cs+8*m'≤V
variable{C:cU}(S:dd C)
include S
theorem ahv{p d:Key}{m:Nat}{cs:List AV}{A:Key→Prop}{h0 h:T ab}{nx0 nx:Key}{a b c e f:Nat}{V:Nat}(O:Sr p d (dF a b c e f) cs m A h0 nx0 h nx)(hW:wF (dF a b c e f) cs+8*m≤V)(hm:m≤8000) :
  aO C pw [.ptr p 0,.ptr d 0] h nx (acu p d V A h0 nx0):=by
 have q3:=S.bg
 have q5:=S.pI
 have q6:=S.cH
 refine S.XH.call ?_
 simp[AE]
 simp[JN,q3]
 refine(bC S O.P _ _).mono ?_
 rintro o h1 aY ⟨⟨m1,rfl,P1,hm1⟩,k1⟩
 have O1:=O.call P1 k1
 simp
 simp[JO,q3]
 refine(bC S O1.P _ _).mono ?_
 rintro o h2 aH ⟨⟨m2,rfl,P2,Cr⟩,k2⟩
 have O2:=O1.call P2 k2
 simp
 simp[JP,q3]
 refine(bC S O2.P _ _).mono ?_
 rintro o h3 dw ⟨⟨m3,rfl,P3,Lj⟩,k3⟩
 have O3:=O2.call P3 k3
 simp
 simp[JQ,q5]
 refine(adA S m3 P3).mono ?_
 rintro o h4 jq ⟨⟨l4,m4,rfl,o4,P4,Oj⟩,k4⟩
 have e4:l4.length=3:=o4.len
 have O4:=O3.call P4 k4
 have ec:cs.length=45:=O4.F.len
 have c4:l4.all AV.aD=true:=mi.2 o4.aU
 have O5:=O4.ZG (ts:=YG) o4 (i:=26) (j:=29) (by simp) (by omega) rfl
 have w5:=La (fs:=dF a b c e f) (cs:=cs) (ts:=YG) (vs:=l4) (i:=26) (j:=29) (by rw[ec];rfl) (by rw[e4];rfl) (by simp) (by omega) rfl
 simp[O4.g,e4,ec,c4]
 simp[JR,q3]
 refine(bC S O5.P _ _).mono ?_
 rintro o h6 IC ⟨⟨m6,rfl,P6,Wn⟩,k6⟩
 have O6:=O5.call P6 k6
 generalize aPG:List.take 26 cs++(l4++List.drop 29 cs)=cs5 at O6 w5
 simp
 simp[JS,q6]
 refine(vJ S (by omega) P6).mono ?_
 rintro o h7 tZ ⟨⟨l7,m7,rfl,o7,P7,Z8⟩,k7⟩
 have e7:l7.length=7:=o7.len
 have O7:=O6.call P7 k7
 have ec7:cs5.length=45:=O7.F.len
 have c7:l7.all AV.aD=true:=mi.2 o7.aU
 have O8:=O7.ZG (ts:=sj) o7 (i:=29) (j:=36) (by simp) (by omega) rfl
 have w8:=La (fs:=dF a b c e f) (cs:=cs5) (ts:=sj) (vs:=l7) (i:=29) (j:=36) (by rw[ec7];rfl) (by rw[e7];rfl) (by simp) (by omega) rfl
 simp[O7.g,e7,ec7,c7]
 simp[JT,q3]
 refine(bC S O8.P _ _).mono ?_
 rintro o h9 Iy ⟨⟨m9,rfl,P9,hm9⟩,k9⟩
 have O9:=O8.call P9 k9
 simp
 exact⟨rfl,m9,a,b,c,e,f,_,O9,by omega⟩
end Tb
/-
 SP: the reference's parser: the commands of a model. No condition.
-/
namespace Tb
open Go.Sx Go
abbrev cmT:List CT:=.str ::.sl 7 ::(sj++sj++sj)
theorem Sr.adX{p e q:Key}{fs:List FS}{cs:List AV}{m:Nat}{A:Key→Prop}{h0 h:T ab}{nx0 nx:Key}(O:Sr p e fs cs m A h0 nx0 h nx)(hq:e≠q)(hp:q≠p)(hA:∀ c∈cs,¬ rk c q)(hl:nx0.toNat≤q.toNat){B:Option ab}:Sr p e fs cs m A h0 nx0 (aK q B h) nx:=
 ⟨O.P.put hp,by rw[bU _ _ _ _ hq];exact O.g,O.F.stay (bS _) fun x hx b hb=>bU _ _ _ _ (by rintro rfl;exact hA x hx hb),O.k.put hl,O.hp,O.lo,O.hi,O.eA,O.aA,O.fA⟩
variable{C:cU}(S:dd C)
include S
def ap7(p d:Key)(V:Nat)(A:Key→Prop)(h0:T ab)(nx0:Key)(a b c f:Nat)(k:Nat)(tm':T AV)(h':T ab)(nx':Key):Prop:=
 ∃ (cs:List AV) (n:Nat),aa (K 0) tm'=some (.ptr p 0)∧aa (K 1) tm'=some (.ptr d 0)∧Sr p d (dF a b c n f) cs k A h0 nx0 h' nx'∧wF (dF a b c n f) cs+8*k≤V
theorem agc{p d:Key}{m:Nat}{cs:List AV}{A:Key→Prop}{h0 h:T ab}{nx0 nx:Key}{a b c e f:Nat}{V:Nat}(O:Sr p d (dF a b c e f) cs m A h0 nx0 h nx)(hw:wF (dF a b c e f) cs+8*m≤V)(hW:V≤64000) :
  aO C nR [.ptr p 0,.ptr d 0] h nx (acu p d V A h0 nx0):=by
 have q1:=S.bD
 have q3:=S.bg
 have q4:=S.bJ
 have q5:=S.NN
 have q6:=S.cH
 refine S.T6.call ?_
 simp[sS]
 simp[CI,q3]
 refine(bC S O.P _ _).mono ?_
 rintro o h1 aY ⟨⟨m1,rfl,P1,hm1⟩,k1⟩
 have O1:=O.call P1 k1
 simp
 refine W.bV (n:=m1) (ap7 p d V A h0 nx0 a b c f) ?_ ?_
 ·exact⟨_,_,by simp,by simp,O1,by omega⟩
 rintro k xD h2 aH ⟨mo,n,f0,f1,O2,hn⟩
 have hng:n≤wF (dF a b c n f) mo:=Zf (i:=36) (k:=11) rfl (by have:mo.length=45:=O2.F.len;omega)
 refine W.of ?_
 simp[CV]
 simp[CJ,f0,q1]
 refine(eK S O2.P _ _).mono ?_
 rintro o h3 dw ⟨⟨t,m3,rfl,P3,Lj⟩,k3⟩
 have O3:=O2.call P3 k3
 cases t with
 |false=>
  simp at Lj
  simp
  simp[Ba,f0,q3]
  refine(bC S O3.P _ _).mono ?_
  rintro o h4 jq ⟨⟨m4,rfl,P4,Oj⟩,k4⟩
  have O4:=O3.call P4 k4
  simp
  exact⟨rfl,m4,a,b,c,n,f,_,O4,by omega⟩
 |true=>
 simp at Lj
 simp
 simp[CL,f0,q4]
 refine(iR S P3 0).mono ?_
 rintro o h4 jq ⟨⟨l4,m4,rfl,o4,P4,Oj⟩,k4⟩
 obtain⟨k',a',n',tn,tc,rfl,VE,hs⟩:=I4 o4
 have O4:=(O3.call P4 k4).xE (.cells [.str tn tc,.nils,I 0,.str 0 0,I 0,.nils,.nils,.nils,I 0,I 0,.str 0 0,I 0,.nils,.nils,.nils,I 0,I 0,.str 0 0,I 0,.nils,.nils,.nils,I 0] .fix)
 have N4:=Ow.new P4 [.str tn tc,.nils,I 0,.str 0 0,I 0,.nils,.nils,.nils,I 0,I 0,.str 0 0,I 0,.nils,.nils,.nils,I 0,I 0,.str 0 0,I 0,.nils,.nils,.nils,I 0]
 simp
 simp[CM,f0,q5]
 refine(agN S N4.P (by omega) true).mono ?_
 rintro o h5 iW ⟨⟨c5,m5,rfl,o5,P5,Oy⟩,k5⟩
 have O5:=O4.call P5 k5
 have N5:=N4.call P5 k5
 have N6:=N5.yx [.str tn tc,c5,I 0,.str 0 0,I 0,.nils,.nils,.nils,I 0,I 0,.str 0 0,I 0,.nils,.nils,.nils,I 0,I 0,.str 0 0,I 0,.nils,.nils,.nils,I 0]
 simp[N5.g,o5.cell,o5.cells]
 have ne4:d≠jq:=aG (by have:=O3.hi;have:=k4.n;omega)
 have np4:jq≠p:=aG (by have:=P4.hi;omega)
 have hA4:∀ c∈mo,¬ rk c jq:=fun c hc h2=>by have:=(O3.F.own c hc h2).2;have:=k4.n;omega
 have lo4:nx0.toNat≤jq.toNat:=by have:=O3.k.n;have:=k4.n;omega
 have O6:=O5.adX ne4 np4 hA4 lo4 (B:=some (.cells [.str tn tc,c5,I 0,.str 0 0,I 0,.nils,.nils,.nils,I 0,I 0,.str 0 0,I 0,.nils,.nils,.nils,I 0,I 0,.str 0 0,I 0,.nils,.nils,.nils,I 0] .fix))
 simp[CN,f0,q3]
 refine(bC S N6.P _ _).mono ?_
 rintro o h7 tZ ⟨⟨m7,rfl,P7,Z8⟩,k7⟩
 have O7:=O6.call P7 k7
 have N7:=N6.call P7 k7
 simp
 simp[CO,f0,q6]
 refine(vJ S (by omega) N7.P).mono ?_
 rintro o h8 Bs ⟨⟨l8,m8,rfl,o8,P8,hm8⟩,k8⟩
 have e8:l8.length=7:=o8.len
 have z8:l8.all AV.aD=true:=mi.2 o8.aU
 have O8:=O7.call P8 k8
 have N8:=N7.call P8 k8
 simp[N8.g,e8,z8]
 have N9:=N8.yx (.str tn tc ::c5 ::(l8 ++ [I 0,.str 0 0,I 0,.nils,.nils,.nils,I 0,I 0,.str 0 0,I 0,.nils,.nils,.nils,I 0]))
 have O9:=O8.adX ne4 np4 hA4 lo4 (B:=some (.cells (.str tn tc ::c5 ::(l8 ++ [I 0,.str 0 0,I 0,.nils,.nils,.nils,I 0,I 0,.str 0 0,I 0,.nils,.nils,.nils,I 0])) .fix))
 simp[CP,f0,q3]
 refine(bC S N9.P _ _).mono ?_
 rintro o hA nxA ⟨⟨mA,rfl,PA,hmA⟩,kA⟩
 have OA:=O9.call PA kA
 have NA:=N9.call PA kA
 simp
 simp[CQ,f0,q6]
 refine(vJ S (by omega) NA.P).mono ?_
 rintro o hB nxB ⟨⟨lB,mB,rfl,oB,PB,hmB⟩,kB⟩
 have eB:lB.length=7:=oB.len
 have zB:lB.all AV.aD=true:=mi.2 oB.aU
 have OB:=OA.call PB kB
 have NB:=NA.call PB kB
 simp[NB.g,e8,eB,zB,zqq,dpn e8]
 have ND:=NB.yx (.str tn tc ::c5 ::(l8++(lB ++ [I 0,.str 0 0,I 0,.nils,.nils,.nils,I 0])))
 have OD:=OB.adX ne4 np4 hA4 lo4 (B:=some (.cells (.str tn tc ::c5 ::(l8++(lB ++ [I 0,.str 0 0,I 0,.nils,.nils,.nils,I 0]))) .fix))
 simp[CS,f0,q3]
 refine(bC S ND.P _ _).mono ?_
 rintro o hE nxE ⟨⟨mE,rfl,PE,hmE⟩,kE⟩
 have OE:=OD.call PE kE
 have NE:=ND.call PE kE
 simp
 simp[CU,f0,q6]
 refine(vJ S (by omega) NE.P).mono ?_
 rintro o hF nxF ⟨⟨lF,mF,rfl,oF,PF,hmF⟩,kF⟩
 have eF:lF.length=7:=oF.len
 have zF:lF.all AV.aD=true:=mi.2 oF.aU
 have OF:=OE.call PF kF
 have NF:=NE.call PF kF
 simp[NF.g,e8,eB,eF,zF,zqw,zqq,sh e8,dpn e8,dpn eB]
 have NG:=NF.yx (.str tn tc ::c5 ::(l8++(lB++lF)))
 have OG:=OF.adX ne4 np4 hA4 lo4 (B:=some (.cells (.str tn tc ::c5 ::(l8++(lB++lF))) .fix))
 have row:cJ W0 cmT (.str tn tc ::c5 ::(l8++(lB++lF))):=.c hs (.c o5 (o8.append (oB.append oF)))
 simp[A7,f0,q3]
 refine(bC S NG.P _ _).mono ?_
 rintro o hH nxH ⟨⟨mH,rfl,PH,hmH⟩,kH⟩
 have OH:=OG.call PH kH
 have NH:=NG.call PH kH
 have hwr:AV.iN (AV.str tn tc ::c5 ::(l8++(lB++lF)))=AV.wt c5+(AV.iN l8+(AV.iN lB+AV.iN lF)):=by simp
 generalize Tc:AV.str tn tc ::c5 ::(l8++(lB++lF))=rw at NH row hwr
 have er:rw.length=23:=row.len
 have zr:rw.all AV.aD=true:=mi.2 row.aU
 have OI:=OH.xE (.cells rw .fix)
 obtain⟨c9,d9,hJ,nxJ,e9,b9,a9,x9,y9,gJ,nJ,lJ,OJ⟩:=OI.app (i:=36) rfl (by decide) (r:=rw) row (by omega)
 have a9:appendTo 23 c9 rw 1 _ _=_:=a9
 have ec:mo.length=45:=OI.F.len
 have Zg:∀ n H,az (ax n) rw H=(rw,H):=fun n H=>av row.bY
 have e36:mo[36]=c9:=by have:=(Af (by omega:36<mo.length)).symm.trans e9;simpa using this
 have s36:List.take 36 mo++d9 ::List.drop 37 mo=mo.set 36 d9:=Iu ec (by omega)
 simp
 simp[-appendTo,A9,f1,OH.g,NH.g,er,ec,e36,s36,a9,x9,y9,gJ,sh er,Zg]
 refine⟨mH,by omega,?_⟩
 have wJ:wF (dF a b c (n+1+AV.iN rw) f) (mo.set 36 d9)=wF (dF a b c n f) mo+1+AV.iN rw:=Rt (fs:=dF a b c n f) (cs:=mo) (k:=11) (k':=11) (n:=n) (i:=36) rfl (by rw[ec];rfl)
 unfold ap7
 exact⟨_,_,by simp[f0],by simp[f1],OJ,by omega⟩
end Tb
/-
 SP: the reference's parser: the operations of a system. No condition.
-/
namespace Tb
open Go.Sx Go
theorem Sr.OS{p e:Key}{h3 h:T ab}{dw nx:Key}{m:Nat}{fs:List FS}{cs:List AV}{A:Key→Prop}{ts:List CT}(O:Sr p e fs cs m A h3 dw h nx)(hts:fs.map FS.ct=ts)(hlen:wF fs cs≤100000) :
  cJ W0 ts (az (ax 9999) cs (aK nx (some (.cells cs .fix)) h)).1∧AV.iN (az (ax 9999) cs (aK nx (some (.cells cs .fix)) h)).1≤wF fs cs∧PP p m (az (ax 9999) cs (aK nx (some (.cells cs .fix)) h)).2 nx.succ∧Ks p h3 dw (az (ax 9999) cs (aK nx (some (.cells cs .fix)) h)).2 nx.succ:=by
 have s1:=kTSu nx
 have O1:=O.xE (.cells cs .fix)
 obtain⟨a1,aw,a2⟩:=O1.F.Uf hlen 9998 _ (fun _ _ _ _=>rfl)
 rw[hts] at a1
 have hpA:¬ A p:=fun h2=>by have:=O.aA p h2;have:=O.hp;omega
 refine⟨a1,aw,?_,⟨by have:=O1.k.n;omega,fun b hb hbp=>?_⟩⟩
 ·obtain⟨sn,sc,c0,rs,j,bad,d1,d2⟩:=O1.P.at_
  exact⟨O1.P.hi,sn,sc,c0,rs,j,bad,by rw[a2 p hpA];exact d1,d2⟩
 ·rw[a2 b (fun h2=>by have:=O.aA b h2;omega)]
  exact O1.k.g b hb hbp
variable{C:cU}(S:dd C)
include S
abbrev opF(n:Nat):List FS:=[.d .str,.d (.sl 6),.g 13 n]
def aoO(p d e:Key)(M:Nat)(h:T ab)(nx:Key)(k:Nat)(tm':T AV)(h':T ab)(nx':Key):Prop:=
 ∃ (cs:List AV) (n:Nat),aa (K 0) tm'=some (.ptr p 0)∧aa (K 1) tm'=some (.ptr d 0)∧aa (K 4) tm'=some (.ptr e 0)∧Sr p e (opF n) cs k (Al nx e) h nx h' nx'∧wF (opF n) cs+8*k≤8*M
def aoP(p d:Key)(V:Nat)(A:Key→Prop)(h0:T ab)(nx0:Key)(a b c e:Nat)(k:Nat)(tm':T AV)(h':T ab)(nx':Key):Prop:=
 ∃ (cs:List AV) (n:Nat),aa (K 0) tm'=some (.ptr p 0)∧aa (K 1) tm'=some (.ptr d 0)∧Sr p d (dF a b c e n) cs k A h0 nx0 h' nx'∧wF (dF a b c e n) cs+8*k≤V
theorem avM{p d:Key}{m:Nat}{cs:List AV}{A:Key→Prop}{h0 h:T ab}{nx0 nx:Key}{a b c e f:Nat}{V:Nat}(O:Sr p d (dF a b c e f) cs m A h0 nx0 h nx)(hw:wF (dF a b c e f) cs+8*m≤V)(hW:V≤64000) :
  aO C Ap [.ptr p 0,.ptr d 0] h nx (acu p d V A h0 nx0):=by
 have q1:=S.bD
 have q3:=S.bg
 have q4:=S.bJ
 have q5:=S.KR
 have q6:=S.cH
 refine S.aau.call ?_
 simp[Hx]
 simp[Qs,q3]
 refine(bC S O.P _ _).mono ?_
 rintro o h1 aY ⟨⟨m1,rfl,P1,hm1⟩,k1⟩
 have O1:=O.call P1 k1
 simp
 refine W.bV (n:=m1) (aoP p d V A h0 nx0 a b c e) ?_ ?_
 ·exact⟨_,_,by simp,by simp,O1,by omega⟩
 rintro k xD h2 aH ⟨mo,n,f0,f1,O2,hn⟩
 have hng:n≤wF (dF a b c e n) mo:=Zf (i:=37) (k:=12) rfl (by have:mo.length=45:=O2.F.len;omega)
 refine W.of ?_
 simp[QD]
 simp[Qt,f0,q1]
 refine(eK S O2.P _ _).mono ?_
 rintro o h3 dw ⟨⟨t,m3,rfl,P3,Lj⟩,k3⟩
 have O3:=O2.call P3 k3
 cases t with
 |false=>
  simp at Lj
  simp
  simp[Ns,f0,q3]
  refine(bC S O3.P _ _).mono ?_
  rintro o h4 jq ⟨⟨m4,rfl,P4,Oj⟩,k4⟩
  have O4:=O3.call P4 k4
  simp
  exact⟨rfl,m4,a,b,c,e,n,_,O4,by omega⟩
 |true=>
 simp at Lj
 simp
 simp[Qu,f0,q4]
 refine(iR S P3 0).mono ?_
 rintro o h4 jq ⟨⟨l4,m4,rfl,o4,P4,Oj⟩,k4⟩
 obtain⟨k',a',n',tn,tc,rfl,VE,hs⟩:=I4 o4
 have s4:=kTSu jq
 have n4:=k4.n
 have hp3:=P3.hi
 have hnl:∀ b,¬ rk .nils b:=fun b hb=>by rcases hb with⟨_,_,e⟩|⟨_,_,_,e⟩<;>cases e
 have E4:Sr p jq (opF 0) [.str tn tc,.nils,.nils] m4 (Al dw jq) h3 dw (aK jq (some (.cells [.str tn tc,.nils,.nils] .fix)) h4) jq.succ:=
  ⟨P4.ext (E0 h4 jq _),by rw[gTSm],.d _ _ _ _ hs (.d _ _ _ _ (.nil _) (.g _ _ _ _ _ (Gx.nil _ _ _ _) (fun b hb=>absurd hb (hnl b)) .nil)),k4.new,hp3,by omega,by omega,fun h2=>h2.2 rfl,fun b hb=>hb.1,fun b hb=>⟨by omega,aG (by omega)⟩⟩
 simp
 simp[Qv,f0,q5]
 refine(adW S E4.P (by omega)).mono ?_
 rintro o h5 iW ⟨⟨c5,m5,rfl,o5,P5,Oy⟩,k5⟩
 have E5:=E4.call P5 k5
 have E6:=E5.Dq (i:=1) (f:=.d (.sl 6)) rfl (v:=c5) o5
 simp at E6
 simp[E5.g,o5.cell,o5.cells]
 simp[Qw,f0,q3]
 refine(bC S E6.P _ _).mono ?_
 rintro o h7 tZ ⟨⟨m7,rfl,P7,Z8⟩,k7⟩
 have E7:=E6.call P7 k7
 simp
 refine W.bV (n:=m7) (aoO p d jq m4 h3 dw) ?_ ?_
 ·exact⟨_,0,by simp[f0],by simp[f1],by simp,E7,by simp;omega⟩
 clear f0 f1
 rintro j tm8 h8 Bs ⟨cs8,i,f0,f1,f4,E8,hi⟩
 refine W.of ?_
 have hl8:cs8.length=3:=E8.F.len
 simp[QC]
 simp[Qx,f0,q1]
 refine(eK S E8.P _ _).mono ?_
 rintro o h9 Iy ⟨⟨t,m9,rfl,P9,hm9⟩,k9⟩
 have E9:=E8.call P9 k9
 cases t with
 |false=>
  simp at hm9
  simp
  simp[Nq,f0,q3]
  refine(bC S E9.P _ _).mono ?_
  rintro o hA nxA ⟨⟨mA,rfl,PA,hmA⟩,kA⟩
  have EA:=E9.call PA kA
  simp
  obtain⟨f9,fw,fP,fK⟩:=EA.OS (ts:=[.str,.sl 6,.sl 13]) rfl (by omega)
  have gA:=EA.g
  have zA:cs8.all AV.aD=true:=mi.2 EA.F.aU
  generalize hF:az (ax 9999) cs8 (aK nxA (some (.cells cs8 .fix)) hA)=F at f9 fP fK fw
  have eF:F.1.length=3:=f9.len
  have OF:=O3.call fP fK
  obtain⟨c9,d9,hJ,nxJ,e9,b9,a9,x9,y9,gJ,nJ,lJ,OJ⟩:=OF.app (i:=37) rfl (by decide) (r:=F.1) f9 (by omega)
  have a9:appendTo 3 c9 F.1 1 _ _=_:=a9
  have ec:mo.length=45:=OF.F.len
  have e37:mo[37]=c9:=by have:=(Af (by omega:37<mo.length)).symm.trans e9;simpa using this
  have s37:List.take 37 mo++d9 ::List.drop 38 mo=mo.set 37 d9:=Iu ec (by omega)
  have gd:aa d hA=some (.cells mo .fix):=bH EA.k O3.hi O3.ne O3.g
  simp[-appendTo,Nr,f1,f4,gA,gd,hF,hl8,ec,e37,s37,a9,x9,y9,gJ,sh hl8]
  refine⟨mA,by omega,?_⟩
  have wJ:wF (dF a b c e (n+1+AV.iN F.1)) (mo.set 37 d9)=wF (dF a b c e n) mo+1+AV.iN F.1:=Rt (fs:=dF a b c e n) (cs:=mo) (k:=12) (k':=12) (n:=n) (i:=37) rfl (by rw[ec];rfl)
  unfold aoP
  exact⟨_,_,by simp[f0],by simp[f1],OJ,by omega⟩
 |true=>
 obtain⟨w0,w1,w2,rfl⟩:=aBf hl8
 simp at hi
 simp at hm9
 simp
 simp[Qy,f0,q6]
 refine(vJ S (by omega) P9).mono ?_
 rintro o hA nxA ⟨⟨lA,mA,rfl,oA,PA,hmA⟩,kA⟩
 have eA:lA.length=7:=oA.len
 have zA:lA.all AV.aD=true:=mi.2 oA.aU
 have EA:=(E9.call PA kA).xE (.cells (lA ++ [I 0,.str 0 0,I 0,.nils,.nils,.nils,I 0]) .fix)
 have NA:=Ow.new PA (lA ++ [I 0,.str 0 0,I 0,.nils,.nils,.nils,I 0])
 simp[eA,zA]
 simp[Qz,f0,q3]
 refine(bC S NA.P _ _).mono ?_
 rintro o hB nxB ⟨⟨mB,rfl,PB,hmB⟩,kB⟩
 have EB:=EA.call PB kB
 have NB:=NA.call PB kB
 simp
 simp[QA,f0,q6]
 refine(vJ S (by omega) PB).mono ?_
 rintro o hD nxD ⟨⟨lD,mD,rfl,oD,PD,hmD⟩,kD⟩
 have eD:lD.length=7:=oD.len
 have zD:lD.all AV.aD=true:=mi.2 oD.aU
 have ED:=EB.call PD kD
 have ND:=NB.call PD kD
 have ne4:jq≠nxA:=aG (by have:=E9.hi;have:=kA.n;omega)
 have npA:nxA≠p:=aG (by have:=PA.hi;omega)
 have hAA:∀ c∈[w0,w1,w2],¬ rk c nxA:=fun c hc h2=>by have:=(E9.F.own c hc h2).2;have:=kA.n;omega
 have loA:dw.toNat≤nxA.toNat:=by have:=E9.k.n;have:=kA.n;omega
 have EE:=ED.adX ne4 npA hAA loA (B:=some (.cells (lA++lD) .fix))
 have NE:=ND.yx (lA++lD)
 simp[ND.g,eA,eD,zD,dpn eA,zqq]
 simp[QB,f0,q3]
 refine(bC S NE.P _ _).mono ?_
 rintro o hG nxG ⟨⟨mG,rfl,PG,hmG⟩,kG⟩
 have EG:=EE.call PG kG
 have NG:=NE.call PG kG
 have row:cJ W0 (W0 13) (lA++lD):=oA.append oD
 have hwr:AV.iN (lA++lD)=AV.iN lA+AV.iN lD:=by simp
 generalize Tc:lA++lD=rw at NG row hwr
 have er:rw.length=14:=row.len
 have zr:rw.all AV.aD=true:=mi.2 row.aU
 have EI:=EG.xE (.cells rw .fix)
 obtain⟨c9,d9,hJ,nxJ,e9,b9,a9,x9,y9,gJ,nJ,lJ,EJ⟩:=EI.app (i:=2) rfl (by decide) (r:=rw) row (by omega)
 simp at e9
 subst e9
 have a9:appendTo 14 w2 rw 1 _ _=_:=a9
 have Zg:∀ n H,az (ax n) rw H=(rw,H):=fun n H=>av row.bY
 simp at EJ
 simp
 simp[-appendTo,Np,f4,EG.g,NG.g,er,a9,x9,y9,gJ,sh er,Zg]
 refine⟨mG,by omega,?_⟩
 unfold aoO
 exact⟨_,_,by simp[f0],by simp[f1],by simp[f4],EJ,by simp;omega⟩
end Tb
/-
 SP: the reference's parser: the items of a property. No condition.
-/
namespace Tb
open Go.Sx Go
theorem PP.inc{p:Key}{m:Nat}{h:T ab}{nx:Key}(P:PP p m h nx)(hm:2≤m):∃ (s c:AV) (i j:Int),aa p h=some (.cells [s,c,I i,.bool false] .fix)∧aW .i64 (i+1)=j∧PP p (m-1) (aK p (some (.cells [s,c,I j,.bool false] .fix)) h) nx:=by
 obtain⟨sn,sc,c,rs,i,bad,g,a2,a3,a4,a5,a6,rfl⟩:=P.at_
 cases bad with
 |true=>simp at hm
 |false=>
  simp at hm
  have hw:aW .i64 ((i:Int)+1)=((i+1:Nat):Int):=by rw[show(i:Int)+1=((i+1:Nat):Int) by omega];exact br (by omega) (by omega)
  refine⟨_,_,_,_,g,hw,?_⟩
  have:=PP.step (h:=h) (sc:=sc) P.hi a2 a3 a4 a5 (i:=i) (by omega)
  simpa using this
theorem tw(p:Key)(h:T ab)(nx:Key)(B:Option ab):Ks p h nx (aK p B h) nx:=⟨bS _,fun b _ hb=>bU _ _ _ _ hb⟩
variable{C:cU}(S:dd C)
include S
def ag7(p d:Key)(V:Nat)(A:Key→Prop)(h0:T ab)(nx0:Key)(e f:Nat)(k:Nat)(tm':T AV)(h':T ab)(nx':Key):Prop:=
 ∃ (cs:List AV) (a b c:Nat),aa (K 0) tm'=some (.ptr p 0)∧aa (K 1) tm'=some (.ptr d 0)∧Sr p d (dF a b c e f) cs k A h0 nx0 h' nx'∧wF (dF a b c e f) cs+8*k≤V
abbrev itB:U:=U.block 1 (((U.ops zv).seq (U.cond (PX.t (K 20))
 ((U.ops zG).seq ((U.ops zH).seq ((U.ops zI).seq (U.staged zJ {ds:=[K 34,K 35,K 36,K 37,K 38,K 39,K 40,K 41,K 42,K 43],mN:=[]}))))
 ((U.ops zK).seq ((U.ops zL).seq ((U.ops zM).seq ((U.ops wT).seq ((U.ops wU).seq ((U.ops wV).seq (U.cond (PX.t (K 62))
  (U.staged wW {ds:=[K 63,K 64,K 65,K 66,K 67,K 68,K 69,K 70,K 71,K 72],mN:=[]})
  (U.staged wX {ds:=[K 73,K 74,K 75,K 76,K 77,K 78,K 79,K 80,K 81,K 82],mN:=[]})))))))))).seq (U.ops qN))
theorem am4{p d:Key}{m:Nat}{cs:List AV}{A:Key→Prop}{h0 h:T ab}{nx0 nx:Key}{e f:Nat}{V:Nat}(O:Sr p d (dF 0 0 0 e f) cs m A h0 nx0 h nx)(hw:wF (dF 0 0 0 e f) cs+8*m≤V)(hV:V≤64000) :
  aO C uU [.ptr p 0,.ptr d 0] h nx (acu p d V A h0 nx0):=by
 have q0:=S.Dr
 have q1:=S.bD
 have q3:=S.bg
 have q4:=S.bJ
 have q6:=S.cH
 refine S.Xq.call ?_
 simp[AD]
 simp[JK,q3]
 refine(bC S O.P _ _).mono ?_
 rintro o h1 aY ⟨⟨m1,rfl,P1,hm1⟩,k1⟩
 have O1:=O.call P1 k1
 simp
 refine W.bV (n:=m1) (ag7 p d V A h0 nx0 e f) ?_ ?_
 ·exact⟨_,_,_,_,by simp,by simp,O1,by omega⟩
 rintro k xD h2 aH ⟨mo,a,b,c,f0,f1,O2,hn⟩
 have ec2:mo.length=45:=O2.F.len
 have hga:a≤wF (dF a b c e f) mo:=Zf (i:=23) (k:=9) rfl (by omega)
 have hgb:b≤wF (dF a b c e f) mo:=Zf (i:=24) (k:=9) rfl (by omega)
 have hgc:c≤wF (dF a b c e f) mo:=Zf (i:=25) (k:=10) rfl (by omega)
 refine W.of ?_
 have fin:∀ (tm':T AV) (hx:T ab) (aF:Key),aa (K 0) tm'=some (.ptr p 0)→Sr p d (dF a b c e f) mo k A h0 nx0 hx aF→bt C (U.ops lv) (aN [] (acu p d V A h0 nx0)) tm' hx aF:=by
  intro tm' hx aF e0 Ox
  simp[lv,e0,q3]
  refine(bC S Ox.P _ _).mono ?_
  rintro o h4 jq ⟨⟨m4,rfl,P4,Oj⟩,k4⟩
  have O4:=Ox.call P4 k4
  simp
  exact⟨rfl,m4,a,b,c,e,f,_,O4,by omega⟩
 have tail:∀ (tm':T AV) (hx:T ab) (aF:Key) (Vs:List AV) (a' b' c' mx:Nat),aa (K 0) tm'=some (.ptr p 0)→aa (K 1) tm'=some (.ptr d 0)→Sr p d (dF a' b' c' e f) Vs mx A h0 nx0 hx aF→mx<k→wF (dF a' b' c' e f) Vs+8*mx≤wF (dF a b c e f) mo+8*k→bt C (U.ops qN) (ai 1 (ak (fun tm h nx=>∃ m,m<k∧ag7 p d V A h0 nx0 e f m tm h nx) (ai 0 (ak (bt C (U.ops lv) (aN [] (acu p d V A h0 nx0))) (aN [] (acu p d V A h0 nx0)))))) tm' hx aF:=by
  intro tm' hx aF Vs a' b' c' mx e0 e1 Ox hmx VE
  simp[qN,e0,q3]
  refine(bC S Ox.P _ _).mono ?_
  rintro o h4 jq ⟨⟨m4,rfl,P4,Oj⟩,k4⟩
  have O4:=Ox.call P4 k4
  simp
  refine⟨m4,by omega,?_⟩
  unfold ag7
  exact⟨_,a',b',c',by simp[e0],by simp[e1],O4,by omega⟩
 have body:∀ (tm':T AV) (hx:T ab) (aF:Key),aa (K 0) tm'=some (.ptr p 0)→aa (K 1) tm'=some (.ptr d 0)→Sr p d (dF a b c e f) mo k A h0 nx0 hx aF→2≤k→bt C itB (ak (fun tm h nx=>∃ m,m<k∧ag7 p d V A h0 nx0 e f m tm h nx) (ai 0 (ak (bt C (U.ops lv) (aN [] (acu p d V A h0 nx0))) (aN [] (acu p d V A h0 nx0))))) tm' hx aF:=by
  intro tm' hx aF e0 e1 Ox hk2
  simp
  simp[zv,e0,q1]
  refine(eK S Ox.P _ _).mono ?_
  rintro o h3 dw ⟨⟨t,m3,rfl,P3,Lj⟩,k3⟩
  have O3:=Ox.call P3 k3
  have ec:mo.length=45:=O3.F.len
  cases t with
  |true=>
   simp at Lj
   simp
   simp[zG,e0,q4]
   refine(iR S P3 0).mono ?_
   rintro o h4 jq ⟨⟨l4,m4,rfl,o4,P4,Oj⟩,k4⟩
   obtain⟨k',a',n',tn,tc,rfl,VE,hs⟩:=I4 o4
   have O4:=O3.call P4 k4
   simp[e0,q4]
   refine(iR S P4 2).mono ?_
   rintro o h5 iW ⟨⟨l5,m5,rfl,o5,P5,Oy⟩,k5⟩
   obtain⟨k'',a'',n'',tn',tc',rfl,aBs,hs'⟩:=I4 o5
   have O5:=(O4.call P5 k5).xE (.cells [.str tn tc,I n'',I 0] .fix)
   have N5:=Ow.new P5 [.str tn tc,I n'',I 0]
   simp
   simp[zH,e0,q3]
   refine(bC S N5.P _ _).mono ?_
   rintro o h6 IC ⟨⟨m6,rfl,P6,Wn⟩,k6⟩
   have O6:=O5.call P6 k6
   have N6:=N5.call P6 k6
   simp
   simp[zI,e0,q4]
   refine(iR S P6 2).mono ?_
   rintro o h7 tZ ⟨⟨l7,m7,rfl,o7,P7,Z8⟩,k7⟩
   obtain⟨j1,j2,j3,j4,j5,rfl,hn7,hs7⟩:=I4 o7
   have O7:=O6.call P7 k7
   have N7:=N6.call P7 k7
   have ne5:d≠iW:=aG (by have:=O4.hi;have:=k5.n;omega)
   have np5:iW≠p:=aG (by have:=P5.hi;omega)
   have hA5:∀ c∈mo,¬ rk c iW:=fun c hc h2=>by have:=(O4.F.own c hc h2).2;have:=k5.n;omega
   have lo5:nx0.toNat≤iW.toNat:=by have:=O4.k.n;have:=k5.n;omega
   have O8:=O7.adX ne5 np5 hA5 lo5 (B:=some (.cells [.str tn tc,I n'',I j3] .fix))
   have N8:=N7.yx [.str tn tc,I n'',I j3]
   have row:cJ W0 (W0 10) [.str tn tc,I n'',I j3]:=.c hs (.c aBs (.c hn7 .nil))
   have OI:=O8.xE (.cells [.str tn tc,I n'',I j3] .fix)
   have aBt:c+1≤1048576:=by omega
   obtain⟨c9,d9,hJ,nxJ,e9,b9,a9,x9,y9,gJ,nJ,lJ,OJ⟩:=OI.app (i:=25) rfl (by decide) row aBt
   have a9:appendTo 3 c9 [.str tn tc,I n'',I j3] 1 _ _=_:=a9
   have e25:mo[25]=c9:=by have:=(Af (by omega:25<mo.length)).symm.trans e9;simpa using this
   have s25:List.take 25 mo++d9 ::List.drop 26 mo=mo.set 25 d9:=Iu ec (by omega)
   simp[N7.g]
   simp[-appendTo,zJ,e1,O8.g,N8.g,ec,e25,s25,a9,x9,y9,gJ]
   have wJ:wF (dF a b (c+1+0) e f) (mo.set 25 d9)=wF (dF a b c e f) mo+1+0:=Rt (fs:=dF a b c e f) (cs:=mo) (k:=10) (k':=10) (n:=c) (i:=25) rfl (by rw[ec];rfl)
   have key:=fun tm' f0 f1=>tail tm' _ _ _ a b (c+1+0) m7 f0 f1 OJ (by omega) (by omega)
   simp at key
   refine key _ ?_ ?_
   ·simp[e0]
   ·simp[e1]
  |false=>
  simp at Lj
  subst Lj
  simp
  simp[zK,e0,q0]
  refine(ajD S O3.P _ _).mono ?_
  rintro o h4 jq ⟨⟨t4,rfl,ht4⟩,x4⟩
  have O4:=O3.ext x4
  obtain⟨s',c',i',j',gp,hw,P5⟩:=O4.P.inc (by omega)
  have k5:=tw p h4 jq (some (.cells [s',c',I j',.bool false] .fix))
  have O5:=O4.call P5 k5
  simp
  simp[zL,e0,gp,hw]
  simp[zM,e0,q4]
  refine(iR S P5 0).mono ?_
  rintro o h6 IC ⟨⟨l6,m6,rfl,o6,P6,Wn⟩,k6⟩
  obtain⟨j1,j2,j3,tn,tc,rfl,hn6,hs⟩:=I4 o6
  have O6:=(O5.call P6 k6).xE (.cells [.str tn tc,I 0,.str 0 0,I 0,.nils,.nils,.nils,I 0] .fix)
  have N6:=Ow.new P6 [.str tn tc,I 0,.str 0 0,I 0,.nils,.nils,.nils,I 0]
  simp
  simp[wT,e0,q3]
  refine(bC S N6.P _ _).mono ?_
  rintro o h7 tZ ⟨⟨m7,rfl,P7,Z8⟩,k7⟩
  have O7:=O6.call P7 k7
  have N7:=N6.call P7 k7
  simp
  simp[wU,e0,q6]
  refine(vJ S (by omega) P7).mono ?_
  rintro o h8 Bs ⟨⟨l8,m8,rfl,o8,P8,hm8⟩,k8⟩
  have l8n:l8.length=7:=o8.len
  have z8:l8.all AV.aD=true:=mi.2 o8.aU
  have O8:=O7.call P8 k8
  have N8:=N7.call P8 k8
  have ne6:d≠IC:=aG (by have:=O5.hi;have:=k6.n;omega)
  have np6:IC≠p:=aG (by have:=P6.hi;omega)
  have hA6:∀ c∈mo,¬ rk c IC:=fun c hc h2=>by have:=(O5.F.own c hc h2).2;have:=k6.n;omega
  have lo6:nx0.toNat≤IC.toNat:=by have:=O5.k.n;have:=k6.n;omega
  have O9:=O8.adX ne6 np6 hA6 lo6 (B:=some (.cells (.str tn tc ::l8) .fix))
  have N9:=N8.yx (.str tn tc ::l8)
  have row:cJ W0 (W0 9) (.str tn tc ::l8):=.c hs o8
  simp[N8.g,l8n,z8]
  simp[wV]
  have hwr:AV.iN (AV.str tn tc ::l8)=AV.iN l8:=by simp
  generalize Tc:AV.str tn tc ::l8=rw at N9 O9 row hwr
  have er:rw.length=8:=row.len
  have zr:rw.all AV.aD=true:=mi.2 row.aU
  have Zg:∀ n H,az (ax n) rw H=(rw,H):=fun n H=>av row.bY
  have OI:=O9.xE (.cells rw .fix)
  cases t4 with
  |true=>
   have hc9:a+1≤1048576:=by omega
   obtain⟨c9,d9,hJ,nxJ,e9,b9,a9,x9,y9,gJ,nJ,lJ,OJ⟩:=OI.app (i:=23) rfl (by decide) row hc9
   have a9:appendTo 8 c9 rw 1 _ _=_:=a9
   have e23:mo[23]=c9:=by have:=(Af (by omega:23<mo.length)).symm.trans e9;simpa using this
   have s23:List.take 23 mo++d9 ::List.drop 24 mo=mo.set 23 d9:=Iu ec (by omega)
   simp
   simp[-appendTo,wW,e1,O9.g,N9.g,ec,e23,s23,a9,x9,y9,gJ,er,sh er,Zg]
   have wJ:wF (dF (a+1+AV.iN rw) b c e f) (mo.set 23 d9)=wF (dF a b c e f) mo+1+AV.iN rw:=Rt (fs:=dF a b c e f) (cs:=mo) (k:=9) (k':=9) (n:=a) (i:=23) rfl (by rw[ec];rfl)
   have key:=fun tm' f0 f1=>tail tm' _ _ _ (a+1+AV.iN rw) b c m8 f0 f1 OJ (by omega) (by omega)
   simp at key
   refine key _ ?_ ?_
   ·simp[e0]
   ·simp[e1]
  |false=>
   have hc9:b+1≤1048576:=by omega
   obtain⟨c9,d9,hJ,nxJ,e9,b9,a9,x9,y9,gJ,nJ,lJ,OJ⟩:=OI.app (i:=24) rfl (by decide) row hc9
   have a9:appendTo 8 c9 rw 1 _ _=_:=a9
   have e24:mo[24]=c9:=by have:=(Af (by omega:24<mo.length)).symm.trans e9;simpa using this
   have s24:List.take 24 mo++d9 ::List.drop 25 mo=mo.set 24 d9:=Iu ec (by omega)
   simp
   simp[-appendTo,wX,e1,O9.g,N9.g,ec,e24,s24,a9,x9,y9,gJ,er,sh er,Zg]
   have wJ:wF (dF a (b+1+AV.iN rw) c e f) (mo.set 24 d9)=wF (dF a b c e f) mo+1+AV.iN rw:=Rt (fs:=dF a b c e f) (cs:=mo) (k:=9) (k':=9) (n:=b) (i:=24) rfl (by rw[ec];rfl)
   have key:=fun tm' f0 f1=>tail tm' _ _ _ a (b+1+AV.iN rw) c m8 f0 f1 OJ (by omega) (by omega)
   simp at key
   refine key _ ?_ ?_
   ·simp[e0]
   ·simp[e1]
 simp[JM]
 simp[JL,f0,q0]
 refine(ajD S O2.P _ _).mono ?_
 rintro o h3 dw ⟨⟨t3,rfl,ht3⟩,x3⟩
 have O3:=O2.ext x3
 cases t3 with
 |true=>
  simp
  have key:=fun tm' f0 f1=>body tm' h3 dw f0 f1 O3 (ht3 rfl)
  simp at key
  refine key _ ?_ ?_
  ·simp[f0]
  ·simp[f1]
 |false=>
 simp[f0,q0]
 refine(ajD S O3.P _ _).mono ?_
 rintro o h4 jq ⟨⟨t4,rfl,ht4⟩,x4⟩
 have O4:=O3.ext x4
 cases t4 with
 |true=>
  simp
  have key:=fun tm' f0 f1=>body tm' h4 jq f0 f1 O4 (ht4 rfl)
  simp at key
  refine key _ ?_ ?_
  ·simp[f0]
  ·simp[f1]
 |false=>
 simp[f0,q0]
 refine(ajD S O4.P _ _).mono ?_
 rintro o h5 iW ⟨⟨t5,rfl,ht5⟩,x5⟩
 have O5:=O4.ext x5
 cases t5 with
 |true=>
  simp
  have key:=fun tm' f0 f1=>body tm' h5 iW f0 f1 O5 (ht5 rfl)
  simp at key
  refine key _ ?_ ?_
  ·simp[f0]
  ·simp[f1]
 |false=>
  simp
  have key:=fun tm' f0=>fin tm' h5 iW f0 O5
  simp at key
  refine key _ ?_
  simp[f0]
end Tb
/-
 SQ: the reference's parser: declarations. No condition.
-/
namespace Tb
open Go.Sx Go
def zC:CT→AV
 |.int=>I 0
 |.str=>.str 0 0
 |.bool=>.bool false
 |.sl _=>.nils
theorem au9{W:H6}:∀ t,dg W t (zC t)
 |.int=>.int _ (by omega) (by omega)
 |.str=>.str _ _ (by decide) (by omega)
 |.bool=>.bool _
 |.sl _=>.nil _
theorem ab3{h:T ab}{nx:Key}{A:Key→Prop}:∀ fs:List FS,(∀ k len,FS.g k len∈fs→len=0)→Fl W0 h nx A fs (fs.map fun f=>zC f.ct)
 | [],_=>.nil
 |.d t ::fs,hl=>.d _ _ _ _ (au9 t) (ab3 fs fun k len hk=>hl k len (by simp[hk]))
 |.g k len ::fs,hl=>by
  have:=hl k len (by simp)
  subst this
  exact .g _ _ _ _ _ (Gx.nil _ _ _ _) (fun b hb=>by rcases hb with⟨_,_,e⟩|⟨_,_,_,e⟩<;>cases e) (ab3 fs fun k len hk=>hl k len (by simp[hk]))
theorem Sr.base{p e:Key}{fs:List FS}{cs:List AV}{m:Nat}{A:Key→Prop}{h0 h1 h:T ab}{nx0 aY nx:Key}(O:Sr p e fs cs m A h1 aY h nx)(k:Ks p h0 nx0 h1 aY)(hp:p.toNat<nx0.toNat):Sr p e fs cs m A h0 nx0 h nx:=
 ⟨O.P,O.g,O.F,k.trans O.k,hp,by have:=O.lo;have:=k.n;omega,O.hi,O.eA,fun b hb=>by have:=O.aA b hb;have:=k.n;omega,O.fA⟩
abbrev dZ:List AV:=(dF 0 0 0 0 0).map fun f=>zC f.ct
variable{C:cU}(S:dd C)
include S
theorem amA:XR C Ah [] (aoC 6):=by
 intro h nx
 have s1:=kTSu nx
 refine S.aan.call ?_
 simp[GO]
 simp[OU]
 refine ab4 (L:=mR ru) rfl ?_
 have hl:(mR ru).length=6:=rfl
 have hs:=agS (L:=mR ru) rfl
 generalize mR ru=L at hl hs
 have hz:=si (n:=9998) (b:=nx) (len:=6) (sz:=1) (l:=L) (H:=aK nx (some (.cells L .fix)) h) (by rw[gTSm]) (by omega) (YJ hs)
 simp[hz]
 exact⟨⟨L,rfl,hl,hs⟩,by omega,fun b hb=>by rw[bA (by omega)]⟩
abbrev dA(nx:Key):Key→Prop:=Al nx.succ nx.succ
abbrev Dw(p:Key)(h:T ab)(nx:Key)(na nb nc ne nf:Nat)(cs:List AV)(m:Nat)(h':T ab)(nx':Key):Prop:=Sr p nx.succ (dF na nb nc ne nf) cs m (dA nx) (aK nx (some (.cells dZ .fix)) h) nx.succ h' nx'
def ajL(p:Key)(M:Nat)(L:List AV)(h:T ab)(nx:Key)(k:Nat)(tm':T AV)(h':T ab)(nx':Key):Prop:=
 ∃ (i:Nat) (kd:Int) (cs:List AV) (m':Nat),k=6-i∧i≤6∧aa (K 0) tm'=some (.ptr p 0)∧aa (K 2) tm'=some (.ptr nx 0)∧aa (K 3) tm'=some (.ptr nx.succ 0)∧aa (K 4) tm'=some (.sl L 6 1 .any)∧aa (K 5) tm'=some (I i)∧Dw p h nx 0 0 0 0 0 (I kd ::cs) m' h' nx'∧wF (dF 0 0 0 0 0) (I kd ::cs)≤0∧m'≤M∧(kd=-1∨(0≤kd∧kd≤5∧m'<M))
theorem adC{p:Key}{M:Nat}{h:T ab}{nx:Key}{na nb nc ne nf:Nat}{cs:List AV}{m:Nat}{h':T ab}{nx':Key}{tm:T AV}(hp:p.toNat<nx.toNat)(O:Dw p h nx na nb nc ne nf cs m h' nx')(hn:M≤8000)(e2:aa (K 2) tm=some (.ptr nx 0))(e3:aa (K 3) tm=some (.ptr nx.succ 0))(hm:Rl M m (wF (dF na nb nc ne nf) cs)) :
  bt C ((U.ops gW).seq .ret) (aN [RV.cell (K 2) true 45] (mf (W0 14) p M h nx)) tm h' nx':=by
 have s0:=kTSu nx
 have hl:cs.length=45:=O.F.len
 have hc:cs.all AV.aD=true:=mi.2 O.F.aU
 have gz:aa nx h'=some (.cells dZ .fix):=by rw[O.k.g nx (by omega) (aG (by omega)),gTSm]
 have O':=O.base ((Ks.refl p h nx).new) hp
 simp
 simp[gW,e2,e3,O.g,hl,sh hl,hc,gz]
 obtain⟨⟨l,m',a,b,c,d⟩,e⟩:=O'.amu (rb:=nx) (B:=wF (dF na nb nc ne nf) cs+8*m) (fun h2=>by have:=h2.1;omega) (bS _) rfl (by omega) (bS _) 9997
 exact⟨⟨l,m',a,b,c,by omega⟩,e⟩
end Tb
/-
 SG: generators of the reference: the state, structures under way (as for its parser). No condition.
-/
namespace Tg
open Go.Sx Go Tb
def IL(c:AV):Prop:=c=.nils∨∃ l:List Int,c=.sl (l.map fun n=>I n) l.length 1 .any∧∀ n∈l,-9223372036854775808≤n∧n<9223372036854775808
theorem IL.jh{c:AV}(h:IL c):XP c:=by
 rcases h with rfl|⟨l,rfl,_⟩
 ·exact QS
 ·exact VH _ _ _
theorem IL.cell{c:AV}(h:IL c):c.aD=true:=by
 rcases h with rfl|⟨l,rfl,_⟩<;>rfl
theorem IL.cells{c:AV}(h:IL c):c.cells=[c]:=by
 rcases h with rfl|⟨l,rfl,_⟩<;>rfl
structure PP(p:Key)(h:T ab)(nx:Key):Prop where
 hi:p.toNat<nx.toNat
 at_:∃ (c:AV) (n:Int),aa p h=some (.cells [c,I n] .fix)∧IL c∧-9223372036854775808≤n∧n<9223372036854775808
theorem PP.ext{p:Key}{h h':T ab}{nx nx':Key}(P:PP p h nx)(e:Ext h nx h' nx'):PP p h' nx':=by
 obtain⟨c,i,a1,a2⟩:=P.at_
 exact⟨by have:=P.hi;have:=e.n;omega,c,i,by rw[e.g p P.hi];exact a1,a2⟩
theorem PP.put{p b:Key}{h:T ab}{nx:Key}{B:Option ab}(P:PP p h nx)(hb:b≠p):PP p (aK b B h) nx:=by
 obtain⟨c,i,a1,a2⟩:=P.at_
 exact⟨P.hi,c,i,by rw[bU _ _ _ _ (Ne.symm hb)];exact a1,a2⟩
theorem PP.up{p:Key}{h:T ab}{nx nx':Key}(P:PP p h nx)(hn:nx.toNat≤nx'.toNat):PP p h nx':=⟨by have:=P.hi;omega,P.at_⟩
def mf(ts:List CT)(B:Nat)(p:Key)(h:T ab)(nx:Key)(o:Out)(h':T ab)(nx':Key):Prop:=(∃ (l:List AV),o=.ret (.agg l)∧cJ W0 ts l∧AV.iN l≤B∧PP p h' nx')∧Ks p h nx h' nx'
def jF(k:Nat)(B:Nat)(p:Key)(h:T ab)(nx:Key)(o:Out)(h':T ab)(nx':Key):Prop:=(∃ (c:AV),o=.ret c∧dg W0 (.sl k) c∧AV.wt c≤B∧PP p h' nx')∧Ks p h nx h' nx'
theorem PP.lo{p n0:Key}{h h':T ab}{nx nx':Key}(P:PP p h nx)(l:Lo n0 h h')(hp:p.toNat<n0.toNat)(hn:nx.toNat≤nx'.toNat):PP p h' nx':=by
 obtain⟨c0,j,a1,a2⟩:=P.at_
 exact⟨by have:=P.hi;omega,c0,j,by rw[l p hp];exact a1,a2⟩
structure Ow(p rb:Key)(B:List AV)(h0:T ab)(nx0:Key)(h:T ab)(nx:Key):Prop where
 P:PP p h nx
 g:aa rb h=some (.cells B .fix)
 k:Ks p h0 nx0 h nx
 lo:nx0.toNat≤rb.toNat
 hi:rb.toNat<nx.toNat
 ne:rb≠p
theorem Ow.new{p:Key}{h:T ab}{nx:Key}(P:PP p h nx)(B:List AV):Ow p nx B h nx (aK nx (some (.cells B .fix)) h) nx.succ:=
 ⟨P.ext (E0 h nx _),by rw[gTSm],(E0 h nx _).ks p,bS _,by rw[kTSu];omega,aG (by have:=P.hi;omega)⟩
variable{p rb:Key}{B:List AV}{h0 h h':T ab}{nx0 nx nx':Key}
theorem Ow.call(O:Ow p rb B h0 nx0 h nx)(P:PP p h' nx')(k:Ks p h nx h' nx'):Ow p rb B h0 nx0 h' nx':=
 ⟨P,bH k O.hi O.ne O.g,O.k.trans k,O.lo,by have:=O.hi;have:=k.n;omega,O.ne⟩
theorem Ow.ext(O:Ow p rb B h0 nx0 h nx)(e:Ext h nx h' nx'):Ow p rb B h0 nx0 h' nx':=O.call (O.P.ext e) (e.ks p)
theorem Ow.yx(O:Ow p rb B h0 nx0 h nx)(B':List AV):Ow p rb B' h0 nx0 (aK rb (some (.cells B' .fix)) h) nx:=
 ⟨O.P.put O.ne,by rw[gTSm],O.k.put O.lo,O.lo,O.hi,O.ne⟩
theorem Ow.low{H:T ab}(O:Ow p rb B h0 nx0 h nx)(l:Lo nx0 h H)(hp:p.toNat<nx0.toNat):PP p H nx∧Ks p h0 nx0 H nx:=
 ⟨O.P.lo l hp (bS _),O.k.lo l (bS _) (bS _)⟩
theorem Ow.ret{ts:List CT}{l:List AV}{N:Nat}(O:Ow p rb B h0 nx0 h nx)(ho:cJ W0 ts l)(hw:AV.iN l≤N):mf ts N p h0 nx0 (.ret (.agg l)) h nx:=
 ⟨⟨l,rfl,ho,hw,O.P⟩,O.k⟩
theorem Ow.more{p rb:Key}{B B':List AV}{h0 h:T ab}{nx0 nx:Key}(O:Ow p rb B h0 nx0 h nx):Ow p nx B' h0 nx0 (aK nx (some (.cells B' .fix)) h) nx.succ:=
 ⟨O.P.ext (E0 h nx _),by rw[gTSm],O.k.new,by have:=O.k.n;omega,by rw[kTSu];omega,aG (by have:=O.P.hi;omega)⟩
theorem Ow.xE{p rb:Key}{B:List AV}{h0 h:T ab}{nx0 nx:Key}(O:Ow p rb B h0 nx0 h nx)(B':ab):Ow p rb B h0 nx0 (aK nx (some B') h) nx.succ:=O.ext (E0 h nx B')
theorem Ow.ae1{p rb q:Key}{B L row:List AV}{len z:Nat}{h0 H:T ab}{nx0 nx:Key}{ts:List CT}{f:AV→List AV}(O:Ow p rb B h0 nx0 H nx)(R:Ow p q L h0 nx0 H nx)(hq:q≠rb)(hl:L.length=len*z)(hs:∀ y∈L,XP y){N:Nat}(ho:cJ W0 ts (f (.sl L len z .any)))(hw:AV.iN (f (.sl L len z .any))≤N) :
  mf ts N p h0 nx0 (.ret (.agg (f (ax 9998 (.slice q 0 len z) (aK rb (some (.cells row .fix)) H)).1))) (ax 9998 (.slice q 0 len z) (aK rb (some (.cells row .fix)) H)).2 nx:=by
 rw[si (n:=9997) (l:=L) (by rw[bU _ _ _ _ hq];exact R.g) hl hs]
 exact⟨⟨_,rfl,ho,hw,(O.P.put O.ne).put R.ne⟩,(O.k.put O.lo).put R.lo⟩
theorem Gw.more{k z:Nat}{c:AV}{len:Nat}{p n0:Key}{h h0:T ab}{nx:Key}{l:List AV}(hz:(W0 k).length=z)(g:Gw W0 k c len h nx n0)(P:PP p h nx)(K:Ks p h0 n0 h nx)(hp:p.toNat<n0.toNat)(ol:cJ W0 (W0 k) l)(hl:len+1≤1048576) :
  ∃ c' h' nx',appendTo z c l 1 (aK nx (some (.cells l .fix)) h) nx.succ=.val c' h' nx'∧Gw W0 k c' (len+1+AV.iN l) h' nx' n0∧PP p h' nx'∧Ks p h0 n0 h' nx'∧Lo n0 h h'∧nx.toNat≤nx'.toNat:=by
 subst hz
 have s3:=kTSu nx
 have kn:=K.n
 obtain⟨c4,h4,jq,a1,g4,n4,l4,_⟩:=(g.ext (E0 h nx (.cells l .fix))).add (by omega) ol hl
 have h3p:nx≠p:=aG (by have:=P.hi;omega)
 refine⟨c4,h4,jq,a1,g4,((P.up (by omega)).put (B:=some (.cells l .fix)) h3p).lo l4 hp n4,(K.new (B:=.cells l .fix)).lo l4 (bS _) n4,fun b hb=>by rw[l4 b hb,bA (by omega)],by omega⟩
structure Sr(p e:Key)(fs:List FS)(cs:List AV)(A:Key→Prop)(h0:T ab)(nx0:Key)(h:T ab)(nx:Key):Prop where
 P:PP p h nx
 g:aa e h=some (.cells cs .fix)
 F:Fl W0 h nx A fs cs
 k:Ks p h0 nx0 h nx
 hp:p.toNat<nx0.toNat
 lo:nx0.toNat≤e.toNat
 hi:e.toNat<nx.toNat
 eA:¬ A e
 aA:∀ b,A b→nx0.toNat≤b.toNat
 fA:∀ b:Key,nx.toNat≤b.toNat→A b
variable{e:Key}{fs:List FS}{cs:List AV}{A:Key→Prop}
theorem Sr.ne(O:Sr p e fs cs A h0 nx0 h nx):e≠p:=aG (by have:=O.hp;have:=O.lo;omega)
theorem Sr.call(O:Sr p e fs cs A h0 nx0 h nx)(P:PP p h' nx')(k:Ks p h nx h' nx'):Sr p e fs cs A h0 nx0 h' nx':=
 ⟨P,bH k O.hi O.ne O.g,O.F.stay k.n fun c hc b hb=>k.g b (O.F.own c hc hb).2 (aG (by have:=O.aA b (O.F.own c hc hb).1;have:=O.hp;omega)),O.k.trans k,O.hp,O.lo,by have:=O.hi;have:=k.n;omega,O.eA,O.aA,fun b hb=>O.fA b (by have:=k.n;omega)⟩
theorem Sr.ext(O:Sr p e fs cs A h0 nx0 h nx)(x:Ext h nx h' nx'):Sr p e fs cs A h0 nx0 h' nx':=O.call (O.P.ext x) (x.ks p)
theorem Sr.xE(O:Sr p e fs cs A h0 nx0 h nx)(B:ab):Sr p e fs cs A h0 nx0 (aK nx (some B) h) nx.succ:=O.ext (E0 h nx B)
theorem Sr.app(O:Sr p e fs cs A h0 nx0 h nx){i k len:Nat}(hi:fs[i]?=some (.g k len))(hz:0<(W0 k).length){r:List AV}(hr:cJ W0 (W0 k) r)(hl:len+1≤1048576) :
  ∃ c c' h' nx',cs[i]?=some c∧AV.beq c c=true∧appendTo (W0 k).length c r 1 h nx=.val c' h' nx'∧c'.aD=true∧c'.cells=[c']∧aa e h'=some (.cells cs .fix)∧nx.toNat≤nx'.toNat∧(∀ b:Key,b.toNat<nx.toNat→¬ A b→aa b h'=aa b h)∧Sr p e (fs.set i (.g k (len+1+AV.iN r))) (cs.set i c') A h0 nx0 (aK e (some (.cells (cs.set i c') .fix)) h') nx':=by
 obtain⟨c,hc,hg,hd⟩:=O.F.at_ hi
 obtain⟨c',h',nx',a1,a2,a3,a4,a5⟩:=hg.add hz O.fA hr hl
 have hfr:∀ b:Key,b.toNat<nx.toNat→¬ A b→aa b h'=aa b h:=fun b hb hA=>a5 b hb fun h2=>hA (hg.own h2).1
 have hpA:¬ A p:=fun h2=>by have:=O.aA p h2;have:=O.hp;omega
 have hg':aa e h'=some (.cells cs .fix):=by rw[hfr e O.hi O.eA];exact O.g
 obtain⟨c1,c2⟩:=a2.cell
 refine⟨c,c',h',nx',hc,hg.beq,a1,c1,c2,hg',a4,hfr,?_⟩
 have F1:=O.F.aia (Gx.nil k h nx A) hi (fun c _ b hb=>by rcases hb with⟨_,_,e⟩|⟨_,_,_,e⟩<;>cases e)
 have mO:∀ x∈cs.set i .nils,∀ b,rk x b→b.toNat<nx.toNat∧¬ rk c b:=by
  intro x hx b hb
  refine⟨(F1.own x hx hb).2,?_⟩
  obtain⟨j,hj⟩:=List.getElem?_of_mem hx
  by_cases hji:j=i
  ·subst hji
   have:x=.nils:=by
    rw[List.getElem?_set] at hj
    simp at hj
    exact hj.2.symm
   subst this
   rcases hb with⟨_,_,e⟩|⟨_,_,_,e⟩<;>cases e
  ·rw[List.getElem?_set_ne (Ne.symm hji)] at hj
   exact fun h2=>hd j x b hji hj h2 hb
 have F2:=F1.stay (h':=h') a4 (fun x hx b hb=>a5 b (mO x hx b hb).1 (mO x hx b hb).2)
 have F3:=F2.aia (k:=k) (len:=0) (i:=i) a2 (by
  rw[List.getElem?_set]
  have:i<fs.length:=by
   have:=List.getElem?_eq_some_iff.1 hi
   exact this.1
  simp[this]) (fun x hx b hb h2=>by have:=a3 b hb;have:=(mO x hx b h2).1;omega)
 rw[List.set_set,List.set_set] at F3
 refine⟨?_,by rw[gTSm],F3.stay (bS _) fun x hx b hb=>?_,?_,O.hp,O.lo,by have:=O.hi;omega,O.eA,O.aA,fun b hb=>O.fA b (by omega)⟩
 ·obtain⟨c0,j,b1,b2⟩:=O.P.at_
  exact PP.put ⟨by have:=O.P.hi;omega,c0,j,by rw[hfr p O.P.hi hpA];exact b1,b2⟩ O.ne
 ·rw[bU]
  rintro rfl
  exact O.eA (F3.own x hx hb).1
 ·refine Ks.put ⟨by have:=O.k.n;omega,fun b hb hbp=>?_⟩ O.lo
  rw[hfr b (by have:=O.k.n;omega) (fun h2=>by have:=O.aA b h2;omega)]
  exact O.k.g b hb hbp
theorem Sr.Dq(O:Sr p e fs cs A h0 nx0 h nx){i:Nat}{f:FS}(hi:fs[i]?=some f){v:AV}(hv:dg W0 f.ct v):Sr p e (fs.set i (.d f.ct)) (cs.set i v) A h0 nx0 (aK e (some (.cells (cs.set i v) .fix)) h) nx:=
 ⟨O.P.put O.ne,by rw[gTSm],(O.F.Dq hv hi rfl).stay (bS _) fun x hx b hb=>bU _ _ _ _ (by
   rintro rfl
   exact O.eA ((O.F.Dq hv hi rfl).own x hx hb).1),O.k.put O.lo,O.hp,O.lo,O.hi,O.eA,O.aA,O.fA⟩
theorem Sr.ret{rb:Key}{ts:List CT}(O:Sr p e fs cs A h0 nx0 h nx)(hrb:¬ A rb)(vj:nx0.toNat≤rb.toNat)(hts:fs.map FS.ct=ts){N:Nat}(hlen:wF fs cs≤N)(hN:N≤100000)(n:Nat) :
  mf ts N p h0 nx0 (.ret (.agg (az (ax (n+1)) cs (aK rb (some (.cells cs .fix)) h)).1)) (az (ax (n+1)) cs (aK rb (some (.cells cs .fix)) h)).2 nx:=by
 have hpA:¬ A p:=fun h2=>by have:=O.aA p h2;have:=O.hp;omega
 have hrp:rb≠p:=aG (by have:=O.hp;omega)
 have F1:=O.F.stay (h':=aK rb (some (.cells cs .fix)) h) (bS _) fun x hx b hb=>bU _ _ _ _ (by
   rintro rfl
   exact hrb (O.F.own x hx hb).1)
 obtain⟨a,aw,b⟩:=F1.Uf (by omega) n _ (fun _ _ _ _=>rfl)
 rw[hts] at a
 have P1:=O.P.put (B:=some (.cells cs .fix)) hrp
 have k1:=O.k.put (B:=some (.cells cs .fix)) vj
 obtain⟨c0,j,b1,b2⟩:=P1.at_
 refine⟨⟨_,rfl,a,by omega,⟨P1.hi,c0,j,by rw[b p hpA];exact b1,b2⟩⟩,k1.n,fun x hx hxp=>?_⟩
 rw[b x (fun h2=>by have:=O.aA x h2;omega)]
 exact k1.g x hx hxp
theorem Sr.ZG{p e:Key}{fs:List FS}{cs:List AV}{A:Key→Prop}{h0 h:T ab}{nx0 nx:Key}(O:Sr p e fs cs A h0 nx0 h nx){ts:List CT}{vs:List AV}(hr:cJ W0 ts vs){i:Nat}(hi:i≤fs.length){j:Nat}(hj:i+vs.length=j)(hf:fs.take i++(ts.map FS.d++fs.drop (i+ts.length))=fs) :
  Sr p e fs (cs.take i++(vs++cs.drop j)) A h0 nx0 (aK e (some (.cells (cs.take i++(vs++cs.drop j)) .fix)) h) nx:=by
 have F:=Vb hr O.F i hi
 rw[hf,hj] at F
 exact⟨O.P.put O.ne,by rw[gTSm],F.stay (bS _) fun x hx b hb=>bU _ _ _ _ (by
   rintro rfl
   exact O.eA (F.own x hx hb).1),O.k.put O.lo,O.hp,O.lo,O.hi,O.eA,O.aA,O.fA⟩
theorem Sr.adX{p e q:Key}{fs:List FS}{cs:List AV}{A:Key→Prop}{h0 h:T ab}{nx0 nx:Key}(O:Sr p e fs cs A h0 nx0 h nx)(hq:e≠q)(hp:q≠p)(hA:∀ c∈cs,¬ rk c q)(hl:nx0.toNat≤q.toNat){B:Option ab}:Sr p e fs cs A h0 nx0 (aK q B h) nx:=
 ⟨O.P.put hp,by rw[bU _ _ _ _ hq];exact O.g,O.F.stay (bS _) fun x hx b hb=>bU _ _ _ _ (by rintro rfl;exact hA x hx hb),O.k.put hl,O.hp,O.lo,O.hi,O.eA,O.aA,O.fA⟩
theorem Sr.OS{p e:Key}{h3 h:T ab}{dw nx:Key}{fs:List FS}{cs:List AV}{A:Key→Prop}{ts:List CT}(O:Sr p e fs cs A h3 dw h nx)(hts:fs.map FS.ct=ts)(hlen:wF fs cs≤100000) :
  cJ W0 ts (az (ax 9999) cs (aK nx (some (.cells cs .fix)) h)).1∧AV.iN (az (ax 9999) cs (aK nx (some (.cells cs .fix)) h)).1≤wF fs cs∧PP p (az (ax 9999) cs (aK nx (some (.cells cs .fix)) h)).2 nx.succ∧Ks p h3 dw (az (ax 9999) cs (aK nx (some (.cells cs .fix)) h)).2 nx.succ:=by
 have s1:=kTSu nx
 have O1:=O.xE (.cells cs .fix)
 obtain⟨a1,aw,a2⟩:=O1.F.Uf hlen 9998 _ (fun _ _ _ _=>rfl)
 rw[hts] at a1
 have hpA:¬ A p:=fun h2=>by have:=O.aA p h2;have:=O.hp;omega
 refine⟨a1,aw,?_,⟨by have:=O1.k.n;omega,fun b hb hbp=>?_⟩⟩
 ·obtain⟨c0,j,d1,d2⟩:=O1.P.at_
  exact⟨O1.P.hi,c0,j,by rw[a2 p hpA];exact d1,d2⟩
 ·rw[a2 b (fun h2=>by have:=O.aA b h2;omega)]
  exact O1.k.g b hb hbp
theorem Sr.base{p e:Key}{fs:List FS}{cs:List AV}{A:Key→Prop}{h0 h1 h:T ab}{nx0 aY nx:Key}(O:Sr p e fs cs A h1 aY h nx)(k:Ks p h0 nx0 h1 aY)(hp:p.toNat<nx0.toNat):Sr p e fs cs A h0 nx0 h nx:=
 ⟨O.P,O.g,O.F,k.trans O.k,hp,by have:=O.lo;have:=k.n;omega,O.hi,O.eA,fun b hb=>by have:=O.aA b hb;have:=k.n;omega,O.fA⟩
end Tg
/-
 SG: generators of the reference: numbers, words. No condition.
-/
namespace Tg
open Go.Sx Go Tb
def InI(arz:Int)(h:T ab)(nx:Key)(o:Out)(h':T ab)(nx':Key):Prop:=(∃ n:Int,o=.ret (I n)∧0≤n∧n<arz)∧Ext h nx h' nx'
def avK(arz:Int)(p:Key)(h:T ab)(nx:Key)(o:Out)(h':T ab)(nx':Key):Prop:=(∃ n:Int,o=.ret (I n)∧0≤n∧n<arz∧PP p h' nx')∧Ks p h nx h' nx'
def avL(M:Nat)(p:Key)(h:T ab)(nx:Key)(o:Out)(h':T ab)(nx':Key):Prop:=(∃ n c:Nat,o=.ret (.str n c)∧n≤M∧c<256^n∧PP p h' nx')∧Ks p h nx h' nx'
theorem arA(n:Int):-9223372036854775808≤aW .i64 n∧aW .i64 n<9223372036854775808:=by
 have h:=DW n
 generalize aW .i64 n=w at h ⊢
 have:∀ {t:CT} {c:AV},dg W0 t c→∀ w,t=.int→c=.int .i64 (.lit w)→-9223372036854775808≤w∧w<9223372036854775808:=by
  intro t c h w ht hc
  cases h with
  |int n a b=>cases hc;exact⟨a,b⟩
  |str=>cases ht
  |bool=>cases ht
  |nil=>cases ht
  |sl=>cases ht
 exact this h w rfl rfl
variable{C:cU}(S:dd C)
include S
theorem akt{n m:Int}(h1:-9223372036854775808≤n)(h2:n<9223372036854775808)(m1:0<m)(h:T ab)(nx:Key):aO C jI [I n,I m] h nx (InI m h nx):=by
 have hm:(m==0)=false:=by simp;omega
 refine S.QO.call ?_
 simp[wk]
 simp[B0]
 have go:∀ k:Int,0≤k→k<9223372036854775808→∀ tm,aa (K 0) tm=some (I k)→aa (K 1) tm=some (I m)→bt C ((U.ops pA).seq U.ret) (aN [RV.tmp (K 4)] (InI m h nx)) tm h nx:=by
  intro k k1 k2 tm e0 e1
  simp
  simp[pA,e0,e1,hm]
  exact⟨⟨_,rfl,Int.tmod_nonneg _ k1,Int.tmod_lt_of_pos _ m1⟩,Ext.refl _ _⟩
 simp at go
 by_cases hn:n<0
 ·simp[pz,hn]
  simp[B3]
  have w1:aW .i64 (n+1)=n+1:=br (by omega) (by omega)
  have w2:aW .i64 (-(n+1))=-(n+1):=br (by omega) (by omega)
  rw[w1,w2]
  exact go (-(n+1)) (by omega) (by omega) _ (by simp) (by simp)
 ·simp[pz,hn]
  exact go n (by omega) h2 _ (by simp) (by simp)
theorem arB{c:AV}(hc:IL c)(i:Int){m:Int}(m1:0<m)(h:T ab)(nx:Key):aO C DL [c,I i,I m] h nx (InI m h nx):=by
 have q1:=S.Zd
 refine S.acq.call ?_
 simp[LF]
 simp[Sn]
 have zero:InI m h nx (.ret (I 0)) h nx:=⟨⟨0,rfl,by omega,m1⟩,Ext.refl _ _⟩
 by_cases hi:i<0
 ·simp[uh,hi]
  simp[As]
  exact zero
 ·rcases hc with rfl|⟨l,rfl,hl⟩
  ·have IU:(0:Int)≤i:=by omega
   simp[uh,hi]
   simp[As]
   exact zero
  ·by_cases aM:i<(l.length:Int)
   ·obtain⟨j,rfl⟩:∃ j:Nat,i=j:=⟨i.toNat,by omega⟩
    have hj:j<l.length:=by omega
    have hr:=hl l[j] (XV hj)
    simp[uh,hi,aM]
    have h1j:1≤l.length-j:=by omega
    have hd:List.take 1 (List.drop j (l.map fun n=>I n))=[I l[j]]:=by
     rw[← List.map_drop,← List.map_take,zqt hj];rfl
    simp[Sp,hj,h1j,hd,q1]
    refine(akt S hr.1 hr.2 m1 _ _).mono ?_
    rintro o h1 aY ⟨⟨n,rfl,n1,n2⟩,x1⟩
    simp
    exact⟨⟨n,rfl,n1,n2⟩,x1⟩
   ·simp[uh,hi,aM]
    simp[As]
    exact zero
theorem Bz{p:Key}{h:T ab}{nx:Key}(P:PP p h nx){m:Int}(m1:0<m):aO C cq [.ptr p 0,I m] h nx (avK m p h nx):=by
 have q1:=S.acr
 obtain⟨c,n,g,hc,n1,n2⟩:=P.at_
 refine S.Ze.call ?_
 simp[DO]
 simp[MO]
 simp[MP,g]
 have hw:=arA (n+1)
 generalize aW .i64 (n+1)=w at hw
 have hz:∀ n H,ax n c H=(c,H):=hc.jh
 simp[MQ,hz,q1]
 refine(arB S hc _ m1 _ _).mono ?_
 rintro o h1 aY ⟨⟨n',rfl,b1,b2⟩,x1⟩
 have P1:PP p (aK p (some (.cells [c,I w] .fix)) h) nx:=⟨P.hi,c,w,by rw[gTSm],hc,hw⟩
 simp
 exact⟨⟨n',rfl,b1,b2,P1.ext x1⟩,(tw p h nx _).trans (x1.ks p)⟩
end Tg
/-
 SG: generators of the reference: digits, words, lists. No condition.
-/
namespace Tg
open Go.Sx Go Tb
def axZ(M:Nat)(L:List AV):Prop:=∀ x∈L,∃ n c:Nat,x=.str n c∧n≤M∧c<256^n
theorem axZ.at_{M:Nat}{L:List AV}(hL:axZ M L){i:Int}(h0:0≤i)(h1:i<L.length):∃ (j n c:Nat),i=j∧j<L.length∧1≤L.length-j∧List.take 1 (List.drop j L)=[.str n c]∧n≤M∧c<256^n:=by
 obtain⟨j,rfl⟩:∃ j:Nat,i=j:=⟨i.toNat,by omega⟩
 have hj:j<L.length:=by omega
 obtain⟨n,c,e,hn,hc⟩:=hL L[j] (XV hj)
 refine⟨j,n,c,rfl,hj,by omega,?_,hn,hc⟩
 rw[zqt hj,e];rfl
variable{C:cU}(S:dd C)
include S
def ax0(n:Int)(h:T ab)(nx:Key)(k:Nat)(tm:T AV)(h':T ab)(nx':Key):Prop:=h'=h∧nx'=nx∧aa (K 0) tm=some (I n)∧aa (K 3) tm=some (.str 10 270211885617516653982000)∧((k=1∧aa (K 5) tm=some (I n)∧aa (K 4) tm=some (.str 0 0))∨(k=0∧aa (K 5) tm=some (I 0)∧∃ c,aa (K 4) tm=some (.str 1 c)∧c<256))
def Dig(o:Out):Prop:=∃ c:Nat,o=.ret (.str 1 c)∧c<256
theorem HR{n:Int}(h1:0≤n)(h2:n≤9):XR C cZ [I n] Dig:=by
 intro h nx
 refine S.XC.call ?_
 simp[Aq]
 simp[Jn]
 have:n=0∨n=1∨n=2∨n=3∨n=4∨n=5∨n=6∨n=7∨n=8∨n=9:=by omega
 rcases this with rfl|hk|hk|hk|hk|hk|hk|hk|hk|hk
 ·simp[zq]
  simp[Jo]
  exact⟨⟨_,rfl,by decide⟩,Ext.refl _ _⟩
 all_goals
  have hn0:(n==0)=false:=by simp;omega
  have hnz:¬ n=0:=by omega
  have hwk:∀ k:Int,0≤k→k≤10→aW .i64 k=k:=fun k a b=>br (by omega) (by omega)
  simp[zq,hn0]
  simp[Jp]
  simp[Jq]
  simp[Jr]
  refine W.bV (n:=1) (ax0 n h nx) ?_ ?_
  ·exact⟨rfl,rfl,by simp,by simp,.inl ⟨rfl,by simp,by simp⟩⟩
  rintro k jk h1 aY ⟨rfl,rfl,f0,f3,⟨rfl,f5,f4⟩|⟨rfl,f5,c,f4,hc⟩⟩
  ·refine W.of ?_
   subst hk
   simp[zu]
   simp[zt,f5]
   simp[Js,f5]
   simp[Jt]
   simp[Hd,f3,f4,hwk]
   simp[He,f5,hwk]
   refine⟨rfl,rfl,by simp[f0],by simp[f3],.inr ⟨rfl,by simp,_,by simp;rfl,by decide⟩⟩
  ·refine W.of ?_
   subst hk
   simp[zu]
   simp[zt,f5]
   simp[Hf,f0]
   simp[Hg,f4]
   exact⟨⟨_,rfl,hc⟩,Ext.refl _ _⟩
theorem lU{p:Key}{h:T ab}{nx:Key}(P:PP p h nx){m:Int}(m1:0≤m)(m2:m≤9):aO C bE [.ptr p 0,I m] h nx (avL 1 p h nx):=by
 have q1:=S.cX
 have q2:=S.fG
 have hw:aW .i64 (m+1)=m+1:=br (by omega) (by omega)
 refine S.Wl.call ?_
 simp[wK]
 simp[Ha]
 simp[Hc,hw,q1]
 refine(Bz S P (by omega:0<m+1)).mono ?_
 rintro o h1 aY ⟨⟨n,rfl,n1,n2,P1⟩,k1⟩
 simp[q2]
 refine(HR S n1 (by omega) _ _).mono ?_
 rintro o h2 aH ⟨⟨c,rfl,hc⟩,x2⟩
 simp
 exact⟨⟨1,c,rfl,by omega,by simpa using hc,P1.ext x2⟩,k1.trans (x2.ks p)⟩
end Tg
/-
 SG: generators of the reference: texts of integers and truth values, rows. No condition.
-/
namespace Tg
open Go.Sx Go Tb
theorem aT{n c m d A B:Nat}(hn:n≤A)(hm:m≤B)(h:A+B≤1000000):∃ n' c',opS .add n c m d=some (.str n' c')∧n'≤A+B:=by
 refine⟨n+m,c+Nat.shiftLeft d (8*n),?_,by omega⟩
 show(bif Nat.ble (n+m) 4611686018427387904 then some (AV.str (n+m) (c+Nat.shiftLeft d (8*n))) else none)=_
 have:Nat.ble (n+m) 4611686018427387904=true:=Nat.ble_eq_true_of_le (by omega)
 rw[this];rfl
def qU(M:Nat)(L:List AV):Prop:=∀ x∈L,∃ n c:Nat,x=.str n c∧n≤M
def avR(M:Nat):AV→Bool
 |.str n _=>Nat.ble n M
 |_=>false
theorem D0{M:Nat}{L:List AV}(h:L.all (avR M)=true):qU M L:=by
 intro x hx
 have:=mi.1 h x hx
 cases x<;>simp[avR] at this
 exact⟨_,_,rfl,this⟩
theorem qU.jh{M:Nat}{L:List AV}(h:qU M L):∀ x∈L,XP x:=by
 intro x hx
 obtain⟨n,c,rfl,_⟩:=h x hx
 exact Uo _ _
theorem qU.up{M N:Nat}{L:List AV}(h:qU M L)(hn:M≤N):qU N L:=by
 intro x hx
 obtain⟨n,c,rfl,e⟩:=h x hx
 exact⟨n,c,rfl,by omega⟩
theorem qU.at_{M:Nat}{L:List AV}(hL:qU M L){i:Int}(h0:0≤i)(h1:i<L.length):∃ (j n c:Nat),i=j∧j<L.length∧1≤L.length-j∧List.take 1 (List.drop j L)=[.str n c]∧n≤M:=by
 obtain⟨j,rfl⟩:∃ j:Nat,i=j:=⟨i.toNat,by omega⟩
 have hj:j<L.length:=by omega
 obtain⟨n,c,e,hn⟩:=hL L[j] (XV hj)
 refine⟨j,n,c,rfl,hj,by omega,?_,hn⟩
 rw[zqt hj,e];rfl
theorem Ea{M:Nat}{L:List AV}{n:Nat}{h:T ab}{nx:Key}(hL:qU M L)(hn:L.length=n):ax 9999 (.slice nx 0 n 1) (aK nx (some (.cells L .fix)) h)=(.sl L n 1 .any,aK nx (some (.cells L .ro)) (aK nx (some (.cells L .fix)) h)):=
 si (n:=9998) (by rw[gTSm]) (by omega) hL.jh
theorem LU{L:List AV}{p:Key}{h:T ab}{nx:Key}(P:PP p h nx):PP p (aK nx (some (.cells L .ro)) h) nx.succ∧Ks p h nx (aK nx (some (.cells L .ro)) h) nx.succ:=
 ⟨P.ext (E0 h nx _),(E0 h nx _).ks p⟩
def OO(M:Nat)(p:Key)(h:T ab)(nx:Key)(o:Out)(h':T ab)(nx':Key):Prop:=(∃ n c:Nat,o=.ret (.str n c)∧n≤M∧PP p h' nx')∧Ks p h nx h' nx'
variable{C:cU}(S:dd C)
def vB(C:cU)(L:List AV)(n:Nat)(d:Int)(A:Nat):Prop:=∀ {p:Key} {h:T ab} {nx:Key},PP p h nx→aO C bT [.ptr p 0,.sl L n 1 .any,I d] h nx (OO A p h nx)
def tH(C:cU)(L:List AV)(n:Nat)(d:Int)(A:Nat):Prop:=∀ {p:Key} {h:T ab} {nx:Key},PP p h nx→aO C cY [.ptr p 0,.sl L n 1 .any,I d] h nx (OO A p h nx)
include S
theorem tx{p:Key}{h:T ab}{nx:Key}(P:PP p h nx){M:Nat}{L:List AV}(hL:qU M L)(h0:0<L.length){n:Nat}(hn:L.length=n):aO C df [.ptr p 0,.sl L n 1 .any] h nx (OO M p h nx):=by
 subst hn
 have q1:=S.cX
 refine S.V0.call ?_
 simp[wL]
 simp[Hh]
 simp[Hi,q1]
 refine(Bz S P (by omega:0<(L.length:Int))).mono ?_
 rintro o h1 aY ⟨⟨i,rfl,n1,n2,P1⟩,k1⟩
 obtain⟨j,n,c,rfl,hj,h1j,ht,hn⟩:=hL.at_ n1 n2
 simp[hj,h1j,ht]
 exact⟨⟨n,c,rfl,hn,P1⟩,k1⟩
variable{p:Key}{h:T ab}{nx:Key}{tm:T AV}{Q:bp}{L:List AV}{n V A B:Nat}{j d:Int}
theorem avS(P:PP p h nx)(hL:qU V L)(h0:0<L.length)(hn:L.length=n)(hI:vB C L n d A)(hB:tH C L n d B)(hA:A≤10000)(hBB:B≤10000)(hV:V≤1000)(e0:aa (K 0) tm=some (.ptr p 0))(e1:aa (K 1) tm=some (.sl L n 1 .any))(e2:aa (K 2) tm=some (I j))(hw:aW .i64 (j-1)=d)(cont:∀ tm' h' nx' n' c',aa (K 6) tm'=some (.str n' c')→n'≤V→PP p h' nx'→Ks p h nx h' nx'→Q .norm tm' h' nx'):eu C Q rK tm h nx:=by
 simp[rK,e0,e1,S.dS]
 refine(tx S P hL h0 hn).mono ?_
 rintro o h1 aY ⟨⟨s1,t1,rfl,b1,P1⟩,k1⟩
 simp
 exact cont _ _ _ s1 t1  (by simp) (by omega) P1 k1
theorem avT(P:PP p h nx)(hL:qU V L)(h0:0<L.length)(hn:L.length=n)(hI:vB C L n d A)(hB:tH C L n d B)(hA:A≤10000)(hBB:B≤10000)(hV:V≤1000)(e0:aa (K 0) tm=some (.ptr p 0))(e1:aa (K 1) tm=some (.sl L n 1 .any))(e2:aa (K 2) tm=some (I j))(hw:aW .i64 (j-1)=d)(cont:∀ tm' h' nx' n' c',aa (K 6) tm'=some (.str n' c')→n'≤((((1+A)+3)+A)+1)→PP p h' nx'→Ks p h nx h' nx'→Q .norm tm' h' nx'):eu C Q Cc tm h nx:=by
 simp[Cc,e0,e1,e2,hw,S.cN]
 refine(hI P).mono ?_
 rintro o h1 aY ⟨⟨s1,t1,rfl,b1,P1⟩,k1⟩
 obtain⟨s2,t2,a2,b2⟩:=aT (n:=1) (c:=40) (m:=s1) (d:=t1) (bS 1) b1 (by omega)
 obtain⟨s3,t3,a3,b3⟩:=aT (n:=s2) (c:=t2) (m:=3) (d:=2108192) b2 (bS 3) (by omega)
 simp[e0,e1,e2,hw,a2,a3,S.cN]
 refine(hI P1).mono ?_
 rintro o h4 jq ⟨⟨s4,t4,rfl,b4,P4⟩,k4⟩
 obtain⟨s5,t5,a5,b5⟩:=aT (n:=s3) (c:=t3) (m:=s4) (d:=t4) b3 b4 (by omega)
 obtain⟨s6,t6,a6,b6⟩:=aT (n:=s5) (c:=t5) (m:=1) (d:=41) b5 (bS 1) (by omega)
 simp[a5,a6]
 exact cont _ _ _ s6 t6  (by simp) (by omega) P4 (k1.trans k4)
theorem avU(P:PP p h nx)(hL:qU V L)(h0:0<L.length)(hn:L.length=n)(hI:vB C L n d A)(hB:tH C L n d B)(hA:A≤10000)(hBB:B≤10000)(hV:V≤1000)(e0:aa (K 0) tm=some (.ptr p 0))(e1:aa (K 1) tm=some (.sl L n 1 .any))(e2:aa (K 2) tm=some (I j))(hw:aW .i64 (j-1)=d)(cont:∀ tm' h' nx' n' c',aa (K 6) tm'=some (.str n' c')→n'≤((((1+A)+3)+A)+1)→PP p h' nx'→Ks p h nx h' nx'→Q .norm tm' h' nx'):eu C Q Cd tm h nx:=by
 simp[Cd,e0,e1,e2,hw,S.cN]
 refine(hI P).mono ?_
 rintro o h1 aY ⟨⟨s1,t1,rfl,b1,P1⟩,k1⟩
 obtain⟨s2,t2,a2,b2⟩:=aT (n:=1) (c:=40) (m:=s1) (d:=t1) (bS 1) b1 (by omega)
 obtain⟨s3,t3,a3,b3⟩:=aT (n:=s2) (c:=t2) (m:=3) (d:=2108704) b2 (bS 3) (by omega)
 simp[e0,e1,e2,hw,a2,a3,S.cN]
 refine(hI P1).mono ?_
 rintro o h4 jq ⟨⟨s4,t4,rfl,b4,P4⟩,k4⟩
 obtain⟨s5,t5,a5,b5⟩:=aT (n:=s3) (c:=t3) (m:=s4) (d:=t4) b3 b4 (by omega)
 obtain⟨s6,t6,a6,b6⟩:=aT (n:=s5) (c:=t5) (m:=1) (d:=41) b5 (bS 1) (by omega)
 simp[a5,a6]
 exact cont _ _ _ s6 t6  (by simp) (by omega) P4 (k1.trans k4)
theorem avV(P:PP p h nx)(hL:qU V L)(h0:0<L.length)(hn:L.length=n)(hI:vB C L n d A)(hB:tH C L n d B)(hA:A≤10000)(hBB:B≤10000)(hV:V≤1000)(e0:aa (K 0) tm=some (.ptr p 0))(e1:aa (K 1) tm=some (.sl L n 1 .any))(e2:aa (K 2) tm=some (I j))(hw:aW .i64 (j-1)=d)(cont:∀ tm' h' nx' n' c',aa (K 6) tm'=some (.str n' c')→n'≤((A+3)+1)→PP p h' nx'→Ks p h nx h' nx'→Q .norm tm' h' nx'):eu C Q Ce tm h nx:=by
 simp[Ce,e0,e1,e2,hw,S.cN]
 refine(hI P).mono ?_
 rintro o h1 aY ⟨⟨s1,t1,rfl,b1,P1⟩,k1⟩
 obtain⟨s2,t2,a2,b2⟩:=aT (n:=s1) (c:=t1) (m:=3) (d:=2107936) b1 (bS 3) (by omega)
 simp[e0,a2,S.bQ]
 refine(lU S P1 (m:=3) (by omega) (by omega)).mono ?_
 rintro o h3 dw ⟨⟨s3,t3,rfl,b3,_,P3⟩,k3⟩
 obtain⟨s4,t4,a4,b4⟩:=aT (n:=s2) (c:=t2) (m:=s3) (d:=t3) b2 b3 (by omega)
 simp[a4]
 exact cont _ _ _ s4 t4  (by simp) (by omega) P3 (k1.trans k3)
theorem avW(P:PP p h nx)(hL:qU V L)(h0:0<L.length)(hn:L.length=n)(hI:vB C L n d A)(hB:tH C L n d B)(hA:A≤10000)(hBB:B≤10000)(hV:V≤1000)(e0:aa (K 0) tm=some (.ptr p 0))(e1:aa (K 1) tm=some (.sl L n 1 .any))(e2:aa (K 2) tm=some (I j))(hw:aW .i64 (j-1)=d)(cont:∀ tm' h' nx' n' c',aa (K 6) tm'=some (.str n' c')→n'≤(((((3+1)+A)+2)+A)+1)→PP p h' nx'→Ks p h nx h' nx'→Q .norm tm' h' nx'):eu C Q Cf tm h nx:=by
 obtain⟨L1,Zo⟩:∃ L:List AV,L=[.str 3 7889261,.str 3 7235949]:=⟨_,rfl⟩
 have u1:qU 3 L1:=by rw[Zo];exact D0 rfl
 have l1:L1.length=2:=by rw[Zo];rfl
 have z1:=Ea (h:=h) (nx:=nx) u1 l1
 rw[Zo] at z1
 obtain⟨P1,k1⟩:=LU (L:=L1) P
 simp[Cf,e0,z1,S.dS]
 rw[← Zo]
 refine(tx S P1 (L:=L1) u1 (by omega) l1).mono ?_
 rintro o h2 aH ⟨⟨s2,t2,rfl,b2,P2⟩,k2⟩
 obtain⟨s3,t3,a3,b3⟩:=aT (n:=s2) (c:=t2) (m:=1) (d:=40) b2 (bS 1) (by omega)
 simp[e0,e1,e2,hw,a3,S.cN]
 refine(hI P2).mono ?_
 rintro o h4 jq ⟨⟨s4,t4,rfl,b4,P4⟩,k4⟩
 obtain⟨s5,t5,a5,b5⟩:=aT (n:=s3) (c:=t3) (m:=s4) (d:=t4) b3 b4 (by omega)
 obtain⟨s6,t6,a6,b6⟩:=aT (n:=s5) (c:=t5) (m:=2) (d:=8236) b5 (bS 2) (by omega)
 simp[e0,e1,e2,hw,a5,a6,S.cN]
 refine(hI P4).mono ?_
 rintro o h7 tZ ⟨⟨s7,t7,rfl,b7,P7⟩,k7⟩
 obtain⟨s8,t8,a8,b8⟩:=aT (n:=s6) (c:=t6) (m:=s7) (d:=t7) b6 b7 (by omega)
 obtain⟨s9,t9,a9,b9⟩:=aT (n:=s8) (c:=t8) (m:=1) (d:=41) b8 (bS 1) (by omega)
 simp[a8,a9]
 exact cont _ _ _ s9 t9  (by simp) (by omega) P7 (((k1.trans k2).trans k4).trans k7)
theorem avX(P:PP p h nx)(hL:qU V L)(h0:0<L.length)(hn:L.length=n)(hI:vB C L n d A)(hB:tH C L n d B)(hA:A≤10000)(hBB:B≤10000)(hV:V≤1000)(e0:aa (K 0) tm=some (.ptr p 0))(e1:aa (K 1) tm=some (.sl L n 1 .any))(e2:aa (K 2) tm=some (I j))(hw:aW .i64 (j-1)=d)(cont:∀ tm' h' nx' n' c',aa (K 6) tm'=some (.str n' c')→n'≤((((((4+B)+6)+A)+6)+A)+1)→PP p h' nx'→Ks p h nx h' nx'→Q .norm tm' h' nx'):eu C Q Ch tm h nx:=by
 simp[Ch,e0,e1,e2,hw,S.iM]
 refine(hB P).mono ?_
 rintro o h1 aY ⟨⟨s1,t1,rfl,b1,P1⟩,k1⟩
 obtain⟨s2,t2,a2,b2⟩:=aT (n:=4) (c:=543582504) (m:=s1) (d:=t1) (bS 4) b1 (by omega)
 obtain⟨s3,t3,a3,b3⟩:=aT (n:=s2) (c:=t2) (m:=6) (d:=35658519835680) b2 (bS 6) (by omega)
 simp[e0,e1,e2,hw,a2,a3,S.cN]
 refine(hI P1).mono ?_
 rintro o h4 jq ⟨⟨s4,t4,rfl,b4,P4⟩,k4⟩
 obtain⟨s5,t5,a5,b5⟩:=aT (n:=s3) (c:=t3) (m:=s4) (d:=t4) b3 b4 (by omega)
 obtain⟨s6,t6,a6,b6⟩:=aT (n:=s5) (c:=t5) (m:=6) (d:=35620100269344) b5 (bS 6) (by omega)
 simp[e0,e1,e2,hw,a5,a6,S.cN]
 refine(hI P4).mono ?_
 rintro o h7 tZ ⟨⟨s7,t7,rfl,b7,P7⟩,k7⟩
 obtain⟨s8,t8,a8,b8⟩:=aT (n:=s6) (c:=t6) (m:=s7) (d:=t7) b6 b7 (by omega)
 obtain⟨s9,t9,a9,b9⟩:=aT (n:=s8) (c:=t8) (m:=1) (d:=41) b8 (bS 1) (by omega)
 simp[a8,a9]
 exact cont _ _ _ s9 t9  (by simp) (by omega) P7 ((k1.trans k4).trans k7)
theorem avY(P:PP p h nx)(hL:qU V L)(h0:0<L.length)(hn:L.length=n)(hI:vB C L n d A)(hB:tH C L n d B)(hA:A≤10000)(hBB:B≤10000)(hV:V≤1000)(e0:aa (K 0) tm=some (.ptr p 0))(e1:aa (K 1) tm=some (.sl L n 1 .any))(e2:aa (K 2) tm=some (I j))(hw:aW .i64 (j-1)=d)(cont:∀ tm' h' nx' n' c',aa (K 6) tm'=some (.str n' c')→n'≤((((9+A)+8)+A)+1)→PP p h' nx'→Ks p h nx h' nx'→Q .norm tm' h' nx'):eu C Q u5 tm h nx:=by
 simp[u5,e0,e1,e2,hw,S.cN]
 refine(hI P).mono ?_
 rintro o h1 aY ⟨⟨s1,t1,rfl,b1,P1⟩,k1⟩
 obtain⟨s2,t2,a2,b2⟩:=aT (n:=9) (c:=594700461775549459496) (m:=s1) (d:=t1) (bS 9) b1 (by omega)
 obtain⟨s3,t3,a3,b3⟩:=aT (n:=s2) (c:=t2) (m:=8) (d:=2317982129229556000) b2 (bS 8) (by omega)
 simp[e0,e1,e2,hw,a2,a3,S.cN]
 refine(hI P1).mono ?_
 rintro o h4 jq ⟨⟨s4,t4,rfl,b4,P4⟩,k4⟩
 obtain⟨s5,t5,a5,b5⟩:=aT (n:=s3) (c:=t3) (m:=s4) (d:=t4) b3 b4 (by omega)
 obtain⟨s6,t6,a6,b6⟩:=aT (n:=s5) (c:=t5) (m:=1) (d:=41) b5 (bS 1) (by omega)
 simp[a5,a6]
 exact cont _ _ _ s6 t6  (by simp) (by omega) P4 (k1.trans k4)
theorem aAD(P:PP p h nx)(hL:qU V L)(h0:0<L.length)(hn:L.length=n)(hI:vB C L n d A)(hA:A≤10000)(hV:V≤1000)(e0:aa (K 0) tm=some (.ptr p 0))(e1:aa (K 1) tm=some (.sl L n 1 .any))(e2:aa (K 8) tm=some (I d))(cont:∀ tm' h' nx' n' c',aa (K 6) tm'=some (.str n' c')→n'≤((((1+A)+4)+A)+1)→PP p h' nx'→Ks p h nx h' nx'→Q .norm tm' h' nx'):eu C Q uA tm h nx:=by
 simp[uA,e0,e1,e2,S.cN]
 refine(hI P).mono ?_
 rintro o h1 aY ⟨⟨s1,t1,rfl,b1,P1⟩,k1⟩
 obtain⟨s2,t2,a2,b2⟩:=aT (n:=1) (c:=40) (m:=s1) (d:=t1) (bS 1) b1 (by omega)
 obtain⟨L3,hL3⟩:∃ L:List AV,L=[.str 3 2112544,.str 4 540884000,.str 4 540884256,.str 4 540877088]:=⟨_,rfl⟩
 have u3:qU 4 L3:=by rw[hL3];exact D0 rfl
 have l3:L3.length=4:=by rw[hL3];rfl
 have z3:=Ea (h:=h1) (nx:=aY) u3 l3
 rw[hL3] at z3
 obtain⟨P3,k3⟩:=LU (L:=L3) P1
 simp[e0,a2,z3,S.dS]
 rw[← hL3]
 refine(tx S P3 (L:=L3) u3 (by omega) l3).mono ?_
 rintro o h4 jq ⟨⟨s4,t4,rfl,b4,P4⟩,k4⟩
 obtain⟨s5,t5,a5,b5⟩:=aT (n:=s2) (c:=t2) (m:=s4) (d:=t4) b2 b4 (by omega)
 simp[e0,e1,e2,a5,S.cN]
 refine(hI P4).mono ?_
 rintro o h6 IC ⟨⟨s6,t6,rfl,b6,P6⟩,k6⟩
 obtain⟨s7,t7,a7,b7⟩:=aT (n:=s5) (c:=t5) (m:=s6) (d:=t6) b5 b6 (by omega)
 obtain⟨s8,t8,a8,b8⟩:=aT (n:=s7) (c:=t7) (m:=1) (d:=41) b7 (bS 1) (by omega)
 simp[a7,a8]
 exact cont _ _ _ s8 t8  (by simp) (by omega) P6 (((k1.trans k3).trans k4).trans k6)
theorem auW(P:PP p h nx)(hL:qU V L)(h0:0<L.length)(hn:L.length=n)(hI:vB C L n d A)(hB:tH C L n d B)(hA:A≤10000)(hBB:B≤10000)(hV:V≤1000)(e0:aa (K 0) tm=some (.ptr p 0))(e1:aa (K 1) tm=some (.sl L n 1 .any))(e2:aa (K 2) tm=some (I j))(hw:aW .i64 (j-1)=d)(cont:∀ tm' h' nx' n' c',aa (K 6) tm'=some (.str n' c')→n'≤((((1+B)+5)+B)+1)→PP p h' nx'→Ks p h nx h' nx'→Q .norm tm' h' nx'):eu C Q so tm h nx:=by
 simp[so,e0,e1,e2,hw,S.iM]
 refine(hB P).mono ?_
 rintro o h1 aY ⟨⟨s1,t1,rfl,b1,P1⟩,k1⟩
 obtain⟨s2,t2,a2,b2⟩:=aT (n:=1) (c:=40) (m:=s1) (d:=t1) (bS 1) b1 (by omega)
 obtain⟨s3,t3,a3,b3⟩:=aT (n:=s2) (c:=t2) (m:=5) (d:=139123908896) b2 (bS 5) (by omega)
 simp[e0,e1,e2,hw,a2,a3,S.iM]
 refine(hB P1).mono ?_
 rintro o h4 jq ⟨⟨s4,t4,rfl,b4,P4⟩,k4⟩
 obtain⟨s5,t5,a5,b5⟩:=aT (n:=s3) (c:=t3) (m:=s4) (d:=t4) b3 b4 (by omega)
 obtain⟨s6,t6,a6,b6⟩:=aT (n:=s5) (c:=t5) (m:=1) (d:=41) b5 (bS 1) (by omega)
 simp[a5,a6]
 exact cont _ _ _ s6 t6  (by simp) (by omega) P4 (k1.trans k4)
theorem auX(P:PP p h nx)(hL:qU V L)(h0:0<L.length)(hn:L.length=n)(hI:vB C L n d A)(hB:tH C L n d B)(hA:A≤10000)(hBB:B≤10000)(hV:V≤1000)(e0:aa (K 0) tm=some (.ptr p 0))(e1:aa (K 1) tm=some (.sl L n 1 .any))(e2:aa (K 2) tm=some (I j))(hw:aW .i64 (j-1)=d)(cont:∀ tm' h' nx' n' c',aa (K 6) tm'=some (.str n' c')→n'≤((((1+B)+4)+B)+1)→PP p h' nx'→Ks p h nx h' nx'→Q .norm tm' h' nx'):eu C Q sq tm h nx:=by
 simp[sq,e0,e1,e2,hw,S.iM]
 refine(hB P).mono ?_
 rintro o h1 aY ⟨⟨s1,t1,rfl,b1,P1⟩,k1⟩
 obtain⟨s2,t2,a2,b2⟩:=aT (n:=1) (c:=40) (m:=s1) (d:=t1) (bS 1) b1 (by omega)
 obtain⟨s3,t3,a3,b3⟩:=aT (n:=s2) (c:=t2) (m:=4) (d:=544370464) b2 (bS 4) (by omega)
 simp[e0,e1,e2,hw,a2,a3,S.iM]
 refine(hB P1).mono ?_
 rintro o h4 jq ⟨⟨s4,t4,rfl,b4,P4⟩,k4⟩
 obtain⟨s5,t5,a5,b5⟩:=aT (n:=s3) (c:=t3) (m:=s4) (d:=t4) b3 b4 (by omega)
 obtain⟨s6,t6,a6,b6⟩:=aT (n:=s5) (c:=t5) (m:=1) (d:=41) b5 (bS 1) (by omega)
 simp[a5,a6]
 exact cont _ _ _ s6 t6  (by simp) (by omega) P4 (k1.trans k4)
theorem auY(P:PP p h nx)(hL:qU V L)(h0:0<L.length)(hn:L.length=n)(hI:vB C L n d A)(hB:tH C L n d B)(hA:A≤10000)(hBB:B≤10000)(hV:V≤1000)(e0:aa (K 0) tm=some (.ptr p 0))(e1:aa (K 1) tm=some (.sl L n 1 .any))(e2:aa (K 2) tm=some (I j))(hw:aW .i64 (j-1)=d)(cont:∀ tm' h' nx' n' c',aa (K 6) tm'=some (.str n' c')→n'≤(4+B)→PP p h' nx'→Ks p h nx h' nx'→Q .norm tm' h' nx'):eu C Q su tm h nx:=by
 simp[su,e0,e1,e2,hw,S.iM]
 refine(hB P).mono ?_
 rintro o h1 aY ⟨⟨s1,t1,rfl,b1,P1⟩,k1⟩
 obtain⟨s2,t2,a2,b2⟩:=aT (n:=4) (c:=544501614) (m:=s1) (d:=t1) (bS 4) b1 (by omega)
 simp[a2]
 exact cont _ _ _ s2 t2  (by simp) (by omega) P1 k1
end Tg
/-
 SG: generators of the reference: texts of integers and truth values. No condition.
-/
namespace Tg
open Go.Sx Go Tb
def Cs(V:Nat):Nat→Nat×Nat
 |0=>(V+1,2*V+22)
 |d+1=>((Cs V d).2+2*(Cs V d).1+20,2*(Cs V d).2+2*(Cs V d).1+20)
variable{C:cU}(S:dd C)
include S
variable{L:List AV}{n V A B A':Nat}
theorem vB.up(S:dd C){d:Int}(h:vB C L n d A)(hA:A≤A'):vB C L n d A':=fun P=>(h P).mono fun o h1 aY ⟨⟨n,c,e,hn,P1⟩,k⟩=>⟨⟨n,c,e,by omega,P1⟩,k⟩
theorem aqq(hL:qU V L)(h0:0<L.length)(hn:L.length=n):vB C L n 0 (V+1):=by
 intro p h nx P
 have q1:=S.cX
 have q2:=S.bQ
 refine S.SP.call ?_
 simp[A6]
 simp[Fw]
 simp[Fy,q1]
 refine(Bz S P (m:=9) (by omega)).mono ?_
 rintro o h1 aY ⟨⟨i,rfl,i1,i2,P1⟩,k1⟩
 simp
 simp[Fz]
 simp[PK]
 have hi:=Int.tmod_lt_of_pos i (b:=3) (by omega)
 have hj:=Int.tmod_nonneg 3 i1
 generalize i.tmod 3=k at hi hj
 simp[FA]
 have:k=0∨k=1∨k=2:=by omega
 rcases this with rfl|rfl|rfl
 ·simp[cI]
  simp[FB,q2]
  refine(lU S P1 (m:=4) (by omega) (by omega)).mono ?_
  rintro o h2 aH ⟨⟨a,b,rfl,ha,_,P2⟩,k2⟩
  simp
  exact⟨⟨a,b,rfl,by omega,P2⟩,k1.trans k2⟩
 ·simp[cI]
  simp[dC]
  simp[rK,S.dS]
  refine(tx S P1 hL h0 hn).mono ?_
  rintro o h2 aH ⟨⟨a,b,rfl,ha,P2⟩,k2⟩
  simp
  exact⟨⟨a,b,rfl,by omega,P2⟩,k1.trans k2⟩
 ·simp[cI]
  simp[dC]
  simp[ft]
  simp[rK,S.dS]
  refine(tx S P1 hL h0 hn).mono ?_
  rintro o h2 aH ⟨⟨a,b,rfl,ha,P2⟩,k2⟩
  simp
  exact⟨⟨a,b,rfl,by omega,P2⟩,k1.trans k2⟩
theorem aqr(hL:qU V L)(h0:0<L.length)(hn:L.length=n)(hV:V≤1000){d:Nat}(hd:d≤1000)(hA:A≤10000)(hB:B≤10000)(hVA:V≤A)(hI:vB C L n d A)(hBo:tH C L n d B):vB C L n (d+1:Nat) (B+2*A+20):=by
 intro p h nx P
 have q1:=S.cX
 have q2:=S.bQ
 have hw:aW .i64 (((d+1:Nat):Int)-1)=d:=by rw[show((d+1:Nat):Int)-1=d by omega];exact br (by omega) (by omega)
 have hz:(((d+1:Nat):Int)==0)=false:=by simp;omega
 have hz':¬ ((d+1:Nat):Int)=0:=by omega
 generalize ((d+1:Nat):Int)=j at hw hz hz'
 refine S.SP.call ?_
 simp[A6]
 simp[Fw]
 simp[Fy,q1]
 refine(Bz S P (m:=9) (by omega)).mono ?_
 rintro o h1 aY ⟨⟨k,rfl,hi,hj,P1⟩,k1⟩
 simp
 simp[Fz,hz]
 simp[FA]
 have fin:∀ (M:Nat),M≤B+2*A+20→∀ (tm':T AV) (h':T ab) (nx':Key) (n' c':Nat),aa (K 6) tm'=some (.str n' c')→n'≤M→PP p h' nx'→Ks p h1 aY h' nx'→bt C .ret (aN [RV.tmp (K 6)] (OO (B+2*A+20) p h nx)) tm' h' nx':=by
  intro M hM tm' h' nx' n' c' e6 VE P' k'
  simp[e6]
  exact⟨⟨n',c',rfl,by omega,P'⟩,k1.trans k'⟩
 have aaE:∀ (M:Nat),M≤B+2*A+20→∀ (tm':T AV) (h':T ab) (nx':Key) (n' c':Nat),aa (K 6) tm'=some (.str n' c')→n'≤M→PP p h' nx'→Ks p h1 aY h' nx'→bt C .ret (ai 0 (ak (bt C ((U.ops u5).seq .ret) (aN [RV.tmp (K 6)] (OO (B+2*A+20) p h nx))) (aN [RV.tmp (K 6)] (OO (B+2*A+20) p h nx)))) tm' h' nx':=by
  intro M hM tm' h' nx' n' c' e6 VE P' k'
  simp[e6]
  exact⟨⟨n',c',rfl,by omega,P'⟩,k1.trans k'⟩
 have:k=0∨k=1∨k=2∨k=3∨k=4∨k=5∨k=6∨k=7∨k=8:=by omega
 rcases this with rfl|rfl|rfl|rfl|rfl|rfl|rfl|rfl|rfl
 ·simp[cI]
  simp[FB,q2]
  refine(lU S P1 (m:=4) (by omega) (by omega)).mono ?_
  rintro o h2 aH ⟨⟨a,b,rfl,ha,_,P2⟩,k2⟩
  simp
  exact⟨⟨a,b,rfl,by omega,P2⟩,k1.trans k2⟩
 ·simp[cI]
  simp[dC]
  refine avS S P1 hL h0 hn hI hBo hA hB hV ?_ ?_ ?_ hw (aaE _ (by omega))<;>simp
 ·simp[cI]
  simp[dC]
  simp[ft]
  refine avS S P1 hL h0 hn hI hBo hA hB hV ?_ ?_ ?_ hw (aaE _ (by omega))<;>simp
 ·simp[cI,dC,ft,iV]
  refine avT S P1 hL h0 hn hI hBo hA hB hV ?_ ?_ ?_ hw (aaE _ (by omega))<;>simp
 ·simp[cI,dC,ft,iV,kV]
  refine avU S P1 hL h0 hn hI hBo hA hB hV ?_ ?_ ?_ hw (aaE _ (by omega))<;>simp
 ·simp[cI,dC,ft,iV,kV,pC]
  refine avV S P1 hL h0 hn hI hBo hA hB hV ?_ ?_ ?_ hw (aaE _ (by omega))<;>simp
 ·simp[cI,dC,ft,iV,kV,pC,u0]
  refine avW S P1 hL h0 hn hI hBo hA hB hV ?_ ?_ ?_ hw (aaE _ (by omega))<;>simp
 ·simp[cI,dC,ft,iV,kV,pC,u0,Cg]
  refine avX S P1 hL h0 hn hI hBo hA hB hV ?_ ?_ ?_ hw (aaE _ (by omega))<;>simp
 ·simp[cI,dC,ft,iV,kV,pC,u0,Cg]
  refine avY S P1 hL h0 hn hI hBo hA hB hV ?_ ?_ ?_ hw (fin _ (by omega))<;>simp
end Tg
/-
 SQ: the reference's parser: declarations, kind by kind. No condition.
-/
namespace Tb
open Go.Sx Go
abbrev dcG:U:=((U.ops y8).seq ((U.ops za).seq ((U.ops zb).seq (((U.ops sK).seq (U.cond (PX.t (K 76)) (U.ops zc) U.skip)).seq
 ((U.ops sL).seq (((U.ops nj).seq (U.cond (PX.t (K 85)) (U.ops sM) (U.ops sN))).seq (U.ops nq)))))))
abbrev dcB:U:=U.block 2 ((U.ops eQ).seq (U.cond (PX.t (K 50)) ((U.ops yZ).seq ((U.ops y0).seq (U.ops y7)))
 (((U.ops gZ).seq (U.cond (PX.t (K 59)) U.skip (U.ops jz))).seq (U.cond (PX.t (K 59)) dcG
 ((U.ops nr).seq (U.cond (PX.t (K 94)) ((U.ops ze).seq (U.ops zg)) ((U.ops sO).seq (U.cond (PX.t (K 101)) ((U.ops zh).seq (U.ops zi))
 ((U.ops zj).seq (U.cond (PX.t (K 107)) ((U.ops zk).seq ((U.ops zm).seq ((U.ops zn).seq (U.ops zo)))) U.skip))))))))))
abbrev dcN:U:=((U.ops yW).seq (((U.ops sJ).seq (U.cond (PX.t (K 39)) (U.ops yX) (U.ops yY))).seq (((U.ops nh).seq dcB).seq ((U.ops gW).seq U.ret))))
abbrev dcE:U:=((U.ops uZ).seq (U.cond (PX.t (K 29)) ((U.ops Cb).seq ((U.ops sI).seq U.ret)) U.skip)).seq dcN
variable{C:cU}(S:dd C)
abbrev dcR(C:cU)(p:Key)(M:Nat)(h:T ab)(nx:Key):bp:=aN [RV.cell (K 2) true 45] (mf (W0 14) p M h nx)
abbrev dcQ(C:cU)(p:Key)(M:Nat)(h:T ab)(nx:Key):bp:=ak (bt C ((U.ops gW).seq U.ret) (dcR C p M h nx)) (dcR C p M h nx)
variable{p:Key}{M m m' na nb nc ne nf:Nat}{h h':T ab}{nx nx':Key}{tm:T AV}{cs:List AV}{kd:Int}
structure Dk(p:Key)(h:T ab)(nx:Key)(M:Nat)(tm:T AV)(kd:Int)(cs:List AV)(m:Nat)(h':T ab)(nx':Key):Prop where
 hp:p.toNat<nx.toNat
 hM:M≤8000
 D:Dw p h nx 0 0 0 0 0 (I kd ::cs) m h' nx'
 w:wF (dF 0 0 0 0 0) (I kd ::cs)≤0
 e0:aa (K 0) tm=some (.ptr p 0)
 e2:aa (K 2) tm=some (.ptr nx 0)
 e3:aa (K 3) tm=some (.ptr nx.succ 0)
 hm:m<M
theorem Dk.len(O:Dk p h nx M tm kd cs m h' nx'):cs.length=44:=by have:(I kd ::cs).length=45:=O.D.F.len;simpa using this
include S
theorem asX(O:Dk p h nx M tm 0 cs m h' nx')(Xx:aa (K 49) tm=some (I 0)):bt C dcB (dcQ C p M h nx) tm h' nx':=by
 have q3:=S.bg
 have q5:=S.Xy
 have e0:=O.e0
 have e2:=O.e2
 have e3:=O.e3
 have hM:=O.hM
 have Ws:=O.hm
 have hww:=O.w
 simp
 simp[eQ,Xx]
 simp[yZ,e0,q3]
 refine(bC S O.D.P _ _).mono ?_
 rintro o h1 aY ⟨⟨m1,rfl,P1,hm1⟩,k1⟩
 have D1:=O.D.call P1 k1
 simp
 simp[y0,e0,q5]
 refine(anH S P1 (by omega)).mono ?_
 rintro o h2 aH ⟨⟨c,m2,rfl,oc,P2,Cr⟩,k2⟩
 have D2:=D1.call P2 k2
 have hl:=O.len
 have D3:=D2.Dq (i:=3) (f:=.d (.sl 8)) rfl oc
 have w3:wF (dF 0 0 0 0 0) (I 0 ::cs.set 2 c)≤wF (dF 0 0 0 0 0) (I 0 ::cs)+AV.wt c:=LY (t:=.sl 8) (fs:=dF 0 0 0 0 0) (cs:=I 0 ::cs) (i:=3) (by simp[hl])
 have s3:List.take 2 cs++c ::List.drop 3 cs=cs.set 2 c:=Iu hl (by omega)
 simp at D3
 simp[D2.g,e3,oc.cell,oc.cells,hl,s3]
 simp[y7,e0,q3]
 refine(bC S D3.P _ _).mono ?_
 rintro o h4 jq ⟨⟨m4,rfl,P4,Oj⟩,k4⟩
 have D4:=D3.call P4 k4
 simp
 have key:=fun tm' e2 e3=>adC (C:=C) (tm:=tm') (M:=M) S O.hp D4 hM e2 e3 (by omega)
 simp at key
 refine key _ ?_ ?_
 ·simp[e2]
 ·simp[e3]
theorem asY(O:Dk p h nx M tm 3 cs m h' nx')(Xx:aa (K 49) tm=some (I 3)):bt C dcB (dcQ C p M h nx) tm h' nx':=by
 have q3:=S.NN
 have q5:=S.Xz
 have e0:=O.e0
 have e2:=O.e2
 have e3:=O.e3
 have hM:=O.hM
 have Ws:=O.hm
 have hww:=O.w
 simp
 simp[eQ,Xx]
 simp[gZ,Xx]
 simp[jz,Xx]
 simp[nr,Xx]
 simp[ze,e0,q3]
 refine(agN S O.D.P (by omega) false).mono ?_
 rintro o h1 aY ⟨⟨c,m1,rfl,oc,P1,hm1⟩,k1⟩
 have D1:=O.D.call P1 k1
 have hl:=O.len
 have D2:=D1.Dq (i:=22) (f:=.d (.sl 7)) rfl oc
 have w2:wF (dF 0 0 0 0 0) (I 3 ::cs.set 21 c)≤wF (dF 0 0 0 0 0) (I 3 ::cs)+AV.wt c:=LY (t:=.sl 7) (fs:=dF 0 0 0 0 0) (cs:=I 3 ::cs) (i:=22) (by simp[hl])
 have s3:List.take 21 cs++c ::List.drop 22 cs=cs.set 21 c:=Iu hl (by omega)
 simp at D2
 simp[D1.g,e3,oc.cell,oc.cells,hl,s3]
 simp[zg,e0,e3,q5]
 refine(am4 S (d:=nx.succ) (V:=8*m) D2 (by omega) (by omega)).mono ?_
 rintro o h3 dw ⟨rfl,m3,na,nb,nc,ne,nf,cs3,D3,Lj⟩
 simp
 have key:=fun tm' e2 e3=>adC (C:=C) (tm:=tm') (M:=M) S O.hp D3 hM e2 e3 (by omega)
 simp at key
 refine key _ ?_ ?_
 ·simp[e2]
 ·simp[e3]
theorem anN(O:Dk p h nx M tm 4 cs m h' nx')(Xx:aa (K 49) tm=some (I 4)):bt C dcB (dcQ C p M h nx) tm h' nx':=by
 have q3:=S.NO
 have q5:=S.TY
 have e0:=O.e0
 have e2:=O.e2
 have e3:=O.e3
 have hM:=O.hM
 have Ws:=O.hm
 have hww:=O.w
 simp
 simp[eQ,Xx]
 simp[gZ,Xx]
 simp[jz,Xx]
 simp[nr,Xx]
 simp[sO,Xx]
 simp[zh,e0,e3,q3]
 refine(ahv S (V:=8*m) O.D (by omega) (by omega)).mono ?_
 rintro o h1 aY ⟨rfl,m1,na,nb,nc,ne,nf,cs1,D1,hm1⟩
 simp
 simp[zi,e0,e3,q5]
 refine(agc S (V:=8*m) D1 (by omega) (by omega)).mono ?_
 rintro o h2 aH ⟨rfl,m2,na,nb,nc,ne,nf,mo,D2,Cr⟩
 simp
 have key:=fun tm' e2 e3=>adC (C:=C) (tm:=tm') (M:=M) S O.hp D2 hM e2 e3 (by omega)
 simp at key
 refine key _ ?_ ?_
 ·simp[e2]
 ·simp[e3]
theorem alf(O:Dk p h nx M tm 5 cs m h' nx')(Xx:aa (K 49) tm=some (I 5)):bt C dcB (dcQ C p M h nx) tm h' nx':=by
 have q2:=S.bg
 have q3:=S.NO
 have q4:=S.cH
 have q5:=S.aaI
 have e0:=O.e0
 have e2:=O.e2
 have e3:=O.e3
 have hM:=O.hM
 have Ws:=O.hm
 have hww:=O.w
 simp
 simp[eQ,Xx]
 simp[gZ,Xx]
 simp[jz,Xx]
 simp[nr,Xx]
 simp[sO,Xx]
 simp[zj,Xx]
 simp[zk,e0,e3,q3]
 refine(ahv S (V:=8*m) O.D (by omega) (by omega)).mono ?_
 rintro o h1 aY ⟨rfl,m1,na,nb,nc,ne,nf,cs1,D1,hm1⟩
 simp
 simp[zm,e0,q2]
 refine(bC S D1.P _ _).mono ?_
 rintro o h2 aH ⟨⟨m2,rfl,P2,Cr⟩,k2⟩
 have D2:=D1.call P2 k2
 simp
 simp[zn,e0,q4]
 refine(vJ S (by omega) P2).mono ?_
 rintro o h3 dw ⟨⟨l3,m3,rfl,o3,P3,Lj⟩,k3⟩
 have l3n:l3.length=7:=o3.len
 have z3:l3.all AV.aD=true:=mi.2 o3.aU
 have D3:=D2.call P3 k3
 have hl:cs1.length=45:=D3.F.len
 have D4:=D3.ZG (ts:=sj) o3 (i:=38) (j:=45) (by simp) (by omega) rfl
 have w4:=La (fs:=dF na nb nc ne nf) (cs:=cs1) (ts:=sj) (vs:=l3) (i:=38) (j:=45) (by rw[hl];rfl) (by rw[l3n];rfl) (by simp) (by omega) rfl
 simp[D3.g,e3,l3n,z3,hl]
 simp[zo,e0,e3,q5]
 refine(avM S (V:=8*m) D4 (by omega) (by omega)).mono ?_
 rintro o h5 iW ⟨rfl,m5,na,nb,nc,ne,nf,cs5,D5,Oy⟩
 simp
 have key:=fun tm' e2 e3=>adC (C:=C) (tm:=tm') (M:=M) S O.hp D5 hM e2 e3 (by omega)
 simp at key
 refine key _ ?_ ?_
 ·simp[e2]
 ·simp[e3]
end Tb
