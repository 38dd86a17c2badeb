/- A part of the proof. No condition. -/
import Derived.Test.YtecbfpngkfdkoaaGreatP13
import Derived.Test.YtecbfpngkfdkoaaGreatP14
import Derived.Test.YtecbfpngkfdkoaaGreatP11
import Derived.Test.YtecbfpngkfdkoaaGreatP9
import Derived.Test.YtecbfpngkfdkoaaGreatP6
set_option linter.unusedSimpArgs false
set_option linter.unusedVariables false
set_option linter.unusedSectionVars false
namespace Ln
open Go.Sx Go Go.Proofs
inductive Sh:aX→Nat→Prop
 |put0:Sh .put 0
 |put1:Sh .put 1
 |put2:Sh .put 2
 |put3:Sh .put 3
 |get0:Sh .get 0
 |get1:Sh .get 1
 |get2:Sh .get 2
 |get3:Sh .get 3
 |inc0:Sh .inc 0
 |readC0:Sh .readC 0
 |add0:Sh .add 0
 |write0:Sh .write 0
 |readR0:Sh .readR 0
theorem IZ:∀{c:aX} {n:Nat},n≤Aj c.fZ→Sh c n
 |.put,0,_=>.put0
 |.put,1,_=>.put1
 |.put,2,_=>.put2
 |.put,3,_=>.put3
 |.put,n+4,h=>absurd h (by simp[Aj,aX.fZ])
 |.get,0,_=>.get0
 |.get,1,_=>.get1
 |.get,2,_=>.get2
 |.get,3,_=>.get3
 |.get,n+4,h=>absurd h (by simp[Aj,aX.fZ])
 |.inc,0,_=>.inc0
 |.inc,n+1,h=>absurd h (by simp[Aj,aX.fZ])
 |.readC,0,_=>.readC0
 |.readC,n+1,h=>absurd h (by simp[Aj,aX.fZ])
 |.add,0,_=>.add0
 |.add,n+1,h=>absurd h (by simp[Aj,aX.fZ])
 |.write,0,_=>.write0
 |.write,n+1,h=>absurd h (by simp[Aj,aX.fZ])
 |.readR,0,_=>.readR0
 |.readR,n+1,h=>absurd h (by simp[Aj,aX.fZ])
def aae:aX→Nat→aI
 |.put,0=>RI
 |.put,1=>RJ
 |.put,2=>RK
 |.put,3=>RL
 |.get,0=>RM
 |.get,1=>RN
 |.get,2=>RO
 |.get,3=>RP
 |.inc,0=>tS
 |.readC,0=>Lq
 |.add,0=>RT
 |.write,0=>Lr
 |_,_=>Ls
def QL:aX→Nat→aI
 |.put,0=>Lt
 |.put,1=>Lu
 |.put,2=>Lw
 |.put,3=>Lx
 |.get,0=>Ly
 |.get,1=>Lz
 |.get,2=>LA
 |.get,3=>LB
 |.inc,0=>LC
 |.readC,0=>F0
 |.add,0=>LD
 |.write,0=>F9
 |_,_=>Ga
def Rl:aX→Nat→aI
 |.put,0=>Ov
 |.put,1=>Ow
 |.put,2=>Ox
 |.put,3=>Oy
 |.get,0=>Oz
 |.get,1=>OA
 |.get,2=>OB
 |.get,3=>OC
 |.inc,0=>OD
 |.readC,0=>I3
 |.add,0=>OE
 |.write,0=>I4
 |_,_=>I5
def aut:aX→Nat→aI
 |.put,0=>RU
 |.put,1=>RW
 |.put,2=>RX
 |.put,3=>RY
 |.get,0=>RZ
 |.get,1=>R4
 |.get,2=>R6
 |.get,3=>R7
 |.inc,0=>R8
 |.readC,0=>LF
 |.add,0=>R9
 |.write,0=>LG
 |_,_=>LH
def ahw:aX→Nat→aI
 |.put,0=>LI
 |.put,1=>LJ
 |.put,2=>LK
 |.put,3=>LM
 |.get,0=>LN
 |.get,1=>LO
 |.get,2=>LP
 |.get,3=>LQ
 |.inc,0=>LR
 |.readC,0=>Gb
 |.add,0=>LU
 |.write,0=>Gc
 |_,_=>Ge
def amG:aX→Nat→aI
 |.put,0=>OF
 |.put,1=>OG
 |.put,2=>OH
 |.put,3=>OI
 |.get,0=>OJ
 |.get,1=>OK
 |.get,2=>OL
 |.get,3=>OM
 |.inc,0=>ON
 |.readC,0=>I6
 |.add,0=>OO
 |.write,0=>I7
 |_,_=>I8
abbrev aq2(c:aX)(n:Nat):List AV:=[vM,fD c.fZ,.str c.name.1 c.name.2,stS 0 n,awb c.ar,dp]
abbrev Nk(c:aX)(n:Nat):List AV:=[vM,fD c.fZ,.str c.name.1 c.name.2,stS 0 n,awb c.ar,aBs,dp]
theorem aBD{c:aX}{n:Nat}(h:Sh c n):aI.cn (CF aL) 149 (aae c n) ⟨ah 149 (fx 149) (aq2 c n),[],.nil,bz⟩ [] []=true:=by
 cases h
 ·exact X8
 ·exact X9
 ·exact Ya
 ·exact Yb
 ·exact Yc
 ·exact Yd
 ·exact Ye
 ·exact Yf
 ·exact Yg
 ·exact Sa
 ·exact Yh
 ·exact Sb
 ·exact Sd
theorem aq3{c:aX}{n:Nat}(h:Sh c n):aI.cn (CF aL) 150 (QL c n) ⟨ah 150 (fx 150) (Nk c n),[],.nil,bz⟩ [] []=true:=by
 cases h
 ·exact Se
 ·exact Sf
 ·exact Sg
 ·exact Si
 ·exact Sj
 ·exact Sk
 ·exact Sl
 ·exact Sm
 ·exact Sn
 ·exact Nr
 ·exact Sp
 ·exact Ns
 ·exact Nt
theorem awj{c:aX}{n:Nat}(h:Sh c n):aI.cn (CF aL) 151 (Rl c n) ⟨ah 151 (fx 151) (Nk c n),[],.nil,bz⟩ [] []=true:=by
 cases h
 ·exact U6
 ·exact U7
 ·exact U8
 ·exact U9
 ·exact Va
 ·exact Vb
 ·exact Vc
 ·exact Vd
 ·exact Ve
 ·exact PL
 ·exact Vf
 ·exact PM
 ·exact PN
theorem aBE{c:aX}{n:Nat}(h:Sh c n):aI.cn (CF aL) 154 (aut c n) ⟨ah 154 (fx 154) (aq2 c n),[],.nil,bz⟩ [] []=true:=by
 cases h
 ·exact Yi
 ·exact Yj
 ·exact Yk
 ·exact Yl
 ·exact Ym
 ·exact Yn
 ·exact Yo
 ·exact Yp
 ·exact Yq
 ·exact Sr
 ·exact Yr
 ·exact Ss
 ·exact Su
theorem aq5{c:aX}{n:Nat}(h:Sh c n):aI.cn (CF aL) 155 (ahw c n) ⟨ah 155 (fx 155) (Nk c n),[],.nil,bz⟩ [] []=true:=by
 cases h
 ·exact Sv
 ·exact Sw
 ·exact Sz
 ·exact SA
 ·exact SB
 ·exact SC
 ·exact SE
 ·exact SG
 ·exact SH
 ·exact Nu
 ·exact SJ
 ·exact Nv
 ·exact Nw
theorem awk{c:aX}{n:Nat}(h:Sh c n):aI.cn (CF aL) 156 (amG c n) ⟨ah 156 (fx 156) (Nk c n),[],.nil,bz⟩ [] []=true:=by
 cases h
 ·exact Vg
 ·exact Vh
 ·exact Vi
 ·exact Vj
 ·exact Vk
 ·exact Vl
 ·exact Vm
 ·exact Vn
 ·exact Vo
 ·exact PO
 ·exact Vp
 ·exact PQ
 ·exact PR
theorem re:AV.lits vM=true:=by kernel_rfl
theorem ahx:vM.kf=true:=by kernel_rfl
theorem at8{c:aX}{n:Nat}(h:Sh c n):AV.Bb (aq2 c n)=true:=by have hv:=ahx;cases h<;>simp only[AV.Bb,hv]<;>rfl
theorem QN{c:aX}{n:Nat}(h:Sh c n):AV.Bb (Nk c n)=true:=by have hv:=ahx;cases h<;>simp only[AV.Bb,hv]<;>rfl
theorem aGz{c:aX}{n:Nat}(h:Sh c n):Rp alC (aae c n).dt []=true:=by cases h<;>kernel_rfl
theorem av8{c:aX}{n:Nat}(h:Sh c n):Rp alC (QL c n).dt []=true:=by cases h<;>kernel_rfl
theorem aBp{c:aX}{n:Nat}(h:Sh c n):Rp (alF 4) (Rl c n).dt []=true:=by cases h<;>kernel_rfl
def noB:AV→Bool
 |.tuple [.bool false,.int .i64 (.lit _)]=>true
 |.tuple [.bool _,.int .i64 (.lit (.ofNat (_+1)))]=>true
 |.tuple [.bool _,.int .i64 (.lit (.negSucc _))]=>true
 |_=>false
theorem aBq{c:aX}{n:Nat}(h:Sh c n):Rp (alF (Aj c.fZ)) (Rl c n).dt []=true∨Rp noB (aae c n).dt []=true:=by
 cases h
 ·exact .inl (by kernel_rfl)
 ·exact .inl (by kernel_rfl)
 ·exact .inl (by kernel_rfl)
 ·exact .inr (by kernel_rfl)
 ·exact .inl (by kernel_rfl)
 ·exact .inl (by kernel_rfl)
 ·exact .inl (by kernel_rfl)
 ·exact .inl (by kernel_rfl)
 ·exact .inl (by kernel_rfl)
 ·exact .inl (by kernel_rfl)
 ·exact .inl (by kernel_rfl)
 ·exact .inl (by kernel_rfl)
 ·exact .inl (by kernel_rfl)
theorem aq4{c:aX}{n:Nat}(h:Sh c n):DT.same (aut c n).dt (aae c n).dt []=true:=by cases h<;>kernel_rfl
theorem ai4{c:aX}{n:Nat}(h:Sh c n):DT.same (ahw c n).dt (QL c n).dt []=true:=by cases h<;>kernel_rfl
theorem alW{c:aX}{n:Nat}(h:Sh c n):DT.same (amG c n).dt (Rl c n).dt []=true:=by cases h<;>kernel_rfl
def z0:U:=⟨0,0⟩
def aad(c:aX)(s:St)(bs:List U):AV:=(aae c s.kids.length).dt.val (xO s bs z0 0)
def FI(c:aX)(s:St)(bs:List U)(r:U):AV:=(QL c s.kids.length).dt.val (xO s bs r 0)
def On(c:aX)(s:St)(bs:List U)(r:U):AV:=(Rl c s.kids.length).dt.val (xO s bs r 0)
def xP(i:Nat):List AV:=(qx.drop (45*i)).take 45
def aGy(i:Nat):List AV:=match (xP i)[36]? with
 |some (AV.sl l _ _ _)=>l
 |_=>[]
def Iq(i t:Nat):List AV:=bif Nat.blt i 3&&Nat.blt t (aV i).length then((aGy i).drop (23*t)).take 23 else List.replicate 23 (I 0)
def K0:Kn where
 rows:=qx
 dec:=xP
 cmd:=Iq
 Rm c s bs:=adY (aad c s bs)
 Rn c s bs:=Ro (aad c s bs)
 wk c s bs r:=adY (FI c s bs r)
 wo c s bs r:=Ro (FI c s bs r)
 Ae c s bs r:=aiZ (On c s bs r)
 BN c s bs r:=Ro (On c s bs r)
theorem ag8{c:aX}{s:St}(hs:kx c.fZ s)(bs:List U):aad c s bs=.tuple [.bool (K0.Rm c s bs),I (K0.Rn c s bs)]:=aaf (aGz (IZ hs))
theorem WD{c:aX}{s:St}(hs:kx c.fZ s)(bs:List U)(r:U):FI c s bs r=.tuple [.bool (K0.wk c s bs r),I (K0.wo c s bs r)]:=aaf (av8 (IZ hs))
theorem aag{c:aX}{s:St}(hs:kx c.fZ s)(bs:List U)(r:U):On c s bs r=.tuple [.agg (eS (K0.Ae c s bs r)),I (K0.BN c s bs r)]:=(aah (aBp (IZ hs))).1
def aai:AV→Bool
 |.int _ _=>true
 |.str _ _=>true
 |.bool _=>true
 |.nils=>true
 |.sl _ _ _ .any=>true
 |_=>false
theorem HY{y:AV}(h:aai y=true):FJ y∧y.aQ=true:=by
 cases y<;>simp only[aai]at h<;>first|(cases h;done)|skip
 ·exact⟨alx _,rfl⟩
 ·exact⟨cX _ _,rfl⟩
 ·exact⟨gF _ _,rfl⟩
 ·exact⟨vh,rfl⟩
 ·rename_i l n z f;cases f with
  |any=>exact⟨Nc _ _ _,rfl⟩
  |tok t=>cases h
def okR(l:List AV):Bool:=Nat.beq l.length 23&&l.all aai&&AV.dA l
theorem ag9(i t:Nat):okR (Iq i t)=true:=by
 have hr:okR (List.replicate 23 (I 0))=true:=by decide
 match i,t with
 |0,0=>show okR (Iq 0 0)=true;kernel_rfl
 |0,1=>show okR (Iq 0 1)=true;kernel_rfl
 |0,t+2=>exact hr
 |1,0=>show okR (Iq 1 0)=true;kernel_rfl
 |1,1=>show okR (Iq 1 1)=true;kernel_rfl
 |1,2=>show okR (Iq 1 2)=true;kernel_rfl
 |1,t+3=>exact hr
 |2,0=>show okR (Iq 2 0)=true;kernel_rfl
 |2,1=>show okR (Iq 2 1)=true;kernel_rfl
 |2,t+2=>exact hr
 |i+3,t=>exact hr
theorem av9(i:Nat)(hi:i<3):(Nat.beq (xP i).length 45&&(xP i).all aai)=true:=by
 match i,hi with
 |0,_=>show(Nat.beq (xP 0).length 45&&(xP 0).all aai)=true;kernel_rfl
 |1,_=>show(Nat.beq (xP 1).length 45&&(xP 1).all aai)=true;kernel_rfl
 |2,_=>show(Nat.beq (xP 2).length 45&&(xP 2).all aai)=true;kernel_rfl
def aaj(i:Nat):Bool:=match (xP i)[36]? with
 |some v=>AV.beq v (.sl (ak (Iq i) (List.range (aV i).length)) (aV i).length 23 .any)
 |none=>false
theorem aly(i:Nat)(hi:i<3):aaj i=true:=by
 match i,hi with
 |0,_=>show aaj 0=true;kernel_rfl
 |1,_=>show aaj 1=true;kernel_rfl
 |2,_=>show aaj 2=true;kernel_rfl
def atZ(c:aX):AV→Bool
 |.nils=>Nat.beq c.ar 0
 |.sl _ n _ .any=>Nat.beq n c.ar
 |_=>false
def I0(i t:Nat)(c:aX):Bool:=(match (Iq i t)[0]? with
 |some (AV.str n k)=>Nat.beq n c.name.1&&Nat.beq k c.name.2
 |_=>false)&&(match (Iq i t)[1]? with
 |some d=>atZ c d
 |none=>false)
theorem aak{i:Nat}(hi:i<3){t:Nat}{c:aX}(h:(aV i)[t]?=some c):I0 i t c=true:=by
 match i,hi,t,h with
 |0,_,0,h=>cases h;show I0 0 0 .put=true;kernel_rfl
 |0,_,1,h=>cases h;show I0 0 1 .get=true;kernel_rfl
 |0,_,t+2,h=>simp[aV]at h
 |1,_,0,h=>cases h;show I0 1 0 .inc=true;kernel_rfl
 |1,_,1,h=>cases h;show I0 1 1 .readC=true;kernel_rfl
 |1,_,2,h=>cases h;show I0 1 2 .add=true;kernel_rfl
 |1,_,t+3,h=>simp[aV]at h
 |2,_,0,h=>cases h;show I0 2 0 .write=true;kernel_rfl
 |2,_,1,h=>cases h;show I0 2 1 .readR=true;kernel_rfl
 |2,_,t+2,h=>simp[aV]at h
theorem aqP{u:AV}{ρ:Nat→Int}(h:noB u=true):adY (u.sub ρ)=false∨Ro (u.sub ρ)≠0:=by
 unfold noB at h;split at h
 ·exact .inl rfl
 ·right;show Int.ofNat (_+1)≠0;intro e;cases e
 ·right;show Int.negSucc _≠0;intro e;cases e
 ·cases h
theorem aqQ{c:aX}{o:Op}{s t:St}(hs:kx c.fZ s)(h:K0.take c o s=some t):kx c.fZ t:=by
 rcases aBq (IZ hs)with hn|hn
 ·have hv:=(aah (ρ:=xO s o.args o.res 0) hn).2;unfold Kn.take at h;split at h
  ·cases h
  ·split at h
   ·cases h
   ·split at h
    ·cases h
    ·cases h;exact hv
 ·obtain⟨u,h1,h2⟩:=Lg (ρ:=xO s o.args z0 0) hn trivial;have h3:=aqP (ρ:=xO s o.args z0 0) h1;rw[←h2]at h3;unfold Kn.take at h;rw[if_pos (h3.elim (fun e=>.inr e) fun e=>.inl e)]at h;cases h
theorem at0:K0.Ok:=by
 have hd:=av9;have hc:=ag9;refine⟨fun i=>⟨fun t=>?_,fun t y hy=>?_,fun t y hy=>?_,fun t=>?_⟩,fun i hi=>?_,fun i hi t c h=>?_,fun i hi t c h=>?_,fun i hi=>?_,fun i hi y hy=>?_,fun i hi y hy=>?_,fun c o s t hs _ h=>aqQ hs h⟩
 ·have:=hc i t;unfold okR at this;simp only[kW]at this;exact pZ this.1.1
 ·have:=hc i t;unfold okR at this;simp only[kW]at this;exact(HY (xM.1 this.1.2 y hy)).1
 ·have:=hc i t;unfold okR at this;simp only[kW]at this;exact(HY (xM.1 this.1.2 y hy)).2
 ·have:=hc i t;unfold okR at this;simp only[kW]at this;exact this.2
 ·have:=aly i hi;unfold aaj at this;show(xP i)[36]?=_;cases hv:(xP i)[36]? with
  |none=>rw[hv]at this;cases this
  |some v=>rw[hv]at this;rw[AV.eq_of_beq _ _ this];rfl
 ·have:=aak hi h;unfold I0 at this;simp only[kW]at this;have h1:=this.1;show(Iq i t)[0]?=_;split at h1
  ·rename_i n k e;rw[e];simp only[kW]at h1;rw[pZ h1.1,pZ h1.2]
  ·cases h1
 ·have:=aak hi h;unfold I0 at this;simp only[kW]at this;have h1:=this.2;show ∃d,(Iq i t)[1]?=some d∧_;split at h1
  ·rename_i d e;refine⟨d,e,?_⟩;unfold atZ at h1;split at h1
   ·exact .inl ⟨rfl,pZ h1⟩
   ·exact .inr ⟨_,_,by rw[pZ h1]⟩
   ·cases h1
  ·cases h1
 ·have:=hd i hi;simp only[kW]at this;exact pZ this.1
 ·have:=hd i hi;simp only[kW]at this;exact(HY (xM.1 this.2 y hy)).1
 ·have:=hd i hi;simp only[kW]at this;exact(HY (xM.1 this.2 y hy)).2
theorem awa:AV.beq K0.m K0.m=true:=show AV.beq vM vM=true from beq_refl _ re
end Ln
namespace Ln
open Go.Sx Go
structure FnR(C:bH)(f:Nat)(p:fN):Prop where
 get:GX C f=some p
 off:∀l h nx,C.sum f l h nx=none
 mT:C.mT f=true
def Xq(f:Nat):Bool:=Nat.beq f 63||Nat.beq f 16||Nat.beq f 57||Nat.beq f 32||Nat.beq f 86||Nat.beq f 106||Nat.beq f 173
structure Std(C:bH)(X:Kn):Prop where
 orc:C.orc=[]
 raw:∀f,C.raw f=Xq f
 ok:X.Ok
 yX:Fn C iE ud
 mZ:FnR C dh jC
 GW:Fn C da Dn
 AJ:Fn C jo wL
 Mw:Fn C sm Kt
 Ey:Fn C je cmp_isNaN_int
 Cm:Fn C hN y8
 IT:Fn C jt Fq
 BS:Fn C jR yE
 Hv:FnR C mL Du
 G9:Fn C dL Dr
 Mg:Fn C dT Ko
 Jc:Fn C fW Gq
 B7:Fn C fQ yQ
 Cn:Fn C fS y9
 Hw:Fn C mX Dv
 AL:Fn C fj wM
 Co:Fn C fR zb
 qG:Fn C cu lG
 qJ:Fn C ed lI
 sR:Fn C fL pj
 sU:Fn C fM pt
 jD:Fn C bZ kQ
 so:Fn C fi np
 vC:Fn C df qp
 GY:Fn C dj Dp
 BM:Fn C jQ yr
 GZ:Fn C nj Dq
 iF:Fn C bP fk
 fm:Fn C bu cM
 s_InitP:∀i,i<3→∀h nx,C.sum DA [X.m,fD i,dp] h nx=some (.tuple [.agg (eS (aJ i)),I 0],h,nx)
 s_CanP:∀c s aZZ,kx c.fZ s→aZZ.length=c.ar→∀h nx,C.sum GR [X.m,fD c.fZ,.str c.name.1 c.name.2,.agg (eS s),aC aZZ,dp] h nx=some (.tuple [.bool (X.Rm c s aZZ),I (X.Rn c s aZZ)],h,nx)
 s_HoldsP:∀c s aZZ r,kx c.fZ s→aZZ.length=c.ar→∀h nx,C.sum Bp [X.m,fD c.fZ,.str c.name.1 c.name.2,.agg (eS s),aC aZZ,.agg (eU r),dp] h nx=some (.tuple [.bool (X.wk c s aZZ r),I (X.wo c s aZZ r)],h,nx)
 s_NextP:∀c s aZZ r,kx c.fZ s→aZZ.length=c.ar→∀h nx,C.sum Dl [X.m,fD c.fZ,.str c.name.1 c.name.2,.agg (eS s),aC aZZ,.agg (eU r),dp] h nx=some (.tuple [.agg (eS (X.Ae c s aZZ r)),I (X.BN c s aZZ r)],h,nx)
 s_InitR:∀i,i<3→∀h nx,C.sum Y1 [X.m,fD i,dp] h nx=some (.tuple [.agg (eS (aJ i)),I 0],h,nx)
 s_CanR:∀c s aZZ,kx c.fZ s→aZZ.length=c.ar→∀h nx,C.sum ab4 [X.m,fD c.fZ,.str c.name.1 c.name.2,.agg (eS s),aC aZZ,dp] h nx=some (.tuple [.bool (X.Rm c s aZZ),I (X.Rn c s aZZ)],h,nx)
 s_HoldsR:∀c s aZZ r,kx c.fZ s→aZZ.length=c.ar→∀h nx,C.sum VH [X.m,fD c.fZ,.str c.name.1 c.name.2,.agg (eS s),aC aZZ,.agg (eU r),dp] h nx=some (.tuple [.bool (X.wk c s aZZ r),I (X.wo c s aZZ r)],h,nx)
 s_NextR:∀c s aZZ r,kx c.fZ s→aZZ.length=c.ar→∀h nx,C.sum Y2 [X.m,fD c.fZ,.str c.name.1 c.name.2,.agg (eS s),aC aZZ,.agg (eU r),dp] h nx=some (.tuple [.agg (eS (X.Ae c s aZZ r)),I (X.BN c s aZZ r)],h,nx)
 s_parser_Decl:∀i,i<3→∀h nx,C.sum jE [X.m,I 4,fD i] h nx=some (.tuple [.agg (X.dec i),.bool true],h,nx)
 s_ref09_Decl:∀i,i<3→∀h nx,C.sum Y3 [X.m,I 4,fD i] h nx=some (.tuple [.agg (X.dec i),.bool true],h,nx)
 s_values_Valid:∀u,∀h nx,C.sum dM [.agg (eU u)] h nx=some (I (if sC u=true then 0 else 1),h,nx)
 s_values_Compare:∀s t:St,s.kids.length≤3→t.kids.length≤3→∀h nx,C.sum jS [.agg (eS s),.agg (eS t)] h nx=some (I (qS s t),h,nx)
 s_ref10_Valid:∀u,∀h nx,C.sum VJ [.agg (eU u)] h nx=some (I (if sC u=true then 0 else 1),h,nx)
 s_ref10_Compare:∀s t:St,s.kids.length≤3→t.kids.length≤3→∀h nx,C.sum Qj [.agg (eS s),.agg (eS t)] h nx=some (I (qS s t),h,nx)
 s_Equal:∀s t:St,s.kids.length≤3→t.kids.length≤3→∀h nx,C.sum VK [.agg (eS s),.agg (eS t)] h nx=some (.bool (decide (s=t)),h,nx)
 s_Clone:∀s:St,s.kids.length≤3→∀h nx,C.sum cF [.agg (eS s)] h nx=some (.agg (eS s),h,nx)
 s_Module:∀h nx,C.sum yz [] h nx=some (X.m,h,nx)
 s_lives:∀h nx,C.sum pG [] h nx=some (.bool true,h,nx)
theorem Std.rw{C:bH}{X:Kn}(S:Std C X){f:Nat}(h:Xq f=true):C.raw f=true:=by rw[S.raw,h]
theorem Std.nr{C:bH}{X:Kn}(S:Std C X){f:Nat}(h:Xq f=false):C.raw f=false:=by rw[S.raw,h]
theorem Std.r{C:bH}{X:Kn}(S:Std C X)(f:Nat)(h:Xq f=false:=by decide):C.raw f=false:=S.nr h
theorem aB.known{C:bH}{f:Nat}{l:List AV}{h:T ai}{nx:Key}{v:AV}{R:Out→T ai→Key→Prop}(hs:C.sum f l h nx=some (v,h,nx))(hR:R (.ret v) h nx):aB C f l h nx R:=.inl ⟨v,h,nx,hs,hR⟩
theorem bq{a b:Int}(h:a≠b):(a==b)=false:=by simpa using h
theorem bt{a b:Int}(h:a=b):(a==b)=true:=by simpa using h
variable{C:bH}{X:Kn}(S:Std C X)
include S
end Ln
namespace Ln
open Go.Sx Go
variable{C:bH}{X:Kn}(S:Std C X)
include S
omit S in
theorem aB7{client:Int}{nl nc:Nat}{args:List U}{res:U}(hz:zU res=true)(hn:¬(nl=0∧nc=0))(hl:nl≤16)(ha:args.length≤16)(c0:0≤client)(c3:client≤3):Bx ⟨0,client,(nl,nc),args,res⟩=args.all sC:=by
 rw[Bool.eq_iff_iff];unfold Bx;rw[decide_eq_true_eq];constructor
 ·rintro⟨_,_,_,_,h|h|h⟩
  ·exact h.2.2.2.2.2
  ·exact absurd h.1 (by simp)
  ·exact absurd h.1 (by simp)
 ·intro h;exact⟨by simp,by simp,c0,c3,.inl ⟨rfl,hz,by simpa using hn,hl,ha,h⟩⟩
omit S in
theorem aB8{client:Int}{res:U}(c0:0≤client)(c3:client≤3):Bx ⟨1,client,(0,0),[],res⟩=sC res:=by
 rw[Bool.eq_iff_iff];unfold Bx;rw[decide_eq_true_eq];constructor
 ·rintro⟨_,_,_,_,h|h|h⟩
  ·exact absurd h.1 (by simp)
  ·exact h.2.2.2
  ·exact absurd h.1 (by simp)
 ·intro h;exact⟨by simp,by simp,c0,c3,.inr (.inl ⟨rfl,rfl,rfl,h⟩)⟩
omit S in
theorem auy{res:U}:Bx ⟨2,0,(0,0),[],res⟩=zU res:=by
 rw[Bool.eq_iff_iff];unfold Bx;rw[decide_eq_true_eq];constructor
 ·rintro⟨_,_,_,_,h|h|h⟩
  ·exact absurd h.1 (by simp)
  ·exact absurd h.1 (by simp)
  ·exact h.2.2.2.2
 ·intro h;exact⟨by simp,by simp,by simp,by simp,.inr (.inr ⟨rfl,rfl,rfl,rfl,h⟩)⟩
omit S in
theorem aCa{res:U}(hz:zU res=true):sC res=true:=by unfold zU at hz;unfold sC;simp at hz ⊢;exact .inl hz.1
omit S in
theorem QO{x:Ev}(h:¬(0≤x.kind∧x.kind≤2∧0≤x.client∧x.client≤3)):Bx x=false:=by unfold Bx;rw[decide_eq_false_iff_not];rintro⟨a,b,c,d,_⟩;exact h ⟨a,b,c,d⟩
end Ln
namespace Ln
open Go.Sx Go
structure Few(l:List Ev):Prop where
 len:l.length≤16
 args:∀x∈l,x.args.length≤1000
variable{C:bH}{X:Kn}(S:Std C X)
include S
end Ln
namespace Ln
open Go.Sx Go
def DE:Nat→Int
 |0=>0|1=>1|2=>20|_=>25
variable{C:bH}{X:Kn}(S:Std C X)
include S
end Ln
namespace Ln
open Go.Sx Go
theorem Ot{o:Op}(h:¬(o.e<0∧o.lost<0)):∀(l:List Ev) (i:Nat),follow o i l=o
 | [],i=>rfl
 |x ::l,i=>by show follow (qU i x o) (i+1) l=o;rw[aaZ h];exact Ot h l (i+1)
theorem Fv:∀(l:List Ev) (i:Nat),(dm i l).length≤l.length
 | [],i=>by simp[dm]
 |x ::l,i=>by have:=Fv l (i+1);simp only[dm,xa,HW];split<;>simp<;>omega
variable{C:bH}{X:Kn}(S:Std C X)
include S
end Ln
namespace Ln
open Go.Sx Go
def RQ(l:List Ev)(h:T ai)(nx:Key)(m:Nat)(aA:T AV)(h':T ai)(nx':Key):Prop:=∃(i:Nat) (c:AV) (os:List Op),m=l.length-i∧i≤l.length∧os.length≤i∧ag (K 0) aA=some (.sl (ak eE l) l.length 8 .any)∧ag (K 5) aA=some c∧ag (K 6) aA=some (I i)∧App c (ak eO os) os.length 10 h' nx' nx∧dm 0 l=os++dm i (l.drop i)∧Ext h nx h' nx'
def aA4(l:List Ev)(o:Out):Prop:=∃c,o=.ret (.tuple [c,I (DE (dI [] l))])∧qf 10 eO c (if dI [] l=0 then dm 0 l else [])
variable{C:bH}{X:Kn}(S:Std C X)
include S
end Ln
namespace Ln
open Go.Sx Go
theorem amN(u:U):qS ⟨u.k,u.n,[]⟩ ⟨0,0,[]⟩=0↔zU u=true:=by rw[H4];unfold zU;rw[decide_eq_true_eq];simp
variable{C:bH}{X:Kn}(S:Std C X)
include S
theorem Ys{x:Ev}{R:Out→T ai→Key→Prop}{Q:cJ}{tm:T AV}{h:T ai}{nx nx0:Key}(hlen:x.args.length≤1000)(h0:nx0.toNat<nx.toNat)(f1:ag (K 1) tm=some (.ptr nx0 0))(hb:ag nx0 h=Qz (eE x))
  (PV:∀h' nx',x.args.all sC=false→Ext h nx h' nx'→R (.ret (I 1)) h' nx') (mh:∀aA h' nx',ag (K 1) aA=some (.ptr nx0 0)→x.args.all sC=true→Ext h nx h' nx'→Q .norm aA h' nx')
  (hq:∀aA h' nx',gC [.tmp (K 2)] R .ret aA h' nx'→Q .ret aA h' nx') :
  mE C (.seq (.ops gn) (.block 0 (.loop gp))) Q tm h nx:=by
 have rv:=S.r dM;obtain⟨kind,client,name,args,res⟩:=x;have eu:aC args=.nils∧args=[]∨aC args=.sl (ak eU args) args.length 4 .any∧args≠[]:=by
  cases args with
  |nil=>exact .inl ⟨rfl,rfl⟩
  |cons a t=>exact .inr ⟨rfl,by simp⟩
 simp;have aB6:args.length≤1000:=hlen;rcases eu with⟨e,rfl⟩|⟨e,cp⟩
 ·simp[gn,f1,hb,eE,e];refine W.ju (W.of ?_);simp[gp];simp[rq];refine mh _ _ _ ?_ rfl (Ext.refl _ _);simp[f1]
 ·simp[gn,f1,hb,eE,e];refine W.iM (n:=args.length) (fun m aA h' nx'=>∃j:Nat,m=args.length-j∧j≤args.length∧ag (K 1) aA=some (.ptr nx0 0)∧ag (K 53) aA=some (.sl (ak eU args) args.length 4 .any)∧ag (K 54) aA=some (I args.length)∧ag (K 55) aA=some (I j)∧Ext h nx h' nx'∧(args.take j).all sC=true) ?_ ?_
  ·exact⟨0,by simp,by omega,by simp[f1],by simp,by simp,by simp,Ext.refl _ _,by simp⟩
  ·rintro m gh h1 bW ⟨j,rfl,hj,g1,g53,g54,g55,e1,ha⟩;refine W.of ?_;simp[gp];simp[rq,g54,g55];refine⟨fun dn=>?_,fun ZQ=>?_⟩
   ·have fu:j<args.length:=by omega
    have hr:=og.rows args;have h4:4≤args.length*4-j*4:=by omega
    have ec:=og.at fu;have he:List.take 4 (eU args[j])=eU args[j]:=rfl;have hl4:(eU args[j]).length=4:=rfl;have hz:∀H,aO 9999 (.agg (eU args[j])) H=(.agg (eU args[j]),H):=fun H=>by simp[eU]
    have hpc:(eU args[j]).all AV.aQ=true:=rfl;simp[Ak,g53,g55,fu,hr,h4,ec,he,hl4,hpc];simp[yB,rv,he,hl4,hz];refine aB.known (S.s_values_Valid _ _ _) ?_;have e2:=e1.trans (E0 h1 bW (.cells (eU args[j]) .fix));cases ho:sC args[j]with
    |false=>simp[qh,yC];refine hq _ _ _ ?_;simp;refine PV _ _ ?_ e2;rw[List.all_eq_false];exact⟨_,UG fu,by simp[ho]⟩
    |true=>
     simp[qh,yD,g55];refine⟨args.length-(j+1),by omega,j+1,rfl,by omega,by simp[g1],by simp[g53],by simp[g54],?_,e2,?_⟩
     ·rw[aS (by omega) (by omega)];simp
     ·intro x hx;rw[zqu fu,List.mem_append,List.mem_singleton]at hx;rcases hx with hx|rfl
      ·exact xM.1 ha x hx
      ·exact ho
   ·have fu:j=args.length:=by omega
    subst fu;rw[List.take_length]at ha;exact mh _ _ _ (by simp[g1]) ha e1
theorem Yt{x:Ev}{R:Out→T ai→Key→Prop}{tm:T AV}{h:T ai}{nx nx0:Key}(hlen:x.args.length≤1000)(h0:nx0.toNat<nx.toNat)(f1:ag (K 1) tm=some (.ptr nx0 0))(f3:ag (K 3) tm=some (.bool (zU x.res)))(hb:ag nx0 h=Qz (eE x))
  (hk:0≤x.kind∧x.kind≤2) (hc:0≤x.client∧x.client≤3) (hR:∀h' nx',Ext h nx h' nx'→R (.ret (I (if Bx x=true then 0 else 1))) h' nx') :
  mE C (.seq (.seq (.ops jk) (.cond (.t (K 32)) (.seq (.seq (.ops dB) (.cond (.t (K 51)) (.seq (.ops gw) .ret) .skip)) (.seq (.seq (.ops gn) (.block 0 (.loop gp))) (.seq (.ops kB) .ret))) .skip))
   (.seq (.seq (.ops bX) (.cond (.t (K 87)) (.seq (.ops de) .ret) .skip)) (.seq (.ops kC) .ret))) (gC [.tmp (K 2)] R) tm h nx:=by
 have rv:=S.r dM;have fail:Bx x=false→R (.ret (I 1)) h nx:=fun e=>by simpa[e]using hR h nx (Ext.refl _ _)
 obtain⟨kind,client,⟨nl,nc⟩,args,res⟩:=x;have aB6:args.length≤1000:=hlen;have c0:0≤client:=hc.1;have c3:client≤3:=hc.2;have eu:aC args=.nils∧args=[]∨∃l,aC args=.sl l args.length 4 .any∧args≠[]:=by
  cases args with
  |nil=>exact .inl ⟨rfl,rfl⟩
  |cons a t=>exact .inr ⟨_,rfl,by simp⟩
 have EU:kind=0∨kind=1∨kind=2:=by have:=hk.1;have:=hk.2;simp at *;omega
 have last:∀cE:T AV,ag (K 1) cE=some (.ptr nx0 0)→Bx ⟨kind,client,(nl,nc),args,res⟩=sC res→mE C (.seq (.ops kC) .ret) (gC [.tmp (K 2)] R) cE h nx:=by
  intro cE q1 e;have hz:∀H,aO 9999 (.agg (eU res)) H=(.agg (eU res),H):=fun H=>by simp[eU]
  simp;simp[kC,q1,hb,eE,rv];refine aB.known (S.s_values_Valid res _ _) ?_;simp;have:=hR h nx (Ext.refl _ _);rw[e]at this;exact this
 simp only[ji,lX]at last;rcases EU with rfl|rfl|rfl
 ·simp[jk,f1,hb,eE];cases hz:zU res with
  |false=>rw[hz]at f3;simp[dB,f1,f3,hb,eE,gw];exact fail (by unfold Bx;simp[hz])
  |true=>
   rw[hz]at f3;by_cases hn:nl=0∧nc=0
   ·simp[dB,f1,f3,hb,eE,hn,gw];exact fail (by unfold Bx;simp[hn])
   ·by_cases hl:16<nl
    ·have PW:(16:Int)<nl:=by omega
     simp[dB,f1,f3,hb,eE,hn,hl,PW,gw];exact fail (by unfold Bx;simp;omega)
    ·have PW:¬(16:Int)<nl:=by omega
     have go:∀(Q:cJ) (cE:T AV),args.length≤16→ag (K 1) cE=some (.ptr nx0 0)→(∀aA h' nx',gC [.tmp (K 2)] R .ret aA h' nx'→Q .ret aA h' nx')→mE C (.seq (.seq (.ops gn) (.block 0 (.loop gp))) (.seq (.ops kB) .ret)) Q cE h nx:=by
      intro Q cE ha q1 hq;have eok:=aB7 (client:=client) hz hn (by omega) ha c0 c3;rw[ji];refine Ys S (x:=⟨0,client,(nl,nc),args,res⟩) (R:=R) hlen h0 q1 hb ?_ ?_ ?_
      ·intro h' nx' e1 e2;have:=hR h' nx' e2;rw[eok,e1]at this;exact this
      ·intro aA h' nx' q e1 e2;simp;simp[kB];refine hq _ _ _ ?_;simp;have:=hR h' nx' e2;rw[eok,e1]at this;exact this
      ·intro aA h' nx' q;exact hq _ _ _ q
     simp only[ji,lX]at go;rcases eu with⟨ea,rfl⟩|⟨l,ea,cp⟩
     ·simp[dB,f1,f3,hb,eE,hn,hl,PW,ea];refine go _ _ (by simp) ?_ (fun _ _ _ q=>q);simp[f1]
     ·by_cases ha:16<args.length
      ·have ha2:(16:Int)<args.length:=by omega
       simp[dB,f1,f3,hb,eE,hn,hl,PW,ea,ha,ha2,gw];exact fail (by unfold Bx;simp;omega)
      ·have ha2:¬(16:Int)<args.length:=by omega
       simp[dB,f1,f3,hb,eE,hn,hl,PW,ea,ha,ha2];refine go _ _ (by omega) ?_ (fun _ _ _ q=>q);simp[f1]
 ·simp[jk,f1,hb,eE];by_cases hn:nl=0∧nc=0
  ·obtain⟨rfl,rfl⟩:=hn;rcases eu with⟨ea,rfl⟩|⟨l,ea,cp⟩
   ·simp[bX,f1,f3,hb,eE,ea];refine last _ ?_ (aB8 c0 c3);simp[f1]
   ·simp[bX,f1,f3,hb,eE,ea,List.length_pos_iff.2 cp,de];exact fail (by unfold Bx;simp[cp])
  ·simp[bX,f1,f3,hb,eE,hn,de];exact fail (by unfold Bx;simp;intros;omega)
 ·simp[jk,f1,hb,eE];by_cases hn:nl=0∧nc=0
  ·obtain⟨rfl,rfl⟩:=hn;rcases eu with⟨ea,rfl⟩|⟨l,ea,cp⟩
   ·by_cases UL:client=0
    ·subst UL;cases hz:zU res with
     |false=>rw[hz]at f3;simp[bX,f1,f3,hb,eE,ea,de];exact fail (by rw[auy,hz])
     |true=>rw[hz]at f3;simp[bX,f1,f3,hb,eE,ea];refine last _ ?_ (by rw[auy,hz,aCa hz]);simp[f1]
    ·simp[bX,f1,f3,hb,eE,ea,bq UL,de];exact fail (by unfold Bx;simp[UL])
   ·simp[bX,f1,f3,hb,eE,ea,List.length_pos_iff.2 cp,de];exact fail (by unfold Bx;simp[cp])
  ·simp[bX,f1,f3,hb,eE,hn,de];exact fail (by unfold Bx;simp;intros;omega)
theorem aef(x:Ev)(hlen:x.args.length≤1000):Pur C jR [.agg (eE x)] (·=.ret (I (if Bx x=true then 0 else 1))):=by
 intro h nx;have s1:=kTSu nx;have rc:=S.r jS;have ac:=cG x.args;refine S.BS.call ?_;simp[yE];simp[Al,eE,ac.1];have hb1:ag nx (au nx (Qz (eE x)) h)=Qz (eE x):=by simp
 have he:=E0 h nx (.cells (eE x) .fix);have hcz:(qS ⟨x.res.k,x.res.n,[]⟩ ⟨0,0,[]⟩==0)=zU x.res:=by rw[Bool.eq_iff_iff,beq_iff_eq];exact amN _
 unfold eE at hb1 he;simp[Am,rc];refine aB.known (S.s_values_Compare ⟨x.res.k,x.res.n,[]⟩ ⟨0,0,[]⟩ (by simp) (by simp) _ _) ?_;simp[hcz];by_cases hk:x.kind<0
 ·simp[gx,hk,jl,QO (x:=x) (by omega)];exact he
 by_cases hk2:2<x.kind
 ·simp[gx,hk,hk2,jl,QO (x:=x) (by omega)];exact he
 by_cases hc:x.client<0
 ·simp[gx,hk,hk2,hc,jl,QO (x:=x) (by omega)];exact he
 by_cases hc2:3<x.client
 ·have XQ:¬x.client<4:=by omega
  simp[gx,hk,hk2,hc,XQ,jl,QO (x:=x) (by omega)];exact he
 have XQ:x.client<4:=by omega
 simp[gx,hk,hk2,hc,XQ];have key:=fun cE g1 g3=>Yt S (x:=x) (nx0:=nx) (nx:=nx.succ) (h:=au nx (Qz (eE x)) h) (tm:=cE) (R:=fun o h' nx'=>o=.ret (I (if Bx x=true then 0 else 1))∧Ext h nx h' nx') hlen (by omega) g1 g3 hb1 (by omega) (by omega) (fun h' nx' e=>⟨rfl,he.trans e⟩);simp only[ji,lX]at key;refine key _ ?_ ?_<;>simp
end Ln
namespace Go.Sx
open Go
section
variable{α:Type}{z:Nat}{enc:α→List AV}
theorem Flat.parts(F:Flat z enc){l:List α}{j:Nat}(hj:j<l.length):ak enc l=ak enc (l.take j)++(enc l[j]++ak enc (l.drop (j+1))):=by
 conv=>lhs;rw[←List.take_append_drop j l,zqt hj]
 rw[gZ,dc]
theorem Flat.MZ(F:Flat z enc){l:List α}{j off:Nat}{vs:List AV}{y:α}(hj:j<l.length)(ho:off+vs.length≤z)(hy:enc y=(enc l[j]).take off++(vs++(enc l[j]).drop (off+vs.length))) :
  (ak enc l).take (j*z+off)++(vs++(ak enc l).drop (j*z+off+vs.length))=ak enc (l.set j y):=by
 have ht:(l.take j).length=j:=by simp;omega
 have hr:(ak enc (l.take j)).length=j*z:=by rw[F.rows,ht]
 have hz:(enc l[j]).length=z:=F.len _;rw[List.set_eq_take_append_cons_drop,if_pos hj,gZ,dc,hy,F.parts hj];have h1:List.take (j*z+off) (ak enc (l.take j))=ak enc (l.take j):=PH (by rw[hr];omega);have h2:List.drop (j*z+off+vs.length) (ak enc (l.take j))=[]:=List.drop_eq_nil_of_le (by rw[hr];omega);rw[zqw,zqq,hr,h1,h2];rw[show j*z+off-j*z=off by omega,show j*z+off+vs.length-j*z=off+vs.length by omega];rw[List.take_append_of_le_length (by omega),List.drop_append_of_le_length (by omega)];simp
theorem Flat.put(F:Flat z enc){l:List α}{j:Nat}(hj:j<l.length)(y:α):(ak enc l).take (j*z)++(enc y++(ak enc l).drop (j*z+z))=ak enc (l.set j y):=by have h1:=F.len y;have:=F.MZ (off:=0) (vs:=enc y) (y:=y) hj (by omega) (by rw[List.take_zero,List.drop_eq_nil_of_le (by rw[F.len];omega)];simp);rw[h1]at this;exact this
end
end Go.Sx
namespace Ln
open Go.Sx Go
def abw(res:List RV)(R:Out→T ai→Key→Prop):cJ:=fun e tm h nx=>match e with
 |.norm|.ret=>∃l,resultsA h tm res=some l∧R (.ret (o5 l)) h nx
 |.pan a=>R (.pan a) h nx
 |.exit _=>False
@[simp] theorem aAI(res:List RV)(R:Out→T ai→Key→Prop)(tm:T AV)(h:T ai)(nx:Key):abw res R .ret tm h nx=∃l,resultsA h tm res=some l∧R (.ret (o5 l)) h nx:=xU Iff.rfl
@[simp] theorem ayv(res:List RV)(R:Out→T ai→Key→Prop)(tm:T AV)(h:T ai)(nx:Key):abw res R .norm tm h nx=∃l,resultsA h tm res=some l∧R (.ret (o5 l)) h nx:=xU Iff.rfl
theorem FnR.call{C:bH}{f:Nat}{p:fN}(S:FnR C f p){l:List AV}{h:T ai}{nx:Key}{R:Out→T ai→Key→Prop}(hw:mE C p.body (abw p.res R) (iG l (K 0) .nil) h nx):aB C f l h nx R:=by
 refine aB.of_wp (S.off _ _ _) S.get ?_;have e:Ch C f p.res R=abw p.res R:=by funext e tm h nx;cases e<;>simp only[Ch,abw,S.mT]<;>rfl
 rw[e];exact hw
def Gro(c:AV)(os:List Op)(h:T ai)(nx n0:Key):Prop:=(c=.nils∧os=[])∨∃b:Key,c=.slice b 0 os.length 10∧ag b h=some (.cells (ak eO os) .part)∧n0.toNat≤b.toNat∧b.toNat<nx.toNat
theorem Gro.ext{c:AV}{os:List Op}{h h':T ai}{nx nx' n0:Key}(g:Gro c os h nx n0)(e:Ext h nx h' nx'):Gro c os h' nx' n0:=by
 rcases g with g|⟨b,h1,h2,h3,h4⟩
 ·exact .inl g
 ·exact .inr ⟨b,h1,by rw[e.g b h4];exact h2,h3,by have:=e.n;omega⟩
theorem Gro.ne{c:AV}{os:List Op}{h h':T ai}{nx nx' n0 k:Key}(g:Gro c os h nx n0)(hn:nx.toNat≤nx'.toNat)(hk:∀l,ag k h≠some (.cells l .part))(e:∀b:Key,b.toNat<nx.toNat→b≠k→ag b h'=ag b h):Gro c os h' nx' n0:=by
 rcases g with g|⟨b,h1,h2,h3,h4⟩
 ·exact .inl g
 ·exact .inr ⟨b,h1,by rw[e b h4 (fun q=>by subst q;exact hk _ h2)];exact h2,h3,by omega⟩
theorem Gro.add{c:AV}{os:List Op}{h:T ai}{nx n0:Key}(g:Gro c os h nx n0)(h0:n0.toNat≤nx.toNat)(hl:os.length≤1000)(y:Op) :
  ∃c' h' nx',appendTo 10 c (eO y) 1 h nx=.val c' h' nx'∧Gro c' (os ++ [y]) h' nx' n0∧nx.toNat≤nx'.toNat∧(∀b:Key,b.toNat<n0.toNat→ag b h'=ag b h)∧∀b:Key,b.toNat<nx.toNat→(∀l,ag b h≠some (.cells l .part))→ag b h'=ag b h:=by
 have s1:=kTSu nx;have hc:(eO y).all AV.aQ=true:=xM.2 (kZ.cell y);rcases g with⟨rfl,rfl⟩|⟨b,rfl,h2,h3,h4⟩
 ·exact⟨.slice nx 0 1 10,au nx (some (.cells (eO y) .part)) h,nx.succ,by simp,.inr ⟨nx,rfl,by simp[hJ],h0,by omega⟩,by omega,fun b hb=>aw (by omega),fun b hb _=>aw hb⟩
 ·have hr:=kZ.rows os;have PW:os.length+1≤1048576:=by omega
  refine⟨.slice nx 0 (os.length+1) 10,au nx (some (.cells (ak eO os++eO y) .part)) (au b none h),nx.succ,?_,.inr ⟨nx,by simp,by rw[gZ,hJ];simp,h0,by omega⟩,by omega,fun x hx=>?_,fun x hx hk=>?_⟩
  ·simp[PW,hc,h2,hr,FR]
  ·rw[aw (by omega),aw (by omega)]
  ·rw[aw hx,aD];rintro rfl;exact hk _ h2
def FP(s:Sc):List AV:=[I s.o0,I s.o1,I s.o2,I s.o3]
theorem Ma(s:Sc):(FP s).length=4:=rfl
theorem QV(s:Sc){c:Nat}(h:c<4):(FP s)[c]?=some (I (s.op c)):=by
 have:c=0∨c=1∨c=2∨c=3:=by omega
 rcases this with rfl|rfl|rfl|rfl<;>simp[FP,Sc.op]
theorem YG(s:Sc){c:Nat}(h:c<4)(v:Int):List.take c (FP s)++I v ::List.drop (c+1) (FP s)=FP (s.set c v):=by
 have:c=0∨c=1∨c=2∨c=3:=by omega
 rcases this with rfl|rfl|rfl|rfl<;>simp[FP,Sc.set]
abbrev NM:aK:=(.block 4 (.seq (.ops jX)
 (.cond (.t (K 53))
 (.seq (.seq (.ops nW)
 (.cond (.t (K 56))
 (.seq (.ops ug)
 .ret)
 .skip))
 (.seq (.ops nX)
 (.ops nY)))
 (.seq (.ops nT)
 (.cond (.t (K 73))
 (.seq (.seq (.ops nZ)
 (.cond (.t (K 76))
 (.seq (.ops uh)
 .ret)
 .skip))
 (.seq (.staged ui ⟨[K 77,K 78,K 79,K 80,K 81,K 82,K 83,K 84,K 85,K 86,K 87],[]⟩)
 (.ops uj)))
 (.seq (.ops tX)
 (.cond (.t (K 91))
 (.seq (.ops tY)
 (.block 5 (.loop wG)))
 .skip)))))))
structure At(ce:AV)(l:List Ev)(s:Sc)(i:Nat)(bo n0:Key)(tm:T AV)(h:T ai)(nx:Key):Prop where
 g8:ag (K 8) tm=some (.ptr bo 0)
 PD:ag (K 35) tm=some ce
 ZZ:ag (K 36) tm=some (I l.length)
 g37:ag (K 37) tm=some (I i)
 gro:∃c,ag (K 7) tm=some c∧Gro c s.ops h nx n0
 FP:ag bo h=Qz (FP s)
 bo0:n0.toNat≤bo.toNat
 bo1:bo.toNat<nx.toNat
variable{C:bH}
theorem an2{ce:AV}{l:List Ev}{s:Sc}{i:Nat}{bo n0 nb:Key}{x:Ev}{Q:cJ}{tm:T AV}{h:T ai}{nx:Key}(A:At ce l s i bo n0 tm h nx)(hx:Bx x=true)(hk:x.kind=0)(hl:s.ops.length≤1000)(cp:bo≠nb)(hnb:nb.toNat<nx.toNat)
  (g9:ag (K 9) tm=some (I i)) (g10:ag (K 10) tm=some (.ptr nb 0)) (gb:ag nb h=Qz (eE x)) (g12:ag (K 12) tm=some (I (s.op x.client))) (g52:ag (K 52) tm=some (I x.kind))
  (PV:∀aA,vp s x=2→ag (K 2) aA=some .nils→ag (K 3) aA=some (I 20)→Q .ret aA h nx)
  (mh:∀aA h' nx',vp s x=0→At ce l (lu i s x) i bo n0 aA h' nx'→(∀b:Key,b.toNat<n0.toNat→ag b h'=ag b h)→nx.toNat≤nx'.toNat→Q .norm aA h' nx') :
  mE C NM Q tm h nx:=by
 have ZR:=hx;unfold Bx at ZR;rw[decide_eq_true_eq]at ZR;obtain⟨_,_,c0,c3,_⟩:=ZR;obtain⟨g8,PD,ZZ,g37,⟨c7,g7,gro⟩,go,bo0,bo1⟩:=A;have hb:vp s x=if 0≤s.op x.client then 2 else 0:=by unfold vp;rw[hx];simp[hk]
 obtain⟨kind,client,⟨nl,nc⟩,args,res⟩:=x;have hk:kind=0:=hk;subst hk;obtain⟨c,rfl⟩:=Int.eq_ofNat_of_zero_le c0;have hc4:c<4:=by have:((c:Nat):Int)≤3:=c3;omega
 have hg:=QV s hc4;have hp:=fun v=>YG s hc4 v;have ol:=Ma s;have XQ:c≤3:=by omega
 simp;simp[jX,g52];by_cases ho:s.op c<0
 ·have MO:vp s ⟨0,c,(nl,nc),args,res⟩=0:=by rw[hb,if_neg];simpa using ho
  simp[nW,g12,ho];have Z2:∀ls,ag bo h≠some (.cells ls .part):=fun ls e=>by rw[go]at e;cases e
  have ac:=cG args;have af:∀n H,aO n (aC args) H=(aC args,H):=dY args;have s1:=kTSu nx;have aC0:Gro c7 s.ops (au bo (Qz (FP (s.set c s.ops.length))) h) nx n0:=gro.ne (gi _) Z2 (fun b _ hb=>aD _ _ _ _ hb);have go1:ag bo (au bo (Qz (FP (s.set c s.ops.length))) h)=Qz (FP (s.set c s.ops.length)):=by simp
  have gb1:ag nb (au bo (Qz (FP (s.set c s.ops.length))) h)=Qz (eE ⟨0,c,(nl,nc),args,res⟩):=by rw[aD _ _ _ _ (Ne.symm cp)];exact gb
  have avi:∀b:Key,b.toNat<n0.toNat→ag b (au bo (Qz (FP (s.set c s.ops.length))) h)=ag b h:=fun b hb=>aw (by omega);have fin:∀cE:T AV,(∀k:Key,k=K 7∨k=K 8∨k=K 9∨k=K 10∨k=K 35∨k=K 36∨k=K 37→ag k cE=ag k tm)→qg C (aP 4 Q) nY cE (au bo (Qz (FP (s.set c s.ops.length))) h) nx:=by
   intro cE q;have q7:=(q (K 7) (by simp)).trans g7;have q8:=(q (K 8) (by simp)).trans g8;have q9:=(q (K 9) (by simp)).trans g9;have q10:=(q (K 10) (by simp)).trans g10;generalize au bo (Qz (FP (s.set c s.ops.length))) h=h1 at aC0 go1 gb1 avi ⊢;have anq:=aC0.ext (E0 h1 nx (.cells (eO (Bd i ⟨0,c,(nl,nc),args,res⟩)) .fix));obtain⟨c',h',nx',ga,aLl,n3,ayp,aC1⟩:=anq.add (by omega) hl (Bd i ⟨0,c,(nl,nc),args,res⟩);have ey:eO (Bd i ⟨0,c,(nl,nc),args,res⟩)=[I c,I i,I (-1),I (-1),.str nl nc,aC args,I 0,I 0,.str 0 0,.nils]:=rfl;rw[ey]at ga;simp[-appendTo,nY,q7,q9,q10,gb1,eE,ac.1,ac.2,af,ga];have hn:lu i s ⟨0,c,(nl,nc),args,res⟩={s.set c s.ops.length with ops:=s.ops ++ [Bd i ⟨0,c,(nl,nc),args,res⟩]}:=by unfold lu;simp
   refine mh _ _ _ MO ⟨by simp[q8],?_,?_,?_,⟨c',by simp,?_⟩,?_,bo0,by omega⟩ ?_ (by omega)
   ·simp;exact(q (K 35) (by simp)).trans PD
   ·simp;exact(q (K 36) (by simp)).trans ZZ
   ·simp;exact(q (K 37) (by simp)).trans g37
   ·rw[hn];exact aLl
   ·rw[hn,aC1 bo (by omega) (fun ls e=>by rw[aw bo1,go1]at e;cases e),aw bo1,go1];rfl
   ·intro b gA;rw[ayp b gA,aw (by omega),avi b gA]
  rcases gro with⟨e7,eo⟩|⟨b7,e7,hb7,_,arV⟩
  ·rw[e7]at g7;have e0:s.ops.length=0:=by simp[eo]
   rw[e0]at fin;have hp0:=hp 0;simp[nX,g7,g8,g10,gb,eE,go,ol,hc4,hp0,hg,XQ];refine fin _ ?_;rintro k (rfl|rfl|rfl|rfl|rfl|rfl|rfl)<;>simp[g7]
  ·rw[e7]at g7;have hp0:=hp s.ops.length;simp[nX,g7,g8,g10,gb,eE,go,ol,hc4,hp0,hg,XQ];refine fin _ ?_;rintro k (rfl|rfl|rfl|rfl|rfl|rfl|rfl)<;>simp[g7]
 ·have MO:vp s ⟨0,c,(nl,nc),args,res⟩=2:=by rw[hb,if_pos];simpa using ho
  simp[nW,g12,ho];simp[ug];refine PV _ MO ?_ ?_<;>simp
theorem ayw{ce:AV}{l:List Ev}{s:Sc}{i:Nat}{bo n0 nb:Key}{x:Ev}{Q:cJ}{tm:T AV}{h:T ai}{nx:Key}(A:At ce l s i bo n0 tm h nx)(hx:Bx x=true)(hk:x.kind=1)(Th:s.op x.client<s.ops.length)(cp:bo≠nb)(hnb:nb.toNat<nx.toNat)
  (g9:ag (K 9) tm=some (I i)) (g10:ag (K 10) tm=some (.ptr nb 0)) (gb:ag nb h=Qz (eE x)) (g12:ag (K 12) tm=some (I (s.op x.client))) (g52:ag (K 52) tm=some (I x.kind))
  (PV:∀aA,vp s x=3→ag (K 2) aA=some .nils→ag (K 3) aA=some (I 25)→Q .ret aA h nx)
  (mh:∀aA h' nx',vp s x=0→At ce l (lu i s x) i bo n0 aA h' nx'→(∀b:Key,b.toNat<n0.toNat→ag b h'=ag b h)→nx.toNat≤nx'.toNat→Q .norm aA h' nx') :
  mE C NM Q tm h nx:=by
 have ZR:=hx;unfold Bx at ZR;rw[decide_eq_true_eq]at ZR;obtain⟨_,_,c0,c3,_⟩:=ZR;obtain⟨g8,PD,ZZ,g37,⟨c7,g7,gro⟩,go,bo0,bo1⟩:=A;have hb:vp s x=if s.op x.client<0 then 3 else 0:=by unfold vp;rw[hx];simp[hk]
 obtain⟨kind,client,⟨nl,nc⟩,args,res⟩:=x;have hk:kind=1:=hk;subst hk;obtain⟨c,rfl⟩:=Int.eq_ofNat_of_zero_le c0;have hc4:c<4:=by have:((c:Nat):Int)≤3:=c3;omega
 have hg:=QV s hc4;have hp:=fun v=>YG s hc4 v;have ol:=Ma s;have XQ:c≤3:=by omega
 simp;simp[jX,g52];simp[nT,g52];by_cases ho:s.op c<0
 ·have MO:vp s ⟨1,c,(nl,nc),args,res⟩=3:=by rw[hb,if_pos];simpa using ho
  simp[nZ,g12,ho];simp[uh];refine PV _ MO ?_ ?_<;>simp
 ·have MO:vp s ⟨1,c,(nl,nc),args,res⟩=0:=by rw[hb,if_neg];simpa using ho
  simp[nZ,g12,ho];have Th:s.op c<s.ops.length:=Th;obtain⟨a,ha⟩:=Int.eq_ofNat_of_zero_le (show 0≤s.op c by omega);have hal:a<s.ops.length:=by omega
  rcases gro with⟨e7,eo⟩|⟨b7,e7,hb7,axK,arV⟩
  ·rw[eo]at hal;simp at hal
  ·rw[e7]at g7;have arW:b7≠bo:=by rintro rfl;rw[go]at hb7;simp at hb7
   have aLm:b7≠nb:=by rintro rfl;rw[gb]at hb7;simp at hb7
   have hr:=kZ.rows s.ops;have p1:=kZ.MZ (l:=s.ops) (j:=a) (off:=2) (vs:=[I i]) (y:={s.ops[a]with e:=i}) hal (by simp) rfl;have aLn:a<(s.ops.set a {s.ops[a]with e:=i}).length:=by simpa using hal
   have NA:=kZ.rows (s.ops.set a {s.ops[a]with e:=i});have p2:=kZ.MZ (l:=s.ops.set a {s.ops[a]with e:=i}) (j:=a) (off:=6) (vs:=eU res) (y:={s.ops[a]with e:=i,res:=res}) aLn (by simp[eU]) (by simp[eO,eU]);simp[eU]at p1 p2 NA;rw[ha]at g12;have hb1:a*10+2<s.ops.length*10:=by omega
   have hb2:a*10+2+1≤s.ops.length*10:=by omega
   have hb3:a*10+6+4≤s.ops.length*10:=by omega
   have gnb:∀B,ag nb (au b7 B h)=Qz (eE ⟨1,c,(nl,nc),args,res⟩):=fun B=>by rw[aD _ _ _ _ (Ne.symm aLm)];exact gb
   have gbo:∀B,ag bo (au b7 B h)=Qz (FP s):=fun B=>by rw[aD _ _ _ _ (Ne.symm arW)];exact go
   have hbr:AV.beq (.agg [I res.k,I res.n,.str 0 0,.nils]) (.agg [I res.k,I res.n,.str 0 0,.nils])=true:=beq_refl _ rfl;simp[ui,g7,g9,g10,g12,gb,eE,hal,hb7,hr,NA,hb2,hb3,p1,p2,gnb,hbr];have hp1:=hp (-1);simp[uj,g8,g10,gnb,gbo,eE,ol,hc4,hp1,XQ];have hn:lu i s ⟨1,c,(nl,nc),args,res⟩={s.set c (-1)with ops:=s.ops.modify a fun o=>{o with e:=i,res:=res}}:=by unfold lu;simp[ha]
   have hm:s.ops.modify a (fun o=>{o with e:=(i:Int),res:=res})=s.ops.set a {s.ops[a]with e:=i,res:=res}:=by
    apply List.ext_getElem?;intro q;rw[List.getElem?_modify,List.getElem?_set];by_cases hq:a=q
    ·subst hq;simp[hal]
    ·simp[hq]
   refine mh _ _ _ MO ⟨by simp[g8],by simp[PD],by simp[ZZ],by simp[g37],⟨.slice b7 0 s.ops.length 10,by simp[g7],.inr ⟨b7,?_,?_,axK,arV⟩⟩,?_,bo0,bo1⟩ ?_ (gi _)
   ·rw[hn];simp
   ·rw[hn];show ag b7 _=some (ai.cells (ak eO (s.ops.modify a _)) CK.part);rw[hm,aD _ _ _ _ arW];simp
   ·rw[hn];simp;rfl
   ·intro b gA;rw[aw (by omega),aw (by omega)]
end Ln
namespace Ln
open Go.Sx Go
def yS(i:Nat)(s:Sc):Nat→List Op
 |0=>s.ops
 |j+1=>ph i (s.op j) (yS i s j)
def clr(s:Sc):Nat→Sc
 |0=>s
 |j+1=>(clr s j).set j (-1)
theorem abb(i:Nat)(v:Int)(l:List Op):(ph i v l).length=l.length:=by unfold ph;split<;>simp
theorem Xf(i:Nat)(s:Sc):∀j,(yS i s j).length=s.ops.length
 |0=>rfl
 |j+1=>by show(ph i (s.op j) (yS i s j)).length=_;rw[abb,Xf i s j]
theorem ano{i a:Nat}{v:Int}{l:List Op}(hv:v=a)(ha:a<l.length):ph i v l=l.set a {l[a]with lost:=i}:=by
 subst hv;unfold ph;rw[if_pos (by omega)];apply List.ext_getElem?;intro q;rw[List.getElem?_modify,List.getElem?_set];by_cases hq:a=q
 ·subst hq;simp[ha]
 ·simp[hq]
theorem arS{i:Nat}{v:Int}{l:List Op}(hv:v<0):ph i v l=l:=by unfold ph;rw[if_neg (by omega)]
def SwI(ce:AV)(l:List Ev)(s:Sc)(i:Nat)(bo n0:Key)(h:T ai)(nx:Key)(c7:AV)(m:Nat)(aA:T AV)(h':T ai)(nx':Key):Prop:=∃j:Nat,m=4-j∧j≤4∧nx'=nx∧
 ag (K 7) aA=some c7∧ag (K 8) aA=some (.ptr bo 0)∧ag (K 9) aA=some (I i)∧ag (K 35) aA=some ce∧ag (K 36) aA=some (I l.length)∧ag (K 37) aA=some (I i)∧
 ag (K 93) aA=some (.agg (FP s))∧ag (K 94) aA=some (I j)∧Gro c7 (yS i s j) h' nx n0∧ag bo h'=Qz (FP (clr s j))∧(∀b:Key,b.toNat<n0.toNat→ag b h'=ag b h)
variable{C:bH}
theorem anp{ce:AV}{l:List Ev}{s:Sc}{i:Nat}{bo n0:Key}{x:Ev}{Q:cJ}{tm:T AV}{h:T ai}{nx:Key}(A:At ce l s i bo n0 tm h nx)(hx:Bx x=true)(hk:x.kind=2)(Th:∀c,0≤c→c≤3→s.op c<s.ops.length)(hl:s.ops.length≤1000)
  (g9:ag (K 9) tm=some (I i)) (g52:ag (K 52) tm=some (I x.kind))
  (mh:∀aA h' nx',vp s x=0→At ce l (lu i s x) i bo n0 aA h' nx'→(∀b:Key,b.toNat<n0.toNat→ag b h'=ag b h)→nx.toNat≤nx'.toNat→Q .norm aA h' nx') :
  mE C NM Q tm h nx:=by
 obtain⟨g8,PD,ZZ,g37,⟨c7,g7,gro⟩,go,bo0,bo1⟩:=A;have MO:vp s x=0:=by unfold vp;rw[hx];simp[hk]
 have hn:lu i s x=⟨ph i s.o3 (ph i s.o2 (ph i s.o1 (ph i s.o0 s.ops))),-1,-1,-1,-1⟩:=by unfold lu;simp[hk]
 rw[hk]at g52;simp;simp[jX,g52];simp[nT,g52];simp[tX,g52];have ol:=Ma s;have ot:List.take 4 (FP s)=FP s:=rfl;have oz:∀H,aO 9999 (.agg (FP s)) H=(.agg (FP s),H):=fun H=>by simp[FP]
 simp[tY,g8,go,ol,ot,oz];refine W.iM (n:=4) (SwI ce l s i bo n0 h nx c7) ?_ ?_
 ·refine⟨0,rfl,by omega,rfl,?_,?_,?_,?_,?_,?_,?_,?_,gro,go,fun _ _=>rfl⟩<;>simp[*]
 ·rintro m gh h1 bW ⟨j,rfl,hj,rfl,g7,g8,g9,PD,ZZ,g37,g93,g94,gro,go,ajw⟩;refine W.of ?_;simp[wG];simp[Cc,g94];refine⟨fun dn=>?_,fun ZQ=>?_⟩
  ·have hj4:j<4:=by omega
   have hj3:j≤3:=by omega
   have hg:=QV s hj4;have hp:=YG (clr s j) hj4 (-1);have ol2:=Ma (clr s j);have hjb:=Th j (by omega) (by omega);have hlen:=Xf i s j;simp[Cd,g93,g94,hj4,hg];have fin:∀(cE:T AV) (h2:T ai),(∀k:Key,k=K 7∨k=K 8∨k=K 9∨k=K 35∨k=K 36∨k=K 37∨k=K 93∨k=K 94→ag k cE=ag k gh)→ag (K 13) cE=some (I j)→Gro c7 (yS i s (j+1)) h2 bW n0→ag bo h2=Qz (FP (clr s j))→(∀b:Key,b.toNat<n0.toNat→ag b h2=ag b h)→
     qg C (aP 6 (bO (mE C (.ops tZ) (bO (fun tm h' nx=>∃m,m<4-j∧SwI ce l s i bo n0 h bW c7 m tm h' nx) (aP 5 (aP 4 Q)))) (bO (fun tm h' nx=>∃m,m<4-j∧SwI ce l s i bo n0 h bW c7 m tm h' nx) (aP 5 (aP 4 Q))))) ua cE h2 bW:=by
    intro cE h2 q q13 anq go2 arU;have q7:=(q (K 7) (by simp)).trans g7;have q8:=(q (K 8) (by simp)).trans g8;have q9:=(q (K 9) (by simp)).trans g9;have q35:=(q (K 35) (by simp)).trans PD;have q36:=(q (K 36) (by simp)).trans ZZ;have q37:=(q (K 37) (by simp)).trans g37;have q93:=(q (K 93) (by simp)).trans g93;have q94:=(q (K 94) (by simp)).trans g94;simp[ua,q13,q8,go2,hj4,hj3,ol2,hp];simp[tZ,q94];rw[aS (by omega) (by omega)];refine⟨4-(j+1),by omega,j+1,rfl,by omega,rfl,by simp[q7],by simp[q8],by simp[q9],by simp[q35],by simp[q36],by simp[q37],by simp[q93],by simp,?_,by simp[clr],fun b hb=>?_⟩
    ·exact anq.ne (gi _) (fun ls e=>by rw[go2]at e;simp at e) (fun b _ hb=>aD _ _ _ _ hb)
    ·rw[aw (by omega)];exact arU b hb
   by_cases ho:s.op j<0
   ·simp[ub,ho];refine fin _ h1 ?_ ?_ ?_ go ajw
    ·rintro k (rfl|rfl|rfl|rfl|rfl|rfl|rfl|rfl)<;>simp
    ·simp
    ·show Gro c7 (ph i (s.op j) (yS i s j)) h1 bW n0;rw[arS ho];exact gro
   ·obtain⟨a,ha⟩:=Int.eq_ofNat_of_zero_le (show 0≤s.op j by omega);have hal:a<(yS i s j).length:=by omega
    have ho2:¬(a:Int)<0:=by omega
    rcases gro with⟨e7,eo⟩|⟨b7,e7,hb7,axK,arV⟩
    ·rw[eo]at hal;simp at hal
    ·have g7':=g7;rw[e7]at g7;have arW:b7≠bo:=by rintro rfl;rw[go]at hb7;simp at hb7
     have hr:=kZ.rows (yS i s j);have p1:=kZ.MZ (l:=yS i s j) (j:=a) (off:=3) (vs:=[I i]) (y:={(yS i s j)[a]with lost:=i}) hal (by simp) rfl;simp at p1;have hb2:a*10+3+1≤(yS i s j).length*10:=by omega
     simp[ub,ha,ho2];simp[Ce,g7,g9,hal,hb7,hr,hb2,p1];refine fin _ _ ?_ ?_ ?_ ?_ ?_
     ·rintro k (rfl|rfl|rfl|rfl|rfl|rfl|rfl|rfl)<;>simp[g7]
     ·simp
     ·refine .inr ⟨b7,by rw[e7];simp[yS,abb],?_,axK,arV⟩;show _=some (ai.cells (ak eO (ph i (s.op j) (yS i s j))) CK.part);rw[ano ha hal];simp
     ·rw[aD _ _ _ _ (Ne.symm arW)];exact go
     ·intro b hb;rw[aw (by omega)];exact ajw b hb
  ·have:j=4:=by omega
   subst this;refine mh _ _ _ MO ⟨by simp[g8],by simp[PD],by simp[ZZ],by simp[g37],⟨c7,by simp[g7],?_⟩,?_,bo0,bo1⟩ ajw (gi _)
   ·rw[hn];have:yS i s 4=ph i s.o3 (ph i s.o2 (ph i s.o1 (ph i s.o0 s.ops))):=by simp[yS,Sc.op]
    rw[this]at gro;exact gro
   ·rw[hn,go];simp[clr,Sc.set,FP]
end Ln
namespace Go.Sx
open Go
def Gr(z:Nat)(c:AV)(l:List AV)(len:Nat)(h:T ai)(nx:Key)(ob:Option Key):Prop:=
 (c=.nils∧l=[]∧len=0∧ob=none)∨(∃(b:Key) (k:CK),ob=some b∧c=.slice b 0 len z∧ag b h=some (.cells l k)∧b.toNat<nx.toNat∧l.length=len*z∧(k=.part∨k=.fix))∨
 (∃t:Key,ob=some t∧c=.sl l len z (.tok t)∧ag t h=some .tok∧t.toNat<nx.toNat)
structure CZ(h:T ai)(nx:Key)(ob:Option Key)(h':T ai)(nx':Key)(ob':Option Key):Prop where
 n:nx.toNat≤nx'.toNat
 g:∀b:Key,b.toNat<nx.toNat→ob≠some b→ag b h'=ag b h
 o:ob'=ob∨∃b:Key,ob'=some b∧nx.toNat≤b.toNat
theorem CZ.refl(h:T ai)(nx:Key)(ob:Option Key):CZ h nx ob h nx ob:=⟨gi _,fun _ _ _=>rfl,.inl rfl⟩
theorem CZ.SS{h h':T ai}{nx nx':Key}(e:Ext h nx h' nx')(ob:Option Key):CZ h nx ob h' nx' ob:=⟨e.n,fun b hb _=>e.g b hb,.inl rfl⟩
theorem CZ.ne{h h':T ai}{nx nx' b:Key}{ob ob':Option Key}(a:CZ h nx ob h' nx' ob')(hb:b.toNat<nx.toNat)(hn:ob≠some b):ob'≠some b:=by
 rcases a.o with e|⟨x,e,hx⟩
 ·rw[e];exact hn
 ·rw[e];intro q;cases q;omega
theorem CZ.trans{h h' h2:T ai}{nx nx' n2:Key}{ob ob' o2:Option Key}(a:CZ h nx ob h' nx' ob')(b:CZ h' nx' ob' h2 n2 o2):CZ h nx ob h2 n2 o2:=by
 have h1:=a.n;refine⟨Nat.le_trans a.n b.n,fun x hx hn=>?_,?_⟩
 ·rw[b.g x (by omega) (a.ne hx hn)];exact a.g x hx hn
 ·rcases b.o with e|⟨y,e,hy⟩
  ·rw[e];exact a.o
  ·exact .inr ⟨y,e,by omega⟩
section
variable{z:Nat}{c:AV}{l new:List AV}{len m:Nat}{h h':T ai}{nx nx':Key}{ob:Option Key}
theorem Gr.nil(z:Nat)(h:T ai)(nx:Key):Gr z .nils [] 0 h nx none:=.inl ⟨rfl,rfl,rfl,rfl⟩
theorem Gr.lt(g:Gr z c l len h nx ob):∀b,ob=some b→b.toNat<nx.toNat:=by
 intro b hb;rcases g with⟨_,_,_,e⟩|⟨b',k,e,_,_,h4,_⟩|⟨t,e,_,_,h4⟩
 ·rw[hb]at e;cases e
 ·rw[hb]at e;cases e;exact h4
 ·rw[hb]at e;cases e;exact h4
theorem Gr.keep(g:Gr z c l len h nx ob)(hn:nx.toNat≤nx'.toNat)(hk:∀b,ob=some b→ag b h'=ag b h):Gr z c l len h' nx' ob:=by
 rcases g with g|⟨b,k,e,h1,h2,h3,h4⟩|⟨t,e,h1,h2,h3⟩
 ·exact .inl g
 ·exact .inr (.inl ⟨b,k,e,h1,by rw[hk b e];exact h2,by omega,h4⟩)
 ·exact .inr (.inr ⟨t,e,h1,by rw[hk t e];exact h2,by omega⟩)
theorem Gr.ext(g:Gr z c l len h nx ob)(e:Ext h nx h' nx'):Gr z c l len h' nx' ob:=g.keep e.n fun b hb=>e.g b (g.lt b hb)
theorem Gr.add(g:Gr z c l len h nx ob)(hw:FR z=false)(hz:0<z)(hm:0<m)(hs:∀x∈l,FJ x)(hn:new.length=m*z)(hl:len+m≤1048576)(hc:new.all AV.aQ=true) :
  ∃c' h' nx' ob',appendTo z c new m h nx=.val c' h' nx'∧Gr z c' (l++new) (len+m) h' nx' ob'∧CZ h nx ob h' nx' ob':=by
 have s1:=kTSu nx;have Nq:m≠0:=by omega
 rcases g with⟨rfl,rfl,rfl,rfl⟩|⟨b,k,rfl,rfl,h2,h3,h4,hk⟩|⟨t,rfl,rfl,h2,h3⟩
 ·have NR:m≤1048576:=by omega
  exact⟨.slice nx 0 m z,au nx (some (.cells new .part)) h,nx.succ,some nx,by simp[Nq,NR],.inr (.inl ⟨nx,.part,rfl,by simp,by simp,by omega,by simpa using hn,.inl rfl⟩),by omega,fun b hb _=>aw hb,.inr ⟨nx,rfl,gi _⟩⟩
 ·rcases hk with rfl|rfl
  ·refine⟨.sl (l++new) (len+m) z (.tok nx),au nx (some .tok) (au b none h),nx.succ,some nx,?_,.inr (.inr ⟨nx,rfl,by simp,by simp,by omega⟩),by omega,fun x hx hk=>?_,.inr ⟨nx,rfl,gi _⟩⟩
   ·simp[hl,hc,h2,h4,Nq,hw]
   ·rw[aw hx,aD];rintro rfl;exact hk rfl
  ·have OP:¬(len+m)*z≤len*z:=by rw[Nat.add_mul];have:=Nat.mul_pos hm hz;omega
   have M9:aY (aO 9999) l h=(l,h):=bw hs;have htl:List.take (len*z) l=l:=PH (by omega);refine⟨.slice nx 0 (len+m) z,au nx (some (.cells (l++new) .part)) h,nx.succ,some nx,?_,.inr (.inl ⟨nx,.part,rfl,rfl,by simp,by omega,by rw[xa,h4,hn,Nat.add_mul],.inl rfl⟩),by omega,fun b hb _=>aw hb,.inr ⟨nx,rfl,gi _⟩⟩;simp[hl,hc,h2,h4,OP,htl,M9]
 ·refine⟨.sl (l++new) (len+m) z (.tok nx),au nx (some .tok) (au t none h),nx.succ,some nx,?_,.inr (.inr ⟨nx,rfl,by simp,by simp,by omega⟩),by omega,fun x hx hk=>?_,.inr ⟨nx,rfl,gi _⟩⟩
  ·simp[hl,hc,h2,Nq]
  ·rw[aw hx,aD];rintro rfl;exact hk rfl
theorem Gr.Q9{α:Type}{enc:α→List AV}(F:Flat z enc){us:List α}(g:Gr z c (ak enc us) us.length h nx ob)(hw:FR z=false)(hz:0<z)(hl:us.length+1≤1048576)(x:α) :
  ∃c' h' nx' ob',appendTo z c (enc x) 1 h nx=.val c' h' nx'∧Gr z c' (ak enc (us ++ [x])) (us ++ [x]).length h' nx' ob'∧CZ h nx ob h' nx' ob':=by
 obtain⟨c',h',nx',ob',a,b,r⟩:=g.add (new:=enc x) (m:=1) hw hz (by omega) (F.FB us) (by rw[F.len,Nat.one_mul]) hl (xM.2 (F.cell x));exact⟨c',h',nx',ob',a,by rw[gZ,hJ,xa];exact b,r⟩
end
def Rd(z:Nat)(c:AV)(l:List AV)(len:Nat)(h:T ai)(nx:Key):Prop:=(c=.nils∧l=[]∧len=0)∨(∃f,c=.sl l len z f)∨∃(b:Key) (k:CK),c=.slice b 0 len z∧ag b h=some (.cells l k)∧b.toNat<nx.toNat∧l.length=len*z
theorem Gr.rd{z:Nat}{c:AV}{l:List AV}{len:Nat}{h:T ai}{nx:Key}{ob:Option Key}(g:Gr z c l len h nx ob):Rd z c l len h nx:=by
 rcases g with⟨h1,h2,h3,_⟩|⟨b,k,_,h1,h2,h3,h4,_⟩|⟨t,_,h1,_⟩
 ·exact .inl ⟨h1,h2,h3⟩
 ·exact .inr (.inr ⟨b,_,h1,h2,h3,h4⟩)
 ·exact .inr (.inl ⟨_,h1⟩)
theorem Rd.ext{z:Nat}{c:AV}{l:List AV}{len:Nat}{h h':T ai}{nx nx':Key}(g:Rd z c l len h nx)(e:Ext h nx h' nx'):Rd z c l len h' nx':=by
 rcases g with g|g|⟨b,k,h1,h2,h3,h4⟩
 ·exact .inl g
 ·exact .inr (.inl g)
 ·exact .inr (.inr ⟨b,k,h1,by rw[e.g b h3];exact h2,by have:=e.n;omega,h4⟩)
def IB(z i:Nat):AV→AV
 |.sl l _ _ _=>.cref (List.take z (List.drop (i*z) l))
 |.slice b off _ _=>.ptr b (off+i*z)
 |_=>.nils
theorem Rd.ix{z:Nat}{c:AV}{α:Type}{enc:α→List AV}(F:Flat z enc){us:List α}{h:T ai}{nx:Key}(g:Rd z c (ak enc us) us.length h nx){i:Nat}(hi:i<us.length){C:bH}{Q:cJ}{L:List ay}{tm:T AV}{n2 k1 k2 d1 d2:Key}(h1:ag k1 tm=some c)(h2:ag k2 tm=some (I i)) :
  qg C Q (⟨some d1,.indexL z (.t k1) (.t k2),none⟩ ::⟨some d2,.load true z (.t d1),none⟩ ::L) tm h n2=qg C Q L (au d2 (some (.agg (enc us[i]))) (au d1 (some (IB z i c)) tm)) h n2:=by
 have hr:=F.rows us;have he:=F.at hi;have hl:=F.len us[i];have tx:z≤us.length*z-i*z:=by rw[←Nat.sub_mul];exact Nat.le_mul_of_pos_left z (by omega)
 have tk:List.take z (enc us[i])=enc us[i]:=PH (by omega);rcases g with⟨_,_,e⟩|⟨f,rfl⟩|⟨b,k,rfl,hb,_,_⟩
 ·omega
 ·simp[h1,h2,hi,hr,tx,he,hl,tk,IB]
 ·simp[h1,h2,hi,hr,tx,he,hl,tk,IB,hb]
theorem Rd.ln{z:Nat}{c:AV}{l:List AV}{len:Nat}{h:T ai}{nx:Key}(g:Rd z c l len h nx){C:bH}{Q:cJ}{L:List ay}{tm:T AV}{h2:T ai}{n2 k1 d1:Key}(h1:ag k1 tm=some c) :
  qg C Q (⟨some d1,.lenL (.t k1),none⟩ ::L) tm h2 n2=qg C Q L (au d1 (some (I len)) tm) h2 n2:=by
 rcases g with⟨rfl,_,rfl⟩|⟨f,rfl⟩|⟨b,k,rfl,_⟩
 ·simp[h1]
 ·simp[h1]
 ·simp[h1]
end Go.Sx
namespace Ln
open Go.Sx Go
def sc0:Sc:=⟨[],-1,-1,-1,-1⟩
theorem kp0:Kp [] sc0:=by
 refine⟨rfl,?_,?_,?_,?_⟩
 ·intro c a b;unfold sc0 Sc.op sO;repeat' split<;>simp
 ·intro c _;unfold sc0 Sc.op;simp
 ·intro c a b h;unfold sc0 Sc.op at h;simp at h
 ·intro j o h;simp[sc0]at h
theorem Kp.lt{p:List Ev}{s:Sc}(h:Kp p s):∀c,0≤c→c≤3→s.op c<s.ops.length:=by
 intro c a b;by_cases h0:0≤s.op c
 ·obtain⟨o,h1,_⟩:=h.here c a b h0;have:=(List.getElem?_eq_some_iff.1 h1).1;omega
 ·omega
def ScI(ce:AV)(l:List Ev)(bo:Key)(h:T ai)(nx:Key)(m:Nat)(aA:T AV)(h':T ai)(nx':Key):Prop:=∃(i:Nat) (s:Sc),m=l.length-i∧i≤l.length∧At ce l s i bo nx aA h' nx'∧Kp (l.take i).reverse s∧scan 0 sc0 l=scan i s (l.drop i)∧Ext h nx h' nx'
def avD(l:List Ev)(h:T ai)(nx:Key)(o:Out)(h':T ai)(nx':Key):Prop:=(∃c,o=.ret (.tuple [c,I (DE (dI [] l))])∧Gro c (if dI [] l=0 then dm 0 l else []) h' nx' nx)∧Ext h nx h' nx'
variable{C:bH}{X:Kn}(S:Std C X)
include S
omit S in
theorem Uj{l:List Ev}{s:Sc}{i:Nat}{x:Ev}{t:List Ev}{n:Nat}(hs:scan 0 sc0 l=scan i s (x ::t))(hb:vp s x=n+1):dI [] l=n+1:=by
 have h1:=acb l;have h2:scan i s (x ::t)=(n+1,[]):=by show(match vp s x with|0=>scan (i+1) (lu i s x) t|n=>(n,[]))=_;rw[hb];rfl
 have:(⟨[],-1,-1,-1,-1⟩:Sc)=sc0:=rfl;rw[this,hs,h2]at h1;exact(congrArg Prod.fst h1).symm
omit S in
theorem apH{l:List Ev}{s:Sc}{i:Nat}(hs:scan 0 sc0 l=scan i s []):dI [] l=0∧dm 0 l=s.ops:=by have h1:=acb l;have:(⟨[],-1,-1,-1,-1⟩:Sc)=sc0:=rfl;have h2:scan i s []=(0,s.ops):=rfl;rw[this,hs,h2]at h1;have h3:=(congrArg Prod.fst h1).symm;have h4:=(congrArg Prod.snd h1).symm;simp only at h3 h4;rw[if_pos h3]at h4;exact⟨h3,h4⟩
theorem agK{ce:AV}{l:List Ev}(hl:Few l){h:T ai}{nx:Key}(hR:Rd 8 ce (ak eE l) l.length h nx){gh:T AV}{h1:T ai}{bW bo:Key}{s:Sc}{i:Nat}{Q:cJ}(hi:i<l.length)(A:At ce l s i bo nx gh h1 bW)(kp:Kp (l.take i).reverse s)(hs:scan 0 sc0 l=scan i s (l.drop i))(e1:Ext h nx h1 bW)
  (Fc:∀aA h' nx',ag (K 2) aA=some .nils→ag (K 3) aA=some (I (DE (dI [] l)))→dI [] l≠0→Ext h nx h' nx'→Q .ret aA h' nx')
  (ade:∀aA h' nx' m,m<l.length-i→ScI ce l bo h nx m aA h' nx'→Q .norm aA h' nx') :
  mE C qd Q gh h1 bW:=by
 have aMN:=hl.len;have rf:=S.r jR;have s1:=kTSu bW;have A':=A;obtain⟨g8,PD,ZZ,g37,⟨c7,g7,gro⟩,go,bo0,bo1⟩:=A';have hii:(i:Int)<l.length:=by omega
 have hlen:=FM.rows l;have hR1:=hR.ext e1;have hix:=fun {Q:cJ} {L:List ay} {tm:T AV} {k1 k2 d1 d2:Key} (qR:ag k1 tm=some ce) (DF:ag k2 tm=some (I i))=>hR1.ix FM hi (C:=C) (Q:=Q) (L:=L) (tm:=tm) (n2:=bW) (k1:=k1) (k2:=k2) (d1:=d1) (d2:=d2) qR DF;have Ip:=hl.args _ (UG hi);have hz:∀H,aO 9999 (.agg (eE l[i])) H=(.agg (eE l[i]),H):=fun H=>by have:=bw (n:=9998) (l:=eE l[i]) (h:=H) (FM.zD _);simp only[ajC];rw[this]
 have he:List.take 8 (eE l[i])=eE l[i]:=rfl;have hl8:(eE l[i]).length=8:=rfl;have hac:(eE l[i]).all AV.aQ=true:=xM.2 (FM.cell _);rw[zqt hi]at hs;have WT:(l.take (i+1)).reverse=l[i] ::(l.take i).reverse:=by rw[zqu hi];simp
 have uX:(l.take i).reverse.length=i:=by simp;omega
 generalize l[i]=x at *;simp[qd];simp[ux,ZZ,g37,hii];simp only[Cu,kj,lY,lZ,kl,l7,km,l8,l9,kn,ko,ma,mb,mc,me];simp[↓hix,PD,g37,he,hl8,hac];simp[Cv,rf,he,hl8,hz];have Fk:=e1.trans (E0 h1 bW (.cells (eE x) .fix));refine(aef S x Ip _ _).mono ?_;rintro o h2 aZ ⟨rfl,e2⟩;have e12:=Fk.trans e2;have gb2:ag bW h2=Qz (eE x):=by rw[e2.g bW (by omega)];simp
 have go2:ag bo h2=Qz (FP s):=by rw[e2.g bo (by omega),aw bo1];exact go
 have anq:Gro c7 s.ops h2 aZ nx:=(gro.ext (E0 h1 bW (.cells (eE x) .fix))).ext e2;have n2:=e2.n;simp;cases ym:Bx x with
 |false=>
  simp[uy];simp[Cw];have hv:=Uj hs (n:=0) (by unfold vp;rw[ym];rfl);refine Fc _ _ _ ?_ ?_ (by omega) e12
  ·simp
  ·simp[hv,DE]
 |true=>
  simp[uy];have hx2:0≤x.client∧x.client≤3:=by have h0:=ym;unfold Bx at h0;rw[decide_eq_true_eq]at h0;exact⟨h0.2.2.1,h0.2.2.2.1⟩
  obtain⟨c,hc⟩:=Int.eq_ofNat_of_zero_le hx2.1;have hc4:c<4:=by omega
  have XQ:c≤3:=by omega
  have hg:=QV s hc4;have ol:=Ma s;simp[Cx,g8,gb2,eE,hc,hc4,XQ,go2,hg,ol];simp[Cy,gb2,eE];have EU:x.kind=0∨x.kind=1∨x.kind=2:=by unfold Bx at ym;rw[decide_eq_true_eq]at ym;omega
  have cp:bo≠bW:=by rintro rfl;omega
  have sol:s.ops.length≤1000:=by have:=Fv (l.take i) 0;have h3:=kp.ops;rw[List.reverse_reverse]at h3;rw[h3];simp at this;omega
  have hcx:x.client=(c:Int):=hc;have fin:∀(Lo:T AV) (h3:T ai) (fT:Key),vp s x=0→At ce l (lu i s x) i bo nx Lo h3 fT→(∀b:Key,b.toNat<nx.toNat→ag b h3=ag b h2)→aZ.toNat≤fT.toNat→
    (aP 3 (bO (mE C (.ops hU) Q) Q)) .norm Lo h3 fT:=by
   intro Lo h3 fT hb A3 low n3;obtain⟨a8,a35,a36,a37,⟨d7,a7,azg⟩,ao,ab0,ab1⟩:=A3;simp;simp[hU,a37];rw[aS (by omega) (by omega)];refine ade _ _ _ (l.length-(i+1)) (by omega) ⟨i+1,lu i s x,rfl,by omega,⟨by simp[a8],by simp[a35],by simp[a36],by simp,⟨d7,by simp[a7],azg⟩,ao,ab0,ab1⟩,?_,?_,?_⟩
   ·have:=aiq kp ym hb;rw[uX]at this;rw[WT];exact this
   ·rw[hs];show(match vp s x with|0=>scan (i+1) (lu i s x) _|n=>(n,[]))=_;rw[hb];rfl
   ·exact⟨by have:=e12.n;omega,fun b hb=>by rw[low b hb];exact e12.g b hb⟩
  have hg2:∀hh,(FP s)[c]'hh=I (s.op c):=fun hh=>by have:=zC hh;rw[hg]at this;exact(Option.some.inj this).symm
  simp only[hg2];have A2:∀Lo:T AV,(∀k:Key,k=K 7∨k=K 8∨k=K 35∨k=K 36∨k=K 37→ag k Lo=ag k gh)→At ce l s i bo nx Lo h2 aZ:=fun Lo q=>
   ⟨(q (K 8) (by simp)).trans g8,(q (K 35) (by simp)).trans PD,(q (K 36) (by simp)).trans ZZ,(q (K 37) (by simp)).trans g37,⟨c7,(q (K 7) (by simp)).trans g7,anq⟩,go2,bo0,by omega⟩
  rcases EU with k0|k0|k0
  ·have key:=fun Lo A g9 g10 g12 g52=>an2 (C:=C) (Q:=aP 3 (bO (mE C (.ops hU) Q) Q)) (tm:=Lo) A ym k0 sol cp (by omega) g9 g10 gb2 g12 g52 (fun aA hb e2 e3=>by simp;have hv:=Uj hs (n:=1) hb;exact Fc _ _ _ e2 (by rw[hv];exact e3) (by omega) e12) (fun aA h' nx' hb A' low n=>fin aA h' nx' hb A' low n)
   simp only[NM,qA,ji,lX]at key;refine key _ (A2 _ ?_) ?_ ?_ ?_ ?_
   ·rintro k (rfl|rfl|rfl|rfl|rfl)<;>simp
   all_goals simp[hcx]
  ·have key:=fun Lo A g9 g10 g12 g52=>ayw (C:=C) (Q:=aP 3 (bO (mE C (.ops hU) Q) Q)) (tm:=Lo) A ym k0 (kp.lt _ hx2.1 hx2.2) cp (by omega) g9 g10 gb2 g12 g52 (fun aA hb e2 e3=>by simp;have hv:=Uj hs (n:=2) hb;exact Fc _ _ _ e2 (by rw[hv];exact e3) (by omega) e12) (fun aA h' nx' hb A' low n=>fin aA h' nx' hb A' low n)
   simp only[NM,qA,ji,lX]at key;refine key _ (A2 _ ?_) ?_ ?_ ?_ ?_
   ·rintro k (rfl|rfl|rfl|rfl|rfl)<;>simp
   all_goals simp[hcx]
  ·have key:=fun Lo A g9 g52=>anp (C:=C) (Q:=aP 3 (bO (mE C (.ops hU) Q) Q)) (tm:=Lo) A ym k0 kp.lt sol g9 g52 (fun aA h' nx' hb A' low n=>fin aA h' nx' hb A' low n);simp only[NM,qA,ji,lX]at key;refine key _ (A2 _ ?_) ?_ ?_
   ·rintro k (rfl|rfl|rfl|rfl|rfl)<;>simp
   all_goals simp
theorem aqD{ev:AV}{l:List Ev}(hl:Few l)(h:T ai)(nx:Key)(hv:Rd 8 ev (ak eE l) l.length h nx):aB C mL [ev] h nx (avD l h nx):=by
 have aMN:=hl.len;have s1:=kTSu nx;refine S.Hv.call ?_;simp[Du];simp[EF];simp[EG];have Rr:∀{c:AV} {h':T ai} {nx':Key} {s:Sc} {i:Nat},scan 0 sc0 l=scan i s []→Gro c s.ops h' nx' nx→Ext h nx h' nx'→avD l h nx (.ret (.tuple [c,I 0])) h' nx':=by intro c h' nx' s i hs g e;obtain⟨h1,h2⟩:=apH hs;refine⟨⟨c,by rw[h1];rfl,?_⟩,e⟩;rw[if_pos h1,h2];exact g
 simp[↓hv.ln,EH]
 ·refine W.iM (n:=l.length) (fun m aA h' nx'=>∃j b:Nat,m=l.length-j∧j≤l.length∧b≤j∧ag (K 0) aA=some ev∧ag (K 15) aA=some ev∧ag (K 16) aA=some (I l.length)∧ag (K 17) aA=some (I j)∧ag (K 4) aA=some (I b)∧Ext h nx h' nx') ?_ ?_
  ·exact⟨0,0,by simp,by omega,by omega,by simp,by simp,by simp,by simp,by simp,Ext.refl _ _⟩
  ·rintro m gh h1 bW ⟨j,b,rfl,hj,hb,g0,g15,g16,g17,g4,e1⟩;have s11:=kTSu bW;refine W.of ?_;have hR1:=hv.ext e1;simp[EI];simp[EJ,g16,g17];refine⟨fun dn=>?_,fun ZQ=>?_⟩
   ·have fu:j<l.length:=by omega
    have hlen:=FM.rows l;have hix:=fun {Q:cJ} {L:List ay} {tm:T AV} {k1 k2 d1 d2:Key} (qR:ag k1 tm=some ev) (DF:ag k2 tm=some (I j))=>hR1.ix FM fu (C:=C) (Q:=Q) (L:=L) (tm:=tm) (n2:=bW) (k1:=k1) (k2:=k2) (d1:=d1) (d2:=d2) qR DF;have hac:(eE l[j]).all AV.aQ=true:=xM.2 (FM.cell _);have he:List.take 8 (eE l[j])=eE l[j]:=rfl;have hl8:(eE l[j]).length=8:=rfl;have hk0:(eE l[j])[0]?=some (I l[j].kind):=rfl;have e2:=e1.trans (E0 h1 bW (.cells (eE l[j]) .fix));simp only[EK,kj,lY,lZ,kl,l7,km,l8,l9,kn,ko,ma,mb,mc,me];simp[↓hix,g15,g17,he,hl8,hac];by_cases k0:l[j].kind=0
    ·simp[wR,hl8,k0,eE];simp[EL,g4];simp[wS,g17];rw[aS (by omega) (by omega),aS (by omega) (by omega)];exact⟨l.length-(j+1),by omega,j+1,rfl,by omega,b+1,by omega,g0,g15,g16,by omega,by omega,by simpa[eE,k0]using e2⟩
    ·simp[wR,hl8,bq k0,eE];simp[wS,g17];rw[aS (by omega) (by omega)];exact⟨l.length-(j+1),by omega,j+1,rfl,by omega,b,by omega,g0,g15,g16,by omega,g4,by simpa[eE]using e2⟩
   ·have aMP:¬(64:Int)<l.length:=by omega
    have aMQ:¬(16:Int)<b:=by omega
    simp[↓hR1.ln,EM,g0,g4,aMP,aMQ];simp[Cz];simp[CA];have hR2:=hR1.ext (E0 h1 bW (.cells [I (-1),I (-1),I (-1),I (-1)] .fix));simp[↓hR2.ln,CB,g0];have n1:=e1.n;refine W.iM (n:=l.length) (ScI ev l bW h nx) ?_ ?_
    ·refine⟨0,sc0,by simp,by omega,⟨by simp,by simp,by simp,by simp,⟨.nils,by simp,.inl ⟨rfl,rfl⟩⟩,by simp[FP,sc0],by omega,by omega⟩,kp0,rfl,e1.trans (E0 h1 bW _)⟩
    ·rintro m cE h2 aZ ⟨i,s,rfl,hi,A,kp,hs,e2⟩;by_cases XT:i<l.length
     ·refine W.of (agK S hl hv XT A kp hs e2 ?_ ?_)
      ·intro aA h' nx' q2 q3 hv e';simp[q2,q3];exact⟨⟨.nils,rfl,.inl ⟨rfl,by rw[if_neg hv]⟩⟩,e'⟩
      ·intro aA h' nx' m hm hI;simp;exact⟨m,hm,hI⟩
     ·have Nb:i=l.length:=by omega
      subst Nb;obtain⟨a8,a35,a36,a37,⟨d7,a7,azg⟩,ao,ab0,ab1⟩:=A;refine W.of ?_;simp[qd];simp[ux,a36,a37];simp[CC,a7];rw[List.drop_length]at hs;exact Rr hs azg e2
end Ln
namespace Ln
open Go.Sx Go
variable{C:bH}{X:Kn}(S:Std C X)
include S
def ClI(l:List U)(b:Key)(h:T ai)(nx:Key)(m:Nat)(aA:T AV)(h':T ai)(nx':Key):Prop:=∃(j:Nat) (ls:List U),m=l.length-j∧j≤l.length∧ls.length=l.length∧ls.take j=l.take j∧
 ag (K 0) aA=some (.sl (ak eU l) l.length 4 .any)∧ag (K 1) aA=some (.fn cF [] [])∧ag (K 5) aA=some (.slice b 0 l.length 4)∧ag (K 14) aA=some (I l.length)∧ag (K 15) aA=some (I j)∧ag b h'=Qz (ak eU ls)∧(∀k:Key,k.toNat<b.toNat→ag k h'=ag k h)∧nx'=nx
theorem ajB(l:List U)(hl:l.length≤1000):Pur C iE [aC l,.fn cF [] []] (·=.ret (aC l)):=by
 intro h nx;have s1:=kTSu nx;have rc:=S.r cF;refine S.yX.call ?_;simp[ud];simp[xk];have eu:aC l=.nils∧l=[]∨aC l=.sl (ak eU l) l.length 4 .any∧l≠[]:=by
  cases l with
  |nil=>exact .inl ⟨rfl,rfl⟩
  |cons a t=>exact .inr ⟨rfl,by simp⟩
 rcases eu with⟨e,rfl⟩|⟨e,cp⟩
 ·simp[pr,e];simp[xl];exact Ext.refl _ _
 ·have h0:l.length≠0:=by simpa using cp
  have MO:((l.length:Int)==0)=false:=bq (by omega);have hm:l.length≤1048576:=by omega
  simp[pr,e,MO,h0];have hz:(List.replicate l.length [I 0,I 0,.str 0 0,.nils]).flatten=ak eU (List.replicate l.length ⟨0,0⟩):=by unfold ak;rw[List.flatMap_def,List.map_replicate];rfl
  simp[xm,hm,hz];simp[xn];refine W.iM (n:=l.length) (ClI l nx h nx.succ) ?_ ?_
  ·exact⟨0,List.replicate l.length ⟨0,0⟩,by simp,by omega,by simp,by simp,by simp,by simp,by simp,by simp,by simp,by simp,fun k hk=>aw hk,rfl⟩
  ·rintro m gh h1 bW ⟨j,ls,rfl,hj,hls,WT,g0,g1,g5,g14,g15,gb,ajw,rfl⟩;refine W.of ?_;simp[xo];simp[xp,g14,g15];refine⟨fun dn=>?_,fun ZQ=>?_⟩
   ·have fu:j<l.length:=by omega
    have hr:=og.rows l;have NA:=og.rows ls;have h4:4≤l.length*4-j*4:=by omega
    have ec:=og.at fu;have he:List.take 4 (eU l[j])=eU l[j]:=rfl;have hl4:(eU l[j]).length=4:=rfl;have hz:∀H,aO 9999 (.agg (eU l[j])) H=(.agg (eU l[j]),H):=fun H=>by simp[eU]
    have hjs:j<ls.length:=by omega
    have hp:=og.put hjs l[j];have h44:j*4+4≤l.length*4:=by omega
    simp[xq,g15];simp[xr,g0,g1,g5,fu,hr,h4,ec,he,hl4,rc,hz];refine aB.known (v:=.agg (eU l[j])) (S.s_Clone ⟨l[j].k,l[j].n,[]⟩ (by simp) _ _) ?_;simp[g0,g1,g5,fu,gb,NA,hls,h44,hl4,hp];simp[xu,g15];rw[aS (by omega) (by omega)];refine⟨l.length-(j+1),by omega,j+1,ls.set j l[j],rfl,by omega,by simpa using hls,?_,by simp[g0],by simp[g1],by simp[g5],by simp[g14],by simp,by simp,fun k hk=>?_,rfl⟩
    ·have q:(ls.set j l[j]).take j=ls.take j:=by rw[List.take_set];exact List.set_eq_of_length_le (by simp;omega)
     rw[zqu fu,zqu (by simpa using hjs),q,WT,List.getElem_set_self]
    ·rw[aw hk];exact ajw k hk
   ·have fu:j=l.length:=by omega
    subst fu;rw[List.take_length,PH (by omega)]at WT;subst WT;simp[xw,g5];have hf:=mg (n:=9998) gb (og.rows ls) (og.FB ls);simp only[hf];refine⟨trivial,?_⟩;exact⟨by omega,fun k hk=>by rw[aw hk];exact ajw k hk⟩
theorem BF(l:List U)(hl:l.length≤1000):Pur C da [aC l] (·=.ret (aC l)):=by intro h nx;have rc:=S.r iE;have hf:∀n H,aO n (aC l) H=(aC l,H):=dY l;refine S.GW.call ?_;simp[Dn];simp[Eb];simp[Ec,rc,hf];refine(ajB S l hl _ _).mono ?_;rintro o h1 bW ⟨rfl,e1⟩;simp[hf];exact e1
end Ln
namespace Ln
open Go.Sx Go
variable{C:bH}{X:Kn}(S:Std C X)
omit S in
theorem Oi:∀(l:List Ev) (o:Op) (i:Nat),(follow o i l).args=o.args
 | [],o,i=>rfl
 |x ::l,o,i=>by show(follow (qU i x o) (i+1) l).args=_;rw[Oi l];unfold qU;(repeat' split)<;>rfl
theorem Wu{n:Nat}:∀{l:List Ev} {i:Nat},(∀x∈l,x.args.length≤n)→∀o∈dm i l,o.args.length≤n
 | [],i,_,o,ho=>by simp[dm]at ho
 |x ::l,i,h,o,ho=>by
  simp only[dm,List.mem_append]at ho;rcases ho with ho|ho
  ·split at ho
   ·simp at ho;subst ho;rw[Oi];exact h x (by simp)
   ·simp at ho
  ·exact Wu (fun x hx=>h x (by simp[hx])) o ho
def OpI(os:List Op)(code:Int)(b n0:Key)(h:T ai)(nx:Key)(m:Nat)(aA:T AV)(h':T ai)(nx':Key):Prop:=∃j:Nat,m=os.length-j∧j≤os.length∧ag (K 4) aA=some (.slice b 0 os.length 10)∧ag (K 5) aA=some (I code)∧ag (K 13) aA=some (I os.length)∧ag (K 14) aA=some (I j)∧
 ag b h'=some (.cells (ak eO os) .part)∧b.toNat<nx'.toNat∧Ext h nx h' nx'
include S
theorem agV{ev:AV}{l:List Ev}(hl:Few l)(h:T ai)(nx:Key)(hv:Rd 8 ev (ak eE l) l.length h nx):aB C jt [ev] h nx (fun o h' nx'=>aA4 l o∧Ext h nx h' nx'):=by
 have s1:=kTSu nx;have rs:C.raw mL=true:=S.rw (by decide);have rc:=S.r da;have rv:=S.r cF;refine S.IT.call ?_;simp[Fq];simp[Ft];simp[Fu,rs];refine(aqD S hl _ _ hv).mono ?_;rintro o h1 bW ⟨⟨c,rfl,gro⟩,e1⟩;have eu:∀o∈(if dI [] l=0 then dm 0 l else []),o.args.length≤1000:=by
  intro o ho;split at ho
  ·exact Wu hl.args o ho
  ·simp at ho
 simp;unfold aA4;have MY:(if dI [] l=0 then dm 0 l else []).length≤16:=by
  split
  ·have:=Fv l 0;have:=hl.len;omega
  ·simp
 generalize (if dI [] l=0 then dm 0 l else [])=os at *;generalize DE (dI [] l)=code at *;rcases gro with⟨rfl,rfl⟩|⟨b,rfl,hb,MO,tM⟩
 ·simp[x8];refine W.ju (W.of ?_);simp[x9];simp[ya];simp[yb];exact⟨.inl ⟨rfl,rfl⟩,e1⟩
 ·simp[x8];refine W.iM (n:=os.length) (OpI os code b nx h1 bW) ?_ ?_
  ·exact⟨0,by simp,by omega,by simp,by simp,by simp,by simp,hb,tM,Ext.refl _ _⟩
  ·rintro m gh h2 aZ ⟨j,rfl,hj,g4,g5,g13,g14,gb,aGc,e2⟩;refine W.of ?_;simp[x9];simp[ya,g13,g14];refine⟨fun dn=>?_,fun ZQ=>?_⟩
   ·have fu:j<os.length:=by omega
    have hr:=kZ.rows os;have ec:=kZ.at fu;have hax:=eu _ (UG fu);have ha:((ak eO os))[j*10+5]?=some (aC os[j].args):=by have:=congrArg (fun l=>l[5]?) ec;rw[List.getElem?_take,List.getElem?_drop]at this;simpa[eO]using this
    have ha2:∀hh,(ak eO os)[j*10+5]'hh=aC os[j].args:=fun hh=>by have q:=zC hh;rw[ha]at q;exact(Option.some.inj q).symm
    have JV:List.take 4 (List.drop (j*10+6) (ak eO os))=eU os[j].res:=by have:=congrArg (fun l=>List.take 4 (List.drop 6 l)) ec;simp only[List.drop_take,List.drop_drop,List.take_take]at this;simpa[eO,eU]using this
    have hz1:∀n H,aO n (aC os[j].args) H=(aC os[j].args,H):=dY _;have hz2:∀H,aO 9999 (.agg (eU os[j].res)) H=(.agg (eU os[j].res),H):=fun H=>by simp[eU]
    have p1:=kZ.MZ (l:=os) (j:=j) (off:=5) (vs:=[aC os[j].args]) (y:=os[j]) fu (by simp) rfl;have p2:=kZ.MZ (l:=os) (j:=j) (off:=6) (vs:=eU os[j].res) (y:=os[j]) fu (by simp[eU]) rfl;have Q4:os.set j os[j]=os:=List.set_getElem_self fu;rw[Q4]at p1 p2;simp[eU]at p1 p2;have qR:j*10+5<os.length*10:=by omega
    have DF:j*10+5+1≤os.length*10:=by omega
    have Py:j*10+6+4≤os.length*10:=by omega
    have h4':4≤os.length*10-(j*10+6):=by omega
    have ac:=cG os[j].args;simp[Fw,g14];simp[Fx,g4,fu,gb,hr,ha2,qR,rc,hz1];refine(BF S _ hax _ _).mono ?_;rintro o h3 fT ⟨rfl,e3⟩;have gb3:ag b h3=some (.cells (ak eO os) .part):=by rw[e3.g b aGc];exact gb
    simp[g4,fu,gb3,hr,DF,ac.1,ac.2,p1];simp[Fy,g4,fu,gb3,hr,JV,h4',rv,hz2];refine aB.known (v:=.agg (eU os[j].res)) (S.s_Clone ⟨os[j].res.k,os[j].res.n,[]⟩ (by simp) _ _) ?_;simp[g4,fu,gb3,hr,Py,eU,p2];simp[Fz,g14];rw[aS (by omega) (by omega)];have n3:=e3.n;have n2:=e2.n;refine⟨os.length-(j+1),by omega,j+1,rfl,by omega,by simp[g4],by simp[g5],by simp[g13],by simp,by simp,by omega,?_⟩;refine⟨by omega,fun k hk=>?_⟩;by_cases hkb:k=b
    ·subst hkb;simp[hb]
    ·rw[aD _ _ _ _ hkb,e3.g k (by omega)];exact e2.g k hk
   ·simp[yb,g4,g5];have hf:=pD (n:=9998) gb (kZ.rows os) (kZ.FB os);simp only[hf];refine⟨.inr rfl,?_⟩;have e12:=e1.trans e2;exact⟨e12.n,fun k hk=>by rw[aw (by omega)];exact e12.g k hk⟩
end Ln
namespace Ln
open Go.Sx Go
def eI(n:Int):List AV:=[I n]
theorem IU:Flat 1 eI where
 len _:=rfl
 zD x y hy:=by simp[eI]at hy;subst hy;exact cX _ _
 cell x y hy:=by simp[eI]at hy;subst hy;rfl
 lits x:=by simp[eI,AV.dA,AV.lits,I]
theorem vf(l:List Int):(ak eI l).length=l.length:=by rw[IU.rows];omega
theorem adk:∀l:List Int,ak eI l=l.map I
 | []=>rfl
 |a ::t=>by rw[dc,adk t];rfl
theorem apR{l:List Int}{i:Nat}(hi:i<l.length):(ak eI l)[i]?=some (I l[i]):=by rw[adk];simp[hi]
@[simp] theorem aAZ{l:List Int}{i:Nat}(hh:i<(ak eI l).length):(ak eI l)[i]=I (l[i]'(by rw[vf]at hh;exact hh)):=by
 have h1:i<l.length:=by rw[vf]at hh;exact hh
 have:=zC hh;rw[apR h1]at this;exact(Option.some.inj this).symm
theorem HX{l:List Int}{i:Nat}(hi:i<l.length):List.take 1 (List.drop i (ak eI l))=[I l[i]]:=by have:=IU.at hi;rw[Nat.mul_one]at this;exact this
def Ord(c:AV)(l:List Int)(n:Nat)(h:T ai)(nx:Key):Prop:=n≤l.length∧((c=.nils∧n=0)∨(∃f,c=.sl (ak eI (l.take n)) n 1 f)∨∃(b:Key) (k:CK),c=.slice b 0 n 1∧ag b h=some (.cells (ak eI l) k)∧b.toNat<nx.toNat)
theorem Ord.ext{c:AV}{l:List Int}{n:Nat}{h h':T ai}{nx nx':Key}(o:Ord c l n h nx)(e:Ext h nx h' nx'):Ord c l n h' nx':=by
 obtain⟨h0,o⟩:=o;refine⟨h0,?_⟩;rcases o with o|o|⟨b,k,h1,h2,h3⟩
 ·exact .inl o
 ·exact .inr (.inl o)
 ·exact .inr (.inr ⟨b,k,h1,by rw[e.g b h3];exact h2,by have:=e.n;omega⟩)
variable{C:bH}{X:Kn}(S:Std C X)
include S
theorem TZ(a b:Op):Pur C hN [.agg (eO a),.agg (eO b)] (·=.ret (.bool (before a b))):=by
 intro h nx;have s1:=kTSu nx;have s2:=kTSu nx.succ;have ac1:=cG a.args;have ac2:=cG b.args;refine S.Cm.call ?_;simp[y8];simp[A6,eO,ac1.1,ac2.1];have e1:=(E0 h nx (.cells (eO a) .fix)).trans (E0 _ nx.succ (.cells (eO b) .fix));simp[eO]at e1;have Iu:before a b=(decide (0≤a.e)&&decide (a.e<b.b)||decide (0≤a.lost)&&decide (a.lost<b.b)):=by unfold before;rw[Bool.eq_iff_iff];simp
 by_cases h1:a.e<0
 ·by_cases h2:a.lost<0
  ·simp[dD,h1,h2];exact⟨by rw[Iu];simp;omega,e1⟩
  ·by_cases h3:a.lost<b.b
   ·simp[dD,h1,h2,h3];exact⟨by rw[Iu];simp;omega,e1⟩
   ·simp[dD,h1,h2,h3];exact⟨by rw[Iu];simp;omega,e1⟩
 ·by_cases h4:a.e<b.b
  ·simp[dD,h1,h4];exact⟨by rw[Iu];simp;omega,e1⟩
  ·by_cases h2:a.lost<0
   ·simp[dD,h1,h4,h2];exact⟨by rw[Iu];simp;omega,e1⟩
   ·by_cases h3:a.lost<b.b
    ·simp[dD,h1,h4,h2,h3];exact⟨by rw[Iu];simp;omega,e1⟩
    ·simp[dD,h1,h4,h2,h3];exact⟨by rw[Iu];simp;omega,e1⟩
end Ln
namespace Ln
open Go.Sx Go
variable{C:bH}{X:Kn}(S:Std C X)
include S
end Ln
namespace Ln
open Go.Sx Go
variable{C:bH}{X:Kn}(S:Std C X)
include S
end Ln
namespace Ln
open Go.Sx Go
variable{C:bH}{X:Kn}(S:Std C X)
include S
end Ln
namespace Ln
open Go.Sx Go
variable{C:bH}{X:Kn}(S:Std C X)
include S
end Ln
namespace Ln
open Go.Sx Go
theorem Ord.cases{c:AV}{l:List Int}{h:T ai}{nx:Key}(o:Ord c l l.length h nx):(c=.nils∧l=[])∨(∃f,c=.sl (ak eI l) l.length 1 f)∨∃(b:Key) (k:CK),c=.slice b 0 l.length 1∧ag b h=some (.cells (ak eI l) k)∧b.toNat<nx.toNat:=by
 obtain⟨_,oc⟩:=o;rcases oc with⟨e,h0⟩|⟨f,e⟩|e
 ·exact .inl ⟨e,zqr h0⟩
 ·rw[List.take_length]at e;exact .inr (.inl ⟨f,e⟩)
 ·exact .inr (.inr e)
variable{C:bH}{X:Kn}(S:Std C X)
include S
end Ln
namespace Ln
open Go.Sx Go
theorem auH(z:Op)(H:T ai):aY (aO 9998) (eO z) H=(eO z,H):=bw (kZ.zD _)
theorem aaY(z:Op):List.take 10 (eO z)=eO z:=rfl
theorem ajs(z:Op):(eO z).length=10:=rfl
variable{C:bH}{X:Kn}(S:Std C X)
include S
end Ln
namespace Ln
open Go.Sx Go
variable{C:bH}{X:Kn}(S:Std C X)
include S
end Ln
namespace Ln
open Go.Sx Go
variable{C:bH}{X:Kn}(S:Std C X)
include S
end Ln
namespace Ln
open Go.Sx Go
def O4(i:Nat)(name:Nat×Nat):Int:=match (aV i).findIdx? fun c=>c.name==name with
 |some t=>t
 |none=>-1
theorem ajW(i:Nat):(aV i).length≤3:=by unfold aV;split<;>simp
theorem asI{i:Nat}{name:Nat×Nat}(h:∀(t:Nat) (ht:t<(aV i).length),(aV i)[t].name≠name):O4 i name=-1∧w8 i name=none:=by
 have h1:(aV i).findIdx? (fun c=>c.name==name)=none:=by rw[List.findIdx?_eq_none_iff];intro c hc;obtain⟨t,ht,rfl⟩:=List.getElem_of_mem hc;simpa using h t ht
 have h2:(aV i).find? (fun c=>c.name==name)=none:=by rw[List.find?_eq_none];intro c hc;obtain⟨t,ht,rfl⟩:=List.getElem_of_mem hc;simpa using h t ht
 exact⟨by unfold O4;rw[h1],h2⟩
theorem asH{i t:Nat}{name:Nat×Nat}(ht:t<(aV i).length)(h:∀(s:Nat) (hs:s<(aV i).length),s<t→(aV i)[s].name≠name)(he:(aV i)[t].name=name):O4 i name=t∧w8 i name=some (aV i)[t]:=by
 have h1:(aV i).findIdx? (fun c=>c.name==name)=some t:=by rw[List.findIdx?_eq_some_iff_getElem];exact⟨ht,by simpa using he,fun s hs=>by simpa using h s (by omega) hs⟩
 have h2:(aV i).find? (fun c=>c.name==name)=some (aV i)[t]:=by rw[List.find?_eq_some_iff_getElem];refine⟨by simpa using he,t,ht,rfl,fun s hs=>?_⟩;simpa using h s (by omega) hs
 exact⟨by unfold O4;rw[h1],h2⟩
def yv(i:Nat):List Op→Int
 | []=>0
 |o ::l=>match w8 i o.name with
  |none=>6
  |some c=>if o.args.length=c.ar then yv i l else 1
theorem aiD{i:Nat}:∀{l:List Op},yv i l=0→∀o∈l,∃c,w8 i o.name=some c∧o.args.length=c.ar
 | [],_,o,ho=>by simp at ho
 |x ::l,h,o,ho=>by
  unfold yv at h;cases hc:w8 i x.name with
  |none=>rw[hc]at h;simp at h
  |some c=>
   rw[hc]at h;simp only at h;by_cases ha:x.args.length=c.ar
   ·rw[if_pos ha]at h;rcases CR.1 ho with rfl|ho
    ·exact⟨c,hc,ha⟩
    ·exact aiD h o ho
   ·rw[if_neg ha]at h;simp at h
variable{C:bH}{X:Kn}(S:Std C X)
include S
theorem ah8{i t:Nat}(ht:t<(aV i).length):List.take 23 (List.drop (t*23) (ak (X.cmd i) (List.range (aV i).length)))=X.cmd i t:=by have:=(S.ok.aeA i).at (l:=List.range (aV i).length) (i:=t) (by simpa using ht);simpa using this
theorem ah9{i:Nat}:(ak (X.cmd i) (List.range (aV i).length)).length=(aV i).length*23:=by have:=(S.ok.aeA i).rows (List.range (aV i).length);simpa using this
theorem aDs{i t:Nat}(hi:i<3)(ht:t<(aV i).length)(o:Op){h:T ai}{nx b:Key}{k:CK}(hb:ag b h=some (.cells (eO o) k))(tM:b.toNat<nx.toNat):aB C fj [.agg (X.cmd i t),.ptr b 0] h nx (fun out h' nx'=>out=.ret (.bool (decide ((aV i)[t].name=o.name)))∧Ext h nx h' nx'):=by
 have s1:=kTSu nx;have h0:=S.ok.aK0 i hi t _ (zC ht);have hl:=(S.ok.aeA i).len t;have hc:(X.cmd i t).all AV.aQ=true:=xM.2 ((S.ok.aeA i).cell t);have hb2:ag b (au nx (Qz (X.cmd i t)) h)=some (.cells (eO o) k):=by rw[aw tM];exact hb
 refine S.AL.call ?_;simp[wM];simp[zi,hc];generalize (aV i)[t]=c at *;rcases hn:c.name with⟨n1,n2⟩
 rcases hm:o.name with⟨m1,m2⟩
 rw[hn]at h0;have h0':∀hh,(X.cmd i t)[0]'hh=.str n1 n2:=fun hh=>by have q:=zC hh;rw[h0]at q;exact(Option.some.inj q).symm
 simp[zj,h0',hl,hb2,eO,hm];exact E0 h nx _
end Ln
namespace Ln
open Go.Sx Go
variable{C:bH}{X:Kn}(S:Std C X)
include S
abbrev ayK(X:Kn)(i:Nat):AV:=.sl (ak (X.cmd i) (List.range (aV i).length)) (aV i).length 23 .any
theorem aLL(i t:Nat)(H:T ai):aY (aO 9998) (X.cmd i t) H=(X.cmd i t,H):=bw ((S.ok.aeA i).zD t)
omit S in
theorem asG{i j:Nat}{name:Nat×Nat}(hj:j<(aV i).length)(h:∀(s:Nat) (hs:s<(aV i).length),s<j→(aV i)[s].name≠name)(hn:(aV i)[j].name≠name):∀(s:Nat) (hs:s<(aV i).length),s<j+1→(aV i)[s].name≠name:=by
 intro s hs hsj;by_cases e:s=j
 ·subst e;exact hn
 ·exact h s hs (by omega)
def IxI(i:Nat)(o:Op)(b:Key)(X:Kn)(h:T ai)(nx:Key)(m:Nat)(aA:T AV)(h':T ai)(nx':Key):Prop:=∃j:Nat,m=(aV i).length-j∧j≤(aV i).length∧ag (K 0) aA=some (ayK X i)∧ag (K 1) aA=some (.fn fj [] [.ptr b 0])∧ag (K 7) aA=some (I (aV i).length)∧ag (K 8) aA=some (I j)∧Ext h nx h' nx'∧∀(s:Nat) (hs:s<(aV i).length),s<j→(aV i)[s].name≠o.name
theorem aol{i:Nat}(hi:i<3)(o:Op){h:T ai}{nx b:Key}{k:CK}(hb:ag b h=some (.cells (eO o) k))(tM:b.toNat<nx.toNat):aB C bP [ayK X i,.fn fj [] [.ptr b 0]] h nx (fun out h' nx'=>out=.ret (I (O4 i o.name))∧Ext h nx h' nx'):=by
 have hn3:=ajW i;have rc:=S.r fj;refine S.iF.call ?_;simp[fk];simp[gO];simp[gQ];refine W.iM (n:=(aV i).length) (IxI i o b X h nx) ⟨0,by simp,by omega,by simp,by simp,by simp,by simp,Ext.refl _ _,fun s _ hs=>absurd hs (by omega)⟩ ?_;rintro m gh h1 bW ⟨j,rfl,hj,g0,g1,g7,g8,e1,BA⟩;refine W.of ?_;simp[gT];by_cases fu:j<(aV i).length
 ·have PF:(j:Int)<(aV i).length:=by omega
  have ec:=ah8 S fu;have hr:=ah9 S (i:=i);have hl:=(S.ok.aeA i).len j;have t23:23≤(aV i).length*23-j*23:=by omega
  have ht:List.take 23 (X.cmd i j)=X.cmd i j:=PH (by omega);simp[dN,g7,g8,PF];simp[gU,g8];simp[gV,g0,g1,fu,hr,t23,ec,hl,ht,rc,aLL S];refine(aDs S hi fu o (by rw[e1.g b tM];exact hb) (by have:=e1.n;omega)).mono ?_;rintro out h2 aZ ⟨rfl,e2⟩;by_cases hn:(aV i)[j].name=o.name
  ·simp[hn];simp[gW];exact⟨(asH fu BA hn).1.symm,e1.trans e2⟩
  ·simp[hn];simp[gX,g8];rw[aS (by omega) (by omega)];exact⟨(aV i).length-(j+1),by omega,j+1,rfl,by omega,by simp[g0],by simp[g1],by simp[g7],by simp,e1.trans e2,asG fu BA hn⟩
 ·have PC:j=(aV i).length:=by omega
  subst PC;simp[dN,g7,g8];simp[gY];exact⟨(asI (fun s hs=>BA s hs hs)).1.symm,e1⟩
end Ln
namespace Ln
open Go.Sx Go
def w9(i:Nat)(l:List Ev):Int:=if dI [] l=0 then yv i (dm 0 l)else DE (dI [] l)
def jy(os:List Op):Nat→Nat
 |0=>0
 |j+1=>if 0≤(os.getD j default).e then jy os j ||| 2^j else jy os j
theorem YL(os:List Op):∀j,jy os j<2^j
 |0=>by simp[jy]
 |j+1=>by
  have h:=YL os j;have h2:2^j<2^(j+1):=Nat.pow_lt_pow_right (by omega) (by omega);unfold jy;split
  ·exact Nat.or_lt_two_pow (by omega) h2
  ·omega
theorem yJ{j:Nat}(h:j≤16):2^j≤65536:=Nat.pow_le_pow_right (n:=2) (by omega) h
theorem ue{n:Nat}(h:n≤65536):QM .i64 (n:Int)=n:=by unfold QM full;show Int.toNat (Int.emod (n:Int) 18446744073709551616)=n;have:Int.emod (n:Int) 18446744073709551616=(n:Int):=Int.emod_eq_of_lt (by omega) (by omega);rw[this];rfl
def jB(X:Kn)(i:Nat)(cO:AV)(s:St)(e:Nat):List AV:=[.sl X.rows 7 45 .any,fD i,cO,I 200,I 50,I 0,I s.k,I s.n,.str 0 0,aC s.kids,I e]
variable{C:bH}{X:Kn}(S:Std C X)
include S
structure BgA(X:Kn)(i:Nat)(os:List Op)(cO:AV)(bm bl bd bj n0:Key)(e:Nat)(tm:T AV)(h:T ai)(nx:Key):Prop where
 g1:ag (K 1) tm=some (fD i)
 g4:ag (K 4) tm=some (.ptr bm 0)
 g7:ag (K 7) tm=some (.ptr bl 0)
 g10:ag (K 10) tm=some cO
 g12:ag (K 12) tm=some (.ptr bd 0)
 g14:ag (K 14) tm=some (.ptr bj 0)
 m:ag bm h=Qz [.sl X.rows 7 45 .any]
 l:ag bl h=Qz [I 200,I 50]
 d:ag bd h=Qz (X.dec i)
 j:ag bj h=Qz (jB X i cO ⟨0,0,[]⟩ e)
 lt:bm.toNat<nx.toNat∧bl.toNat<nx.toNat∧bd.toNat<nx.toNat∧bj.toNat<nx.toNat
 ge:n0.toNat≤bj.toNat
 ne:bm≠bj∧bl≠bj∧bd≠bj
def BgL(X:Kn)(i:Nat)(os:List Op)(cO:AV)(bm bl bd bj n0:Key)(h:T ai)(m:Nat)(aA:T AV)(h':T ai)(nx':Key):Prop:=∃j:Nat,m=os.length-j∧j≤os.length∧ag (K 41) aA=some cO∧ag (K 42) aA=some (I os.length)∧ag (K 43) aA=some (I j)∧BgA X i os cO bm bl bd bj n0 (jy os j) aA h' nx'∧Ext h n0 h' nx'∧yv i os=yv i (os.drop j)
theorem apD{i:Nat}(hi:i<3){os:List Op}(ho:os.length≤16){cO:AV}(hc:qf 10 eO cO os){bm bl bd bj n0:Key}{h:T ai}{Q:cJ}{m:Nat}{tm:T AV}{h1:T ai}{bW:Key}(A:BgL X i os cO bm bl bd bj n0 h m tm h1 bW)
  (PV:∀aA h' nx',ag (K 8) aA=some .nilp→ag (K 9) aA=some (I (yv i os))→yv i os≠0→Ext h n0 h' nx'→Q .ret aA h' nx')
  (mh:∀aA h' nx',BgA X i os cO bm bl bd bj n0 (jy os os.length) aA h' nx'→Ext h n0 h' nx'→yv i os=0→Q .norm aA h' nx') :
  W C (.loop qc) (aP 0 Q) tm h1 bW:=by
 have ri:=S.r bP;have d45:=S.ok.avf i hi;have d36:=S.ok.anP i hi;have adp:∀hh,(X.dec i)[36]'hh=ayK X i:=fun hh=>by have q:=zC hh;rw[d36]at q;exact(Option.some.inj q).symm
 refine W.iM (BgL X i os cO bm bl bd bj n0 h) A ?_;rintro m gh h2 aZ ⟨j,rfl,hj,g41,g42,g43,B,e2,C3⟩;obtain⟨g1,g4,g7,g10,g12,g14,bm2,bl2,bd2,bj2,lt,ge,ne⟩:=B;refine W.of ?_;simp[qc];by_cases fu:j<os.length
 ·have PF:(j:Int)<os.length:=by omega
  have anz:cO=.sl (ak eO os) os.length 10 .any:=by
   rcases hc with⟨_,rfl⟩|e
   ·simp at fu
   ·exact e
  have aEG:=g41;rw[anz]at aEG;have ec:=kZ.at fu;have hr:=kZ.rows os;have tx:10≤os.length*10-j*10:=by omega
  have s2:=kTSu aZ;have hac:(eO os[j]).all AV.aQ=true:=xM.2 (kZ.cell _);rw[zqt fu]at C3;have hbg:yv i (os[j] ::os.drop (j+1))=match w8 i os[j].name with|none=>6|some c=>if os[j].args.length=c.ar then yv i (os.drop (j+1))else 1:=rfl
  rw[hbg]at C3;have hgd:os.getD j default=os[j]:=by rw[List.getD_eq_getElem?_getD,zC fu];rfl
  have heb:jy os (j+1)=if 0≤os[j].e then jy os j ||| 2^j else jy os j:=by rw[←hgd];rfl
  have elt:=YL os j;have p16:=yJ (j:=j) (by omega);generalize os[j]=o at *;simp[wV,g42,g43,PF];simp[CN,aEG,g43,fu,hr,tx,ec,ajs,aaY,hac];have e3:=E0 h2 aZ (.cells (eO o) .fix);have gb3:ag aZ (au aZ (Qz (eO o)) h2)=Qz (eO o):=by simp
  have bd3:ag bd (au aZ (Qz (eO o)) h2)=Qz (X.dec i):=by rw[e3.g bd lt.2.2.1];exact bd2
  generalize hH:au aZ (Qz (eO o)) h2=h3 at *;simp[CO,g12,bd3,adp,d45,ri];refine(aol S hi o gb3 (by omega)).mono ?_;rintro out h4 mC ⟨rfl,e4⟩;simp;have gb4:ag aZ h4=Qz (eO o):=by rw[e4.g aZ (by omega)];exact gb3
  have e24:=e3.trans e4;have bm4:ag bm h4=Qz [.sl X.rows 7 45 .any]:=by rw[e24.g bm lt.1];exact bm2
  have bl4:ag bl h4=Qz [I 200,I 50]:=by rw[e24.g bl lt.2.1];exact bl2
  have bd4:ag bd h4=Qz (X.dec i):=by rw[e24.g bd lt.2.2.1];exact bd2
  have bj4:ag bj h4=Qz (jB X i cO ⟨0,0,[]⟩ (jy os j)):=by rw[e24.g bj lt.2.2.2];exact bj2
  have n24:=e24.n;have hix:(∃(t:Nat) (ht:t<(aV i).length),O4 i o.name=t∧w8 i o.name=some (aV i)[t])∨(O4 i o.name=-1∧w8 i o.name=none):=by
   unfold O4 w8;cases hf:(aV i).findIdx? (fun c=>c.name==o.name)with
   |none=>rw[List.findIdx?_eq_none_iff]at hf;exact .inr ⟨rfl,List.find?_eq_none.2 (fun c hc=>by simpa using hf c hc)⟩
   |some t=>rw[List.findIdx?_eq_some_iff_getElem]at hf;obtain⟨ht,h1,h2⟩:=hf;refine .inl ⟨t,ht,rfl,?_⟩;rw[List.find?_eq_some_iff_getElem];exact⟨h1,t,ht,rfl,fun s hs=>by simpa using h2 s hs⟩
  have next:∀(cE:T AV) (h5:T ai),(∀k:Key,k=K 1∨k=K 4∨k=K 7∨k=K 10∨k=K 12∨k=K 14∨k=K 41∨k=K 42∨k=K 43→ag k cE=ag k gh)→ag bj h5=Qz (jB X i cO ⟨0,0,[]⟩ (jy os (j+1)))→(∀k:Key,k≠bj→ag k h5=ag k h4)→yv i os=yv i (os.drop (j+1))→
    qg C (bO (fun tm h' nx'=>∃m,m<os.length-j∧BgL X i os cO bm bl bd bj n0 h m tm h' nx') (aP 0 Q)) j9 cE h5 mC:=by
   intro cE h5 q qj qk qe;have q43:=(q (K 43) (by simp)).trans g43;simp[j9,q43];rw[aS (by omega) (by omega)];refine⟨os.length-(j+1),by omega,j+1,rfl,by omega,?_,?_,by simp,⟨?_,?_,?_,?_,?_,?_,by rw[qk bm ne.1];exact bm4,by rw[qk bl ne.2.1];exact bl4,by rw[qk bd ne.2.2];exact bd4,qj,by omega,ge,ne⟩,?_,qe⟩
   ·simp;exact(q (K 41) (by simp)).trans g41
   ·simp;exact(q (K 42) (by simp)).trans g42
   ·simp;exact(q (K 1) (by simp)).trans g1
   ·simp;exact(q (K 4) (by simp)).trans g4
   ·simp;exact(q (K 7) (by simp)).trans g7
   ·simp;exact(q (K 10) (by simp)).trans g10
   ·simp;exact(q (K 12) (by simp)).trans g12
   ·simp;exact(q (K 14) (by simp)).trans g14
   ·exact⟨by have:=e2.n;omega,fun b hb=>by rw[qk b (fun e=>by subst e;omega),e24.g b (by have:=e2.n;omega)];exact e2.g b hb⟩
  have atJ:Ext h n0 h4 mC:=e2.trans e24;rcases hix with⟨t,ht,hx,hc'⟩|⟨hx,hc'⟩
  ·have h1:=S.ok.amA i hi t _ (zC ht);have ecr:=ah8 S ht;have hlr:=ah9 S (i:=i);have hl:=(S.ok.aeA i).len t;have t23:23≤(aV i).length*23-t*23:=by omega
   rw[hc']at C3;simp only at C3;have hx0:¬(t:Int)<0:=by omega
   generalize (aV i)[t]=c at *;obtain⟨d,hd,hD⟩:=h1;have Qq:∀hh,(X.cmd i t)[1]'hh=d:=fun hh=>by have q:=zC hh;rw[hd]at q;exact(Option.some.inj q).symm
   simp[uF,hx,hx0];have hA:(aC o.args=.nils∧o.args.length=0)∨∃l,aC o.args=.sl l o.args.length 4 .any:=by
    cases o.args with
    |nil=>exact .inl ⟨rfl,rfl⟩
    |cons a t=>exact .inr ⟨_,rfl⟩
   have rest:∀cE:T AV,(∀k:Key,k=K 1∨k=K 4∨k=K 7∨k=K 10∨k=K 12∨k=K 14∨k=K 15∨k=K 16∨k=K 41∨k=K 42∨k=K 43→ag k cE=ag k (au (K 15) (some (I j)) (au (K 16) (some (.ptr aZ 0)) gh)))→o.args.length=c.ar→
     qg C (bO (mE C (.cond (.t (K 67)) (.staged uG ⟨[K 68,K 69,K 70,K 71,K 72,K 73,K 74,K 75,K 76],[]⟩) .skip) (aP 1 (bO (mE C (.ops j9) (bO (fun tm h' nx'=>∃m,m<os.length-j∧BgL X i os cO bm bl bd bj n0 h m tm h' nx') (aP 0 Q))) (bO (fun tm h' nx'=>∃m,m<os.length-j∧BgL X i os cO bm bl bd bj n0 h m tm h' nx') (aP 0 Q))))) (aP 1 (bO (mE C (.ops j9) (bO (fun tm h' nx'=>∃m,m<os.length-j∧BgL X i os cO bm bl bd bj n0 h m tm h' nx') (aP 0 Q))) (bO (fun tm h' nx'=>∃m,m<os.length-j∧BgL X i os cO bm bl bd bj n0 h m tm h' nx') (aP 0 Q))))) od cE h4 mC:=by
    intro cE q hlen;rw[if_pos hlen]at C3;have q15:ag (K 15) cE=some (I j):=by rw[q (K 15) (by simp)];simp
    have q16:ag (K 16) cE=some (.ptr aZ 0):=by rw[q (K 16) (by simp)];simp
    have q14:ag (K 14) cE=some (.ptr bj 0):=by rw[q (K 14) (by simp)];simp[g14]
    have q9:∀k:Key,k=K 1∨k=K 4∨k=K 7∨k=K 10∨k=K 12∨k=K 14∨k=K 41∨k=K 42∨k=K 43→ag k cE=ag k gh:=by rintro k (rfl|rfl|rfl|rfl|rfl|rfl|rfl|rfl|rfl)<;>(rw[q _ (by simp)];simp)
    by_cases he:o.e<0
    ·rw[if_neg (by omega)]at heb;simp[od,q16,gb4,eO,he];refine next _ h4 ?_ (by rw[heb];exact bj4) (fun _ _=>rfl) C3
     rintro k (rfl|rfl|rfl|rfl|rfl|rfl|rfl|rfl|rfl)<;>(simp;exact q9 _ (by simp))
    ·rw[if_pos (by omega)]at heb;simp[od,q16,gb4,eO,he];have hsh:Ni .i64 j=true:=by unfold Ni;exact Nat.ble_eq_true_of_le (by omega)
     have Z0:((2:Int)^j)=((2^j:Nat):Int):=by simp
     have hp2:2^j≤65536:=yJ (by omega);have hw:bG .i64 ((2:Int)^j)=((2^j:Nat):Int):=by rw[Z0];exact aS (by omega) (by omega)
     have Ri:QM .i64 ((2^j:Nat):Int)=2^j:=ue hp2;have PW:QM .i64 (jy os j:Int)=jy os j:=ue (by omega);have hor:jy os j ||| 2^j<2^(j+1):=Nat.or_lt_two_pow (by have:2^j<2^(j+1):=Nat.pow_lt_pow_right (by omega) (by omega);omega) (Nat.pow_lt_pow_right (by omega) (by omega));have hp3:2^(j+1)≤131072:=Nat.pow_le_pow_right (n:=2) (by omega) (by omega:j+1≤17);have hw2:bG .i64 ((jy os j ||| 2^j:Nat):Int)=((jy os j ||| 2^j:Nat):Int):=aS (by omega) (by omega);simp[uG,q14,q15,bj4,jB,hsh,-Int.natCast_pow,hw,Ri,PW,hw2];refine next _ _ ?_ ?_ (fun k hk=>aD _ _ _ _ hk) C3
     ·rintro k (rfl|rfl|rfl|rfl|rfl|rfl|rfl|rfl|rfl)<;>(simp;exact q9 _ (by simp))
     ·rw[heb];simp[jB];rw[hw,Ri,hw2]
   rcases hA with⟨ea,ha0⟩|⟨la,ea⟩<;>rcases hD with⟨rfl,hk0⟩|⟨ld,z,rfl⟩
   ·simp[eh,g12,gb4,bd4,eO,adp,d45,ht,hlr,t23,ecr,hl,Qq,ea];refine rest _ ?_ (by omega);rintro k (rfl|rfl|rfl|rfl|rfl|rfl|rfl|rfl|rfl|rfl|rfl)<;>simp
   ·by_cases WY:c.ar=0
    ·simp[eh,g12,gb4,bd4,eO,adp,d45,ht,hlr,t23,ecr,hl,Qq,ea,WY];refine rest _ ?_ (by omega);rintro k (rfl|rfl|rfl|rfl|rfl|rfl|rfl|rfl|rfl|rfl|rfl)<;>simp
    ·have MO:((0:Int)==(c.ar:Int))=false:=bq (by omega);rw[if_neg (by omega)]at C3;simp[eh,g12,gb4,bd4,eO,adp,d45,ht,hlr,t23,ecr,hl,Qq,ea,MO];simp[oa];refine PV _ _ _ ?_ ?_ (by rw[C3];decide) atJ
     ·simp
     ·simp[C3]
   ·by_cases WY:o.args.length=0
    ·simp[eh,g12,gb4,bd4,eO,adp,d45,ht,hlr,t23,ecr,hl,Qq,ea,WY];refine rest _ ?_ (by omega);rintro k (rfl|rfl|rfl|rfl|rfl|rfl|rfl|rfl|rfl|rfl|rfl)<;>simp
    ·have MO:((o.args.length:Int)==0)=false:=bq (by omega);rw[if_neg (by omega)]at C3;simp[eh,g12,gb4,bd4,eO,adp,d45,ht,hlr,t23,ecr,hl,Qq,ea,MO];simp[oa];refine PV _ _ _ ?_ ?_ (by rw[C3];decide) atJ
     ·simp
     ·simp[C3]
   ·by_cases WY:o.args.length=c.ar
    ·simp[eh,g12,gb4,bd4,eO,adp,d45,ht,hlr,t23,ecr,hl,Qq,ea,WY];refine rest _ ?_ WY;rintro k (rfl|rfl|rfl|rfl|rfl|rfl|rfl|rfl|rfl|rfl|rfl)<;>simp
    ·have MO:((o.args.length:Int)==(c.ar:Int))=false:=bq (by omega);rw[if_neg WY]at C3;simp[eh,g12,gb4,bd4,eO,adp,d45,ht,hlr,t23,ecr,hl,Qq,ea,MO];simp[oa];refine PV _ _ _ ?_ ?_ (by rw[C3];decide) atJ
     ·simp
     ·simp[C3]
  ·rw[hc']at C3;simp only at C3;simp[uF,hx];simp[CP];refine PV _ _ _ ?_ ?_ (by rw[C3];decide) atJ
   ·simp
   ·simp[C3]
 ·have PC:j=os.length:=by omega
  subst PC;rw[List.drop_length]at C3;simp[wV,g42,g43];exact mh _ _ _ ⟨by simp[g1],by simp[g4],by simp[g7],by simp[g10],by simp[g12],by simp[g14],bm2,bl2,bd2,bj2,lt,ge,ne⟩ e2 C3
end Ln
namespace Ln
open Go.Sx Go
variable{C:bH}{X:Kn}(S:Std C X)
include S
def azc(mk:AV→List AV)(i:Nat)(l:List Ev)(h:T ai)(nx:Key)(o:Out)(h':T ai)(nx':Key):Prop:=Ext h nx h' nx'∧
 ((w9 i l≠0∧o=.ret (.tuple [.nilp,I (w9 i l)]))∨
  (w9 i l=0∧∃(b:Key) (cO:AV),o=.ret (.tuple [.ptr b 0,I 0])∧ag b h'=Qz (mk cO)∧qf 10 eO cO (dm 0 l)∧nx.toNat≤b.toNat∧b.toNat<nx'.toNat))
omit S in
theorem agI(i:Nat):∃k n,aJ i=⟨k,n,[]⟩:=by unfold aJ;split<;>exact⟨_,_,rfl⟩
theorem am0{i:Nat}(hi:i<3){ev:AV}{l:List Ev}(hl:Few l){h:T ai}{nx:Key}(hv:Rd 8 ev (ak eE l) l.length h nx):aB C mX [X.m,fD i,ev,dp] h nx (azc (fun cO=>jB X i cO (aJ i) (jy (dm 0 l) (dm 0 l).length)) i l h nx):=by
 have s1:=kTSu nx;have s2:=kTSu nx.succ;have rO:C.raw jt=true:=S.rw (by decide);have rD:=S.r jE;have rI:=S.r DA;have MY:(dm 0 l).length≤16:=by have:=Fv l 0;have:=hl.len;omega
 refine S.Hw.call ?_;simp[Dv];simp[Ez,Kn.m,dp];have e2:=(E0 h nx (.cells [.sl X.rows 7 45 .any] .fix)).trans (E0 _ nx.succ (.cells [I 200,I 50] .fix));have bm2:ag nx (au nx.succ (Qz [I 200,I 50]) (au nx (Qz [.sl X.rows 7 45 .any]) h))=Qz [.sl X.rows 7 45 .any]:=by rw[aw (by omega)];simp
 have bl2:ag nx.succ (au nx.succ (Qz [I 200,I 50]) (au nx (Qz [.sl X.rows 7 45 .any]) h))=Qz [I 200,I 50]:=by simp
 generalize au nx.succ (Qz [I 200,I 50]) (au nx (Qz [.sl X.rows 7 45 .any]) h)=h2 at *;simp[EA,rO];refine(agV S hl _ _ (hv.ext e2)).mono ?_;rintro o h3 fT ⟨⟨cO,rfl,hc⟩,e3⟩;have e23:=e2.trans e3;have bm3:ag nx h3=Qz [.sl X.rows 7 45 .any]:=by rw[e3.g nx (by omega)];exact bm2
 have bl3:ag nx.succ h3=Qz [I 200,I 50]:=by rw[e3.g nx.succ (by omega)];exact bl2
 have n3:=e3.n;simp;by_cases hvd:dI [] l=0
 ·rw[if_pos hvd]at hc;have hcb:w9 i l=yv i (dm 0 l):=by unfold w9;rw[if_pos hvd]
  simp[wP,hvd,DE];have d45:=S.ok.avf i hi;have dC:(X.dec i).all AV.aQ=true:=xM.2 (S.ok.aK1 i hi);simp[EB,bm3,rD];refine aB.known (S.s_parser_Decl i hi _ _) ?_;have s3:=kTSu fT;have s4:=kTSu fT.succ;simp[d45,dC];have dt:List.drop 45 (X.dec i)=[]:=List.drop_eq_nil_of_le (by omega);have e4:=E0 h3 fT (.cells (X.dec i) .fix);have bd4:ag fT (au fT (Qz (X.dec i)) h3)=Qz (X.dec i):=by simp
  have bm4:ag nx (au fT (Qz (X.dec i)) h3)=Qz [.sl X.rows 7 45 .any]:=by rw[e4.g nx (by omega)];exact bm3
  have bl4:ag nx.succ (au fT (Qz (X.dec i)) h3)=Qz [I 200,I 50]:=by rw[e4.g nx.succ (by omega)];exact bl3
  generalize au fT (Qz (X.dec i)) h3=h4 at *;simp[EC];have ZY:cO.aQ=true∧cO.cells=[cO]:=hc.cell;have hcz:∀n H,aO n cO H=(cO,H):=fun n H=>hc.zD n H;simp[ED,bm4,bl4,ZY.1,ZY.2,hcz];have e5:=E0 h4 fT.succ (.cells (jB X i cO ⟨0,0,[]⟩ 0) .fix);have ejB:jB X i cO ⟨0,0,[]⟩ 0=[.sl X.rows 7 45 .any,fD i,cO,I 200,I 50,I 0,I 0,I 0,.str 0 0,.nils,I 0]:=rfl;rw[ejB]at e5;have s5:=kTSu fT.succ;have bj5:ag fT.succ (au fT.succ (Qz [.sl X.rows 7 45 .any,fD i,cO,I 200,I 50,I 0,I 0,I 0,.str 0 0,.nils,I 0]) h4)=Qz (jB X i cO ⟨0,0,[]⟩ 0):=by rw[gTSm];rfl
  have bm5:ag nx (au fT.succ (Qz [.sl X.rows 7 45 .any,fD i,cO,I 200,I 50,I 0,I 0,I 0,.str 0 0,.nils,I 0]) h4)=Qz [.sl X.rows 7 45 .any]:=by rw[e5.g nx (by omega)];exact bm4
  have bl5:ag nx.succ (au fT.succ (Qz [.sl X.rows 7 45 .any,fD i,cO,I 200,I 50,I 0,I 0,I 0,.str 0 0,.nils,I 0]) h4)=Qz [I 200,I 50]:=by rw[e5.g nx.succ (by omega)];exact bl4
  have bd5:ag fT (au fT.succ (Qz [.sl X.rows 7 45 .any,fD i,cO,I 200,I 50,I 0,I 0,I 0,.str 0 0,.nils,I 0]) h4)=Qz (X.dec i):=by rw[e5.g fT (by omega)];exact bd4
  have e25:=(e23.trans e4).trans e5;generalize au fT.succ (Qz [.sl X.rows 7 45 .any,fD i,cO,I 200,I 50,I 0,I 0,I 0,.str 0 0,.nils,I 0]) h4=h5 at *;have main:∀tm5:T AV,ag (K 41) tm5=some cO→ag (K 42) tm5=some (I (dm 0 l).length)→ag (K 43) tm5=some (I 0)→ag (K 1) tm5=some (fD i)→ag (K 4) tm5=some (.ptr nx 0)→ag (K 7) tm5=some (.ptr nx.succ 0)→ag (K 10) tm5=some cO→ag (K 12) tm5=some (.ptr fT 0)→ag (K 14) tm5=some (.ptr fT.succ 0)→
    W C (.loop qc) (aP 0 (bO (mE C (.seq (.ops uq) (.seq (.seq (.ops ur) (.cond (.t (K 86)) (.seq (.ops Ct) .ret) .skip)) (.seq (.ops uv) (.seq (.ops uw) .ret)))) (gC [.tmp (K 8),.tmp (K 9)] (azc (fun cO=>jB X i cO (aJ i) (jy (dm 0 l) (dm 0 l).length)) i l h nx))) (gC [.tmp (K 8),.tmp (K 9)] (azc (fun cO=>jB X i cO (aJ i) (jy (dm 0 l) (dm 0 l).length)) i l h nx)))) tm5 h5 fT.succ.succ:=by
   intro tm5 q41 q42 q43 q1 q4 q7 q10 q12 q14;refine apD S hi MY hc (h:=h) (n0:=nx) (bm:=nx) (bl:=nx.succ) (bd:=fT) (bj:=fT.succ) (m:=(dm 0 l).length) ⟨0,by simp,by omega,q41,q42,by simpa using q43,⟨q1,q4,q7,q10,q12,q14,bm5,bl5,bd5,bj5,by omega,by omega,?_⟩,e25,rfl⟩ ?_ ?_
   ·refine⟨?_,?_,?_⟩<;>(intro e;have:=congrArg Key.toNat e;omega)
   ·intro aA h' nx' a8 a9 cp e';simp[a8,a9];exact⟨e',.inl ⟨by rw[hcb];exact cp,by rw[hcb]⟩⟩
   ·rintro aA h' nx' ⟨a1,a4,a7,a10,a12,a14,bm',bl',bd',bj',lt,ge,ne⟩ e' MO;simp;simp[uq,a1,a4,a7,bm',bl',rI];refine aB.known (S.s_InitP i hi _ _) ?_;obtain⟨k,n,Th⟩:=agI i;have es:eS (aJ i)=[I k,I n,.str 0 0,.nils]:=by rw[Th];rfl
    have s6:=kTSu nx';simp[es];have bj6:ag fT.succ (au nx' (Qz [I k,I n,.str 0 0,.nils]) h')=Qz (jB X i cO ⟨0,0,[]⟩ (jy (dm 0 l) (dm 0 l).length)):=by rw[aw lt.2.2.2];exact bj'
    simp[ur];simp[uv,a14,bj6,jB];simp[uw,a14];refine⟨?_,.inr ⟨by rw[hcb];exact MO,fT.succ,cO,rfl,?_,hc,by omega,by omega⟩⟩
    ·exact⟨by have:=e'.n;omega,fun b hb=>by rw[aw (by omega),aw (by have:=e'.n;omega)];exact e'.g b hb⟩
    ·simp[jB,Th,aC]
  rcases id hc with⟨ec,eo⟩|ec
  ·have hl0:(dm 0 l).length=0:=by rw[eo];rfl
   have aMJ:((dm 0 l).length:Int)=0:=by omega
   rw[aMJ]at main;simp[wQ,ec];refine main _ ?_ ?_ ?_ ?_ ?_ ?_ ?_ ?_ ?_<;>simp[ec]
  ·simp[wQ,ec];refine main _ ?_ ?_ ?_ ?_ ?_ ?_ ?_ ?_ ?_<;>simp[ec]
 ·have cp:DE (dI [] l)≠0:=by unfold DE;split<;>first|exact absurd ‹_› hvd|decide
  have hcb:w9 i l=DE (dI [] l):=by unfold w9;rw[if_neg hvd]
  simp[wP,bq cp];simp[EE];exact⟨e23,.inl ⟨by rw[hcb];exact cp,by rw[hcb]⟩⟩
end Ln
namespace Ln
open Go.Sx Go
variable{C:bH}{X:Kn}(S:Std C X)
include S
end Ln
namespace Ln
open Go.Sx Go
def wB(X:Kn)(i:Nat)(cO:AV)(s:St):List AV:=[.sl X.rows 7 45 .any,fD i,I 200,I 50,cO,I s.k,I s.n,.str 0 0,aC s.kids]
variable{C:bH}{X:Kn}(S:Std C X)
include S
end Ln
