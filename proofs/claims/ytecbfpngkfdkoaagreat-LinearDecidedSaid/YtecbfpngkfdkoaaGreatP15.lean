/- A part of the proof. No condition. -/
import Derived.Test.YtecbfpngkfdkoaaGreatP13
import Derived.Test.YtecbfpngkfdkoaaGreatP14
import Derived.Test.YtecbfpngkfdkoaaGreatP11
namespace Ln
open Go.Sx Go Go.Proofs
inductive Sh:j6→Nat→Prop
 |put0:Sh .put 0
 |put1:Sh .put 1
 |put2:Sh .put 2
 |put3:Sh .put 3
 |get0:Sh .get 0
 |get1:Sh .get 1
 |get2:Sh .get 2
 |get3:Sh .get 3
 |inc0:Sh .inc 0
 |readC0:Sh .zA 0
 |add0:Sh .add 0
 |write0:Sh .write 0
 |readR0:Sh .wL 0
theorem Jj:∀{c:j6} {n:Nat},n≤Cr c.yW→Sh c n
 |.put,0,_=>.put0
 |.put,1,_=>.put1
 |.put,2,_=>.put2
 |.put,3,_=>.put3
 |.put,n+4,h=>absurd h (by simp[Cr,j6.yW])
 |.get,0,_=>.get0
 |.get,1,_=>.get1
 |.get,2,_=>.get2
 |.get,3,_=>.get3
 |.get,n+4,h=>absurd h (by simp[Cr,j6.yW])
 |.inc,0,_=>.inc0
 |.inc,n+1,h=>absurd h (by simp[Cr,j6.yW])
 |.zA,0,_=>.readC0
 |.zA,n+1,h=>absurd h (by simp[Cr,j6.yW])
 |.add,0,_=>.add0
 |.add,n+1,h=>absurd h (by simp[Cr,j6.yW])
 |.write,0,_=>.write0
 |.write,n+1,h=>absurd h (by simp[Cr,j6.yW])
 |.wL,0,_=>.readR0
 |.wL,n+1,h=>absurd h (by simp[Cr,j6.yW])
def ZK:j6→Nat→aP
 |.put,0=>RE
 |.put,1=>RF
 |.put,2=>RG
 |.put,3=>RH
 |.get,0=>RI
 |.get,1=>RJ
 |.get,2=>RK
 |.get,3=>RL
 |.inc,0=>RM
 |.zA,0=>Ly
 |.add,0=>RN
 |.write,0=>Lz
 |_,_=>LA
def QM:j6→Nat→aP
 |.put,0=>LB
 |.put,1=>LC
 |.put,2=>LD
 |.put,3=>LF
 |.get,0=>LG
 |.get,1=>LI
 |.get,2=>LJ
 |.get,3=>LK
 |.inc,0=>LM
 |.zA,0=>GW
 |.add,0=>LN
 |.write,0=>GX
 |_,_=>GY
def Rn:j6→Nat→aP
 |.put,0=>OF
 |.put,1=>OG
 |.put,2=>OH
 |.put,3=>OI
 |.get,0=>OJ
 |.get,1=>OK
 |.get,2=>OL
 |.get,3=>OM
 |.inc,0=>ON
 |.zA,0=>Jr
 |.add,0=>OO
 |.write,0=>Js
 |_,_=>Jt
def as9:j6→Nat→aP
 |.put,0=>RO
 |.put,1=>RP
 |.put,2=>RT
 |.put,3=>RU
 |.get,0=>RW
 |.get,1=>RX
 |.get,2=>RY
 |.get,3=>RZ
 |.inc,0=>R6
 |.zA,0=>LO
 |.add,0=>R7
 |.write,0=>LP
 |_,_=>LQ
def agY:j6→Nat→aP
 |.put,0=>LR
 |.put,1=>LU
 |.put,2=>LV
 |.put,3=>LW
 |.get,0=>LX
 |.get,1=>LY
 |.get,2=>LZ
 |.get,3=>L1
 |.inc,0=>L3
 |.zA,0=>GZ
 |.add,0=>L4
 |.write,0=>G9
 |_,_=>Ha
def aln:j6→Nat→aP
 |.put,0=>OP
 |.put,1=>OQ
 |.put,2=>OS
 |.put,3=>OT
 |.get,0=>OU
 |.get,1=>OV
 |.get,2=>OW
 |.get,3=>OX
 |.inc,0=>OY
 |.zA,0=>Ju
 |.add,0=>OZ
 |.write,0=>Jv
 |_,_=>Jw
abbrev aqh(c:j6)(n:Nat):List AV:=[vM,gH c.yW,.str c.name.1 c.name.2,stS 0 n,auN c.ar,mF]
abbrev No(c:j6)(n:Nat):List AV:=[vM,gH c.yW,.str c.name.1 c.name.2,stS 0 n,auN c.ar,azv,mF]
theorem azz{c:j6}{n:Nat}(h:Sh c n):aP.di (CF aR) 149 (ZK c n) ⟨ah 149 (fx 149) (aqh c n),[],.nil,bG⟩ [] []=true:=by
 cases h
 ·exact XJ
 ·exact XK
 ·exact XL
 ·exact XM
 ·exact XN
 ·exact XO
 ·exact XP
 ·exact XQ
 ·exact XR
 ·exact R8
 ·exact XS
 ·exact R9
 ·exact Sa
theorem aqi{c:j6}{n:Nat}(h:Sh c n):aP.di (CF aR) 150 (QM c n) ⟨ah 150 (fx 150) (No c n),[],.nil,bG⟩ [] []=true:=by
 cases h
 ·exact Sb
 ·exact Sd
 ·exact Se
 ·exact Sf
 ·exact Sg
 ·exact Si
 ·exact Sj
 ·exact Sk
 ·exact Sl
 ·exact Nv
 ·exact Sm
 ·exact Nw
 ·exact Nx
theorem auS{c:j6}{n:Nat}(h:Sh c n):aP.di (CF aR) 151 (Rn c n) ⟨ah 151 (fx 151) (No c n),[],.nil,bG⟩ [] []=true:=by
 cases h
 ·exact UY
 ·exact UZ
 ·exact U0
 ·exact U1
 ·exact U2
 ·exact U3
 ·exact U4
 ·exact U5
 ·exact U6
 ·exact PW
 ·exact U7
 ·exact PY
 ·exact PZ
theorem azA{c:j6}{n:Nat}(h:Sh c n):aP.di (CF aR) 154 (as9 c n) ⟨ah 154 (fx 154) (aqh c n),[],.nil,bG⟩ [] []=true:=by
 cases h
 ·exact XT
 ·exact XU
 ·exact XV
 ·exact XW
 ·exact XX
 ·exact XY
 ·exact XZ
 ·exact X0
 ·exact X1
 ·exact Sn
 ·exact X2
 ·exact Sp
 ·exact Sq
theorem aqk{c:j6}{n:Nat}(h:Sh c n):aP.di (CF aR) 155 (agY c n) ⟨ah 155 (fx 155) (No c n),[],.nil,bG⟩ [] []=true:=by
 cases h
 ·exact Sr
 ·exact Ss
 ·exact Su
 ·exact Sv
 ·exact Sw
 ·exact Sz
 ·exact SA
 ·exact SB
 ·exact SC
 ·exact Ny
 ·exact SE
 ·exact Nz
 ·exact NA
theorem auT{c:j6}{n:Nat}(h:Sh c n):aP.di (CF aR) 156 (aln c n) ⟨ah 156 (fx 156) (No c n),[],.nil,bG⟩ [] []=true:=by
 cases h
 ·exact U8
 ·exact U9
 ·exact Va
 ·exact Vb
 ·exact Vc
 ·exact Vd
 ·exact Ve
 ·exact Vf
 ·exact Vg
 ·exact P0
 ·exact Vh
 ·exact P1
 ·exact P2
theorem QO:AV.lits vM=true:=by kernel_rfl
theorem agZ:vM.kf=true:=by kernel_rfl
theorem as3{c:j6}{n:Nat}(h:Sh c n):AV.IP (aqh c n)=true:=by have hv:=agZ;cases h<;>simp only[AV.IP,hv]<;>rfl
theorem QS{c:j6}{n:Nat}(h:Sh c n):AV.IP (No c n)=true:=by have hv:=agZ;cases h<;>simp only[AV.IP,hv]<;>rfl
theorem aEl{c:j6}{n:Nat}(h:Sh c n):Ro akY (ZK c n).dt []=true:=by cases h<;>kernel_rfl
theorem auL{c:j6}{n:Nat}(h:Sh c n):Ro akY (QM c n).dt []=true:=by cases h<;>kernel_rfl
theorem azs{c:j6}{n:Nat}(h:Sh c n):Ro (ak1 4) (Rn c n).dt []=true:=by cases h<;>kernel_rfl
def noB:AV→Bool
 |.tuple [.bool false,.int .i64 (.lit _)]=>true
 |.tuple [.bool _,.int .i64 (.lit (.ofNat (_+1)))]=>true
 |.tuple [.bool _,.int .i64 (.lit (.negSucc _))]=>true
 |_=>false
theorem azt{c:j6}{n:Nat}(h:Sh c n):Ro (ak1 (Cr c.yW)) (Rn c n).dt []=true∨Ro noB (ZK c n).dt []=true:=by
 cases h
 ·exact .inl (by kernel_rfl)
 ·exact .inl (by kernel_rfl)
 ·exact .inl (by kernel_rfl)
 ·exact .inr (by kernel_rfl)
 ·exact .inl (by kernel_rfl)
 ·exact .inl (by kernel_rfl)
 ·exact .inl (by kernel_rfl)
 ·exact .inl (by kernel_rfl)
 ·exact .inl (by kernel_rfl)
 ·exact .inl (by kernel_rfl)
 ·exact .inl (by kernel_rfl)
 ·exact .inl (by kernel_rfl)
 ·exact .inl (by kernel_rfl)
theorem aqj{c:j6}{n:Nat}(h:Sh c n):DT.same (as9 c n).dt (ZK c n).dt []=true:=by cases h<;>kernel_rfl
theorem aiq{c:j6}{n:Nat}(h:Sh c n):DT.same (agY c n).dt (QM c n).dt []=true:=by cases h<;>kernel_rfl
theorem alc{c:j6}{n:Nat}(h:Sh c n):DT.same (aln c n).dt (Rn c n).dt []=true:=by cases h<;>kernel_rfl
def z0:U:=⟨0,0⟩
def akR(c:j6)(s:St)(bs:List U):AV:=(ZK c s.kids.length).dt.val (AS s bs z0 0)
def Rm(c:j6)(s:St)(bs:List U)(r:U):AV:=(QM c s.kids.length).dt.val (AS s bs r 0)
def ZL(c:j6)(s:St)(bs:List U)(r:U):AV:=(Rn c s.kids.length).dt.val (AS s bs r 0)
def Kd(i:Nat):List AV:=(sU.drop (45*i)).take 45
def aEk(i:Nat):List AV:=match (Kd i)[36]? with
 |some (AV.sl l _ _ _)=>l
 |_=>[]
def Lh(i t:Nat):List AV:=bif Nat.blt i 3&&Nat.blt t (aU i).length then((aEk i).drop (23*t)).take 23 else List.replicate 23 (I 0)
def K0:Kn where
 rows:=sU
 dec:=Kd
 cmd:=Lh
 Xq c s bs:=akS (akR c s bs)
 Xr c s bs:=ZM (akR c s bs)
 Cl c s bs r:=akS (Rm c s bs r)
 Cm c s bs r:=ZM (Rm c s bs r)
 EM c s bs r:=akT (ZL c s bs r)
 GM c s bs r:=ZM (ZL c s bs r)
theorem agH{c:j6}{s:St}(hs:iX c.yW s)(bs:List U):akR c s bs=.tuple [.bool (K0.Xq c s bs),I (K0.Xr c s bs)]:=ZN (aEl (Jj hs))
theorem Wf{c:j6}{s:St}(hs:iX c.yW s)(bs:List U)(r:U):Rm c s bs r=.tuple [.bool (K0.Cl c s bs r),I (K0.Cm c s bs r)]:=ZN (auL (Jj hs))
theorem ZO{c:j6}{s:St}(hs:iX c.yW s)(bs:List U)(r:U):ZL c s bs r=.tuple [.agg (eS (K0.EM c s bs r)),I (K0.GM c s bs r)]:=(ZP (azs (Jj hs))).1
def adx:AV→Bool
 |.int _ _=>true
 |.str _ _=>true
 |.bool _=>true
 |.nils=>true
 |.sl _ _ _ .any=>true
 |_=>false
theorem QN{y:AV}(h:adx y=true):UC y∧y.aV=true:=by
 cases y<;>simp only[adx]at h<;>first|(cases h;done)|skip
 ·exact⟨akU _,rfl⟩
 ·exact⟨dG _ _,rfl⟩
 ·exact⟨wC _ _,rfl⟩
 ·exact⟨CU,rfl⟩
 ·rename_i l n z f;cases f with
  |any=>exact⟨Xs _ _ _,rfl⟩
  |tok t=>cases h
def okR(l:List AV):Bool:=Nat.beq l.length 23&&l.all adx&&AV.gS l
theorem ap3(i t:Nat):okR (Lh i t)=true:=by
 have hr:okR (List.replicate 23 (I 0))=true:=by decide
 match i,t with
 |0,0=>show okR (Lh 0 0)=true;kernel_rfl
 |0,1=>show okR (Lh 0 1)=true;kernel_rfl
 |0,t+2=>exact hr
 |1,0=>show okR (Lh 1 0)=true;kernel_rfl
 |1,1=>show okR (Lh 1 1)=true;kernel_rfl
 |1,2=>show okR (Lh 1 2)=true;kernel_rfl
 |1,t+3=>exact hr
 |2,0=>show okR (Lh 2 0)=true;kernel_rfl
 |2,1=>show okR (Lh 2 1)=true;kernel_rfl
 |2,t+2=>exact hr
 |i+3,t=>exact hr
theorem auM(i:Nat)(hi:i<3):(Nat.beq (Kd i).length 45&&(Kd i).all adx)=true:=by
 match i,hi with
 |0,_=>show(Nat.beq (Kd 0).length 45&&(Kd 0).all adx)=true;kernel_rfl
 |1,_=>show(Nat.beq (Kd 1).length 45&&(Kd 1).all adx)=true;kernel_rfl
 |2,_=>show(Nat.beq (Kd 2).length 45&&(Kd 2).all adx)=true;kernel_rfl
def ZQ(i:Nat):Bool:=match (Kd i)[36]? with
 |some v=>AV.beq v (.sl (ai (Lh i) (List.range (aU i).length)) (aU i).length 23 .any)
 |none=>false
theorem akV(i:Nat)(hi:i<3):ZQ i=true:=by
 match i,hi with
 |0,_=>show ZQ 0=true;kernel_rfl
 |1,_=>show ZQ 1=true;kernel_rfl
 |2,_=>show ZQ 2=true;kernel_rfl
def asZ(c:j6):AV→Bool
 |.nils=>Nat.beq c.ar 0
 |.sl _ n _ .any=>Nat.beq n c.ar
 |_=>false
def Jk(i t:Nat)(c:j6):Bool:=(match (Lh i t)[0]? with
 |some (AV.str n k)=>Nat.beq n c.name.1&&Nat.beq k c.name.2
 |_=>false)&&(match (Lh i t)[1]? with
 |some d=>asZ c d
 |none=>false)
theorem ZR{i:Nat}(hi:i<3){t:Nat}{c:j6}(h:(aU i)[t]?=some c):Jk i t c=true:=by
 match i,hi,t,h with
 |0,_,0,h=>cases h;show Jk 0 0 .put=true;kernel_rfl
 |0,_,1,h=>cases h;show Jk 0 1 .get=true;kernel_rfl
 |0,_,t+2,h=>simp[aU]at h
 |1,_,0,h=>cases h;show Jk 1 0 .inc=true;kernel_rfl
 |1,_,1,h=>cases h;show Jk 1 1 .zA=true;kernel_rfl
 |1,_,2,h=>cases h;show Jk 1 2 .add=true;kernel_rfl
 |1,_,t+3,h=>simp[aU]at h
 |2,_,0,h=>cases h;show Jk 2 0 .write=true;kernel_rfl
 |2,_,1,h=>cases h;show Jk 2 1 .wL=true;kernel_rfl
 |2,_,t+2,h=>simp[aU]at h
theorem ap4{u:AV}{ρ:Nat→Int}(h:noB u=true):akS (u.sub ρ)=false∨ZM (u.sub ρ)≠0:=by
 unfold noB at h;split at h
 ·exact .inl rfl
 ·right;show Int.ofNat (_+1)≠0;intro e;cases e
 ·right;show Int.negSucc _≠0;intro e;cases e
 ·cases h
theorem ap5{c:j6}{o:Op}{s t:St}(hs:iX c.yW s)(h:K0.take c o s=some t):iX c.yW t:=by
 rcases azt (Jj hs)with hn|hn
 ·have hv:=(ZP (ρ:=AS s o.args o.res 0) hn).2;unfold Kn.take at h;split at h
  ·cases h
  ·split at h
   ·cases h
   ·split at h
    ·cases h
    ·cases h;exact hv
 ·obtain⟨u,h1,h2⟩:=Li (ρ:=AS s o.args z0 0) hn trivial;have h3:=ap4 (ρ:=AS s o.args z0 0) h1;rw[←h2]at h3;unfold Kn.take at h;rw[if_pos (h3.elim (fun e=>.inr e) fun e=>.inl e)]at h;cases h
theorem as0:K0.Ok:=by
 have hd:=auM;have hc:=ap3;refine⟨fun i=>⟨fun t=>?_,fun t y hy=>?_,fun t y hy=>?_,fun t=>?_⟩,fun i hi=>?_,fun i hi t c h=>?_,fun i hi t c h=>?_,fun i hi=>?_,fun i hi y hy=>?_,fun i hi y hy=>?_,fun c o s t hs _ h=>ap5 hs h⟩
 ·have:=hc i t;unfold okR at this;simp only[nn]at this;exact qX this.1.1
 ·have:=hc i t;unfold okR at this;simp only[nn]at this;exact(QN (AQ.1 this.1.2 y hy)).1
 ·have:=hc i t;unfold okR at this;simp only[nn]at this;exact(QN (AQ.1 this.1.2 y hy)).2
 ·have:=hc i t;unfold okR at this;simp only[nn]at this;exact this.2
 ·have:=akV i hi;unfold ZQ at this;show(Kd i)[36]?=_;cases hv:(Kd i)[36]? with
  |none=>rw[hv]at this;cases this
  |some v=>rw[hv]at this;rw[AV.eq_of_beq _ _ this];rfl
 ·have:=ZR hi h;unfold Jk at this;simp only[nn]at this;have h1:=this.1;show(Lh i t)[0]?=_;split at h1
  ·rename_i n k e;rw[e];simp only[nn]at h1;rw[qX h1.1,qX h1.2]
  ·cases h1
 ·have:=ZR hi h;unfold Jk at this;simp only[nn]at this;have h1:=this.2;show ∃d,(Lh i t)[1]?=some d∧_;split at h1
  ·rename_i d e;refine⟨d,e,?_⟩;unfold asZ at h1;split at h1
   ·exact .inl ⟨rfl,qX h1⟩
   ·exact .inr ⟨_,_,by rw[qX h1]⟩
   ·cases h1
  ·cases h1
 ·have:=hd i hi;simp only[nn]at this;exact qX this.1
 ·have:=hd i hi;simp only[nn]at this;exact(QN (AQ.1 this.2 y hy)).1
 ·have:=hd i hi;simp only[nn]at this;exact(QN (AQ.1 this.2 y hy)).2
theorem auE:AV.beq K0.m K0.m=true:=show AV.beq vM vM=true from beq_refl _ QO
end Ln
