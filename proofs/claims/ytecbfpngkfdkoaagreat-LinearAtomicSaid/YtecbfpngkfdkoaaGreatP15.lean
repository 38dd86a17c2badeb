/- A part of the proof. No condition. -/
import Derived.Test.YtecbfpngkfdkoaaGreatP13
import Derived.Test.YtecbfpngkfdkoaaGreatP14
import Derived.Test.YtecbfpngkfdkoaaGreatP11
namespace Ln
open Go.Sx Go Go.Proofs
inductive Sh:cd→Nat→Prop
 |put0:Sh .put 0
 |put1:Sh .put 1
 |put2:Sh .put 2
 |put3:Sh .put 3
 |get0:Sh .get 0
 |get1:Sh .get 1
 |get2:Sh .get 2
 |get3:Sh .get 3
 |inc0:Sh .inc 0
 |readC0:Sh .readC 0
 |add0:Sh .add 0
 |write0:Sh .write 0
 |readR0:Sh .readR 0
theorem I8:∀{c:cd} {n:Nat},n≤AX c.fm→Sh c n
 |.put,0,_=>.put0
 |.put,1,_=>.put1
 |.put,2,_=>.put2
 |.put,3,_=>.put3
 |.put,n+4,h=>absurd h (by simp[AX,cd.fm])
 |.get,0,_=>.get0
 |.get,1,_=>.get1
 |.get,2,_=>.get2
 |.get,3,_=>.get3
 |.get,n+4,h=>absurd h (by simp[AX,cd.fm])
 |.inc,0,_=>.inc0
 |.inc,n+1,h=>absurd h (by simp[AX,cd.fm])
 |.readC,0,_=>.readC0
 |.readC,n+1,h=>absurd h (by simp[AX,cd.fm])
 |.add,0,_=>.add0
 |.add,n+1,h=>absurd h (by simp[AX,cd.fm])
 |.write,0,_=>.write0
 |.write,n+1,h=>absurd h (by simp[AX,cd.fm])
 |.readR,0,_=>.readR0
 |.readR,n+1,h=>absurd h (by simp[AX,cd.fm])
def ZY:cd→Nat→aL
 |.put,0=>RO
 |.put,1=>RP
 |.put,2=>RT
 |.put,3=>RU
 |.get,0=>RW
 |.get,1=>RX
 |.get,2=>RY
 |.get,3=>RZ
 |.inc,0=>tX
 |.readC,0=>L8
 |.add,0=>R4
 |.write,0=>L9
 |_,_=>Ma
def Q5:cd→Nat→aL
 |.put,0=>Mb
 |.put,1=>Mc
 |.put,2=>Md
 |.put,3=>Me
 |.get,0=>Mf
 |.get,1=>Mg
 |.get,2=>Mh
 |.get,3=>Mi
 |.inc,0=>Mj
 |.readC,0=>GR
 |.add,0=>Mk
 |.write,0=>GU
 |_,_=>GV
def RC:cd→Nat→aL
 |.put,0=>O8
 |.put,1=>O9
 |.put,2=>Pa
 |.put,3=>Pb
 |.get,0=>Pc
 |.get,1=>Pd
 |.get,2=>Pe
 |.get,3=>Pf
 |.inc,0=>Pg
 |.readC,0=>Jd
 |.add,0=>Ph
 |.write,0=>Je
 |_,_=>Jf
def atE:cd→Nat→aL
 |.put,0=>R6
 |.put,1=>R7
 |.put,2=>R8
 |.put,3=>R9
 |.get,0=>Sa
 |.get,1=>Sb
 |.get,2=>Sd
 |.get,3=>Se
 |.inc,0=>Sf
 |.readC,0=>Ml
 |.add,0=>Sg
 |.write,0=>Mm
 |_,_=>Mn
def ahh:cd→Nat→aL
 |.put,0=>Mo
 |.put,1=>Mp
 |.put,2=>Mq
 |.put,3=>Mr
 |.get,0=>Ms
 |.get,1=>Mt
 |.get,2=>Mv
 |.get,3=>Mw
 |.inc,0=>Mx
 |.readC,0=>GW
 |.add,0=>My
 |.write,0=>GX
 |_,_=>GY
def al0:cd→Nat→aL
 |.put,0=>Pj
 |.put,1=>Pk
 |.put,2=>Pl
 |.put,3=>Pm
 |.get,0=>Pn
 |.get,1=>Po
 |.get,2=>Pp
 |.get,3=>Pq
 |.inc,0=>Pr
 |.readC,0=>Jg
 |.add,0=>Ps
 |.write,0=>Jh
 |_,_=>Ji
abbrev aqB(c:cd)(n:Nat):List AV:=[vM,fT c.fm,.str c.name.1 c.name.2,stS 0 n,avs c.ar,iW]
abbrev NV(c:cd)(n:Nat):List AV:=[vM,fT c.fm,.str c.name.1 c.name.2,stS 0 n,avs c.ar,aAf,iW]
theorem aAk{c:cd}{n:Nat}(h:Sh c n):aL.cu (CF aQ) 149 (ZY c n) ⟨ai 149 (fx 149) (aqB c n),[],.nil,bC⟩ [] []=true:=by
 cases h
 ·exact XX
 ·exact XY
 ·exact XZ
 ·exact X0
 ·exact X1
 ·exact X2
 ·exact X3
 ·exact X4
 ·exact X5
 ·exact Si
 ·exact X6
 ·exact Sj
 ·exact Sk
theorem aqC{c:cd}{n:Nat}(h:Sh c n):aL.cu (CF aQ) 150 (Q5 c n) ⟨ai 150 (fx 150) (NV c n),[],.nil,bC⟩ [] []=true:=by
 cases h
 ·exact Sl
 ·exact Sm
 ·exact Sn
 ·exact Sp
 ·exact Sr
 ·exact Ss
 ·exact Su
 ·exact Sv
 ·exact Sw
 ·exact N1
 ·exact Sz
 ·exact N2
 ·exact N3
theorem avB{c:cd}{n:Nat}(h:Sh c n):aL.cu (CF aQ) 151 (RC c n) ⟨ai 151 (fx 151) (NV c n),[],.nil,bC⟩ [] []=true:=by
 cases h
 ·exact UW
 ·exact UX
 ·exact UY
 ·exact UZ
 ·exact U0
 ·exact U1
 ·exact U2
 ·exact U3
 ·exact U4
 ·exact Qk
 ·exact U5
 ·exact Ql
 ·exact Qm
theorem aAl{c:cd}{n:Nat}(h:Sh c n):aL.cu (CF aQ) 154 (atE c n) ⟨ai 154 (fx 154) (aqB c n),[],.nil,bC⟩ [] []=true:=by
 cases h
 ·exact X7
 ·exact X8
 ·exact X9
 ·exact Ya
 ·exact Yb
 ·exact Yc
 ·exact Yd
 ·exact Ye
 ·exact Yf
 ·exact SA
 ·exact Yg
 ·exact SB
 ·exact SC
theorem aqE{c:cd}{n:Nat}(h:Sh c n):aL.cu (CF aQ) 155 (ahh c n) ⟨ai 155 (fx 155) (NV c n),[],.nil,bC⟩ [] []=true:=by
 cases h
 ·exact SE
 ·exact SG
 ·exact SH
 ·exact SJ
 ·exact SK
 ·exact SL
 ·exact SM
 ·exact SN
 ·exact SO
 ·exact N4
 ·exact SP
 ·exact N5
 ·exact N6
theorem avC{c:cd}{n:Nat}(h:Sh c n):aL.cu (CF aQ) 156 (al0 c n) ⟨ai 156 (fx 156) (NV c n),[],.nil,bC⟩ [] []=true:=by
 cases h
 ·exact U6
 ·exact U7
 ·exact U8
 ·exact U9
 ·exact Va
 ·exact Vb
 ·exact Vc
 ·exact Vd
 ·exact Ve
 ·exact Qn
 ·exact Vf
 ·exact Qo
 ·exact Qp
theorem AS:AV.lits vM=true:=by kernel_rfl
theorem aar:vM.kf=true:=by kernel_rfl
theorem atv{c:cd}{n:Nat}(h:Sh c n):AV.Ey (aqB c n)=true:=by have hv:=aar;cases h<;>simp only[AV.Ey,hv]<;>rfl
theorem Q8{c:cd}{n:Nat}(h:Sh c n):AV.Ey (NV c n)=true:=by have hv:=aar;cases h<;>simp only[AV.Ey,hv]<;>rfl
theorem aFt{c:cd}{n:Nat}(h:Sh c n):RF alz (ZY c n).dt []=true:=by cases h<;>kernel_rfl
theorem avp{c:cd}{n:Nat}(h:Sh c n):RF alz (Q5 c n).dt []=true:=by cases h<;>kernel_rfl
theorem aAc{c:cd}{n:Nat}(h:Sh c n):RF (alC 4) (RC c n).dt []=true:=by cases h<;>kernel_rfl
def noB:AV→Bool
 |.tuple [.bool false,.int .i64 (.lit _)]=>true
 |.tuple [.bool _,.int .i64 (.lit (.ofNat (_+1)))]=>true
 |.tuple [.bool _,.int .i64 (.lit (.negSucc _))]=>true
 |_=>false
theorem aAd{c:cd}{n:Nat}(h:Sh c n):RF (alC (AX c.fm)) (RC c n).dt []=true∨RF noB (ZY c n).dt []=true:=by
 cases h
 ·exact .inl (by kernel_rfl)
 ·exact .inl (by kernel_rfl)
 ·exact .inl (by kernel_rfl)
 ·exact .inr (by kernel_rfl)
 ·exact .inl (by kernel_rfl)
 ·exact .inl (by kernel_rfl)
 ·exact .inl (by kernel_rfl)
 ·exact .inl (by kernel_rfl)
 ·exact .inl (by kernel_rfl)
 ·exact .inl (by kernel_rfl)
 ·exact .inl (by kernel_rfl)
 ·exact .inl (by kernel_rfl)
 ·exact .inl (by kernel_rfl)
theorem aqD{c:cd}{n:Nat}(h:Sh c n):DT.same (atE c n).dt (ZY c n).dt []=true:=by cases h<;>kernel_rfl
theorem aiV{c:cd}{n:Nat}(h:Sh c n):DT.same (ahh c n).dt (Q5 c n).dt []=true:=by cases h<;>kernel_rfl
theorem alR{c:cd}{n:Nat}(h:Sh c n):DT.same (al0 c n).dt (RC c n).dt []=true:=by cases h<;>kernel_rfl
def z0:U:=⟨0,0⟩
def ZX(c:cd)(s:St)(bs:List U):AV:=(ZY c s.kids.length).dt.val (yz s bs z0 0)
def GM(c:cd)(s:St)(bs:List U)(r:U):AV:=(Q5 c s.kids.length).dt.val (yz s bs r 0)
def O1(c:cd)(s:St)(bs:List U)(r:U):AV:=(RC c s.kids.length).dt.val (yz s bs r 0)
def KC(i:Nat):List AV:=(pW.drop (45*i)).take 45
def aFs(i:Nat):List AV:=match (KC i)[36]? with
 |some (AV.sl l _ _ _)=>l
 |_=>[]
def LW(i t:Nat):List AV:=bif Nat.blt i 3&&Nat.blt t (aZ i).length then((aFs i).drop (23*t)).take 23 else List.replicate 23 (I 0)
def K0:Kn where
 rows:=pW
 dec:=KC
 cmd:=LW
 UR c s bs:=adR (ZX c s bs)
 US c s bs:=RD (ZX c s bs)
 zf c s bs r:=adR (GM c s bs r)
 zg c s bs r:=RD (GM c s bs r)
 Ct c s bs r:=aiM (O1 c s bs r)
 Ez c s bs r:=RD (O1 c s bs r)
theorem ag5{c:cd}{s:St}(hs:jL c.fm s)(bs:List U):ZX c s bs=.tuple [.bool (K0.UR c s bs),I (K0.US c s bs)]:=ZZ (aFt (I8 hs))
theorem Wj{c:cd}{s:St}(hs:jL c.fm s)(bs:List U)(r:U):GM c s bs r=.tuple [.bool (K0.zf c s bs r),I (K0.zg c s bs r)]:=ZZ (avp (I8 hs))
theorem Z0{c:cd}{s:St}(hs:jL c.fm s)(bs:List U)(r:U):O1 c s bs r=.tuple [.agg (eS (K0.Ct c s bs r)),I (K0.Ez c s bs r)]:=(Z1 (aAc (I8 hs))).1
def Z2:AV→Bool
 |.int _ _=>true
 |.str _ _=>true
 |.bool _=>true
 |.nils=>true
 |.sl _ _ _ .any=>true
 |_=>false
theorem Ih{y:AV}(h:Z2 y=true):KD y∧y.aM=true:=by
 cases y<;>simp only[Z2]at h<;>first|(cases h;done)|skip
 ·exact⟨alv _,rfl⟩
 ·exact⟨c5 _ _,rfl⟩
 ·exact⟨jj _ _,rfl⟩
 ·exact⟨qG,rfl⟩
 ·rename_i l n z f;cases f with
  |any=>exact⟨KE _ _ _,rfl⟩
  |tok t=>cases h
def okR(l:List AV):Bool:=Nat.beq l.length 23&&l.all Z2&&AV.dU l
theorem aqm(i t:Nat):okR (LW i t)=true:=by
 have hr:okR (List.replicate 23 (I 0))=true:=by decide
 match i,t with
 |0,0=>show okR (LW 0 0)=true;kernel_rfl
 |0,1=>show okR (LW 0 1)=true;kernel_rfl
 |0,t+2=>exact hr
 |1,0=>show okR (LW 1 0)=true;kernel_rfl
 |1,1=>show okR (LW 1 1)=true;kernel_rfl
 |1,2=>show okR (LW 1 2)=true;kernel_rfl
 |1,t+3=>exact hr
 |2,0=>show okR (LW 2 0)=true;kernel_rfl
 |2,1=>show okR (LW 2 1)=true;kernel_rfl
 |2,t+2=>exact hr
 |i+3,t=>exact hr
theorem avq(i:Nat)(hi:i<3):(Nat.beq (KC i).length 45&&(KC i).all Z2)=true:=by
 match i,hi with
 |0,_=>show(Nat.beq (KC 0).length 45&&(KC 0).all Z2)=true;kernel_rfl
 |1,_=>show(Nat.beq (KC 1).length 45&&(KC 1).all Z2)=true;kernel_rfl
 |2,_=>show(Nat.beq (KC 2).length 45&&(KC 2).all Z2)=true;kernel_rfl
def Z3(i:Nat):Bool:=match (KC i)[36]? with
 |some v=>AV.beq v (.sl (aq (LW i) (List.range (aZ i).length)) (aZ i).length 23 .any)
 |none=>false
theorem alw(i:Nat)(hi:i<3):Z3 i=true:=by
 match i,hi with
 |0,_=>show Z3 0=true;kernel_rfl
 |1,_=>show Z3 1=true;kernel_rfl
 |2,_=>show Z3 2=true;kernel_rfl
def ato(c:cd):AV→Bool
 |.nils=>Nat.beq c.ar 0
 |.sl _ n _ .any=>Nat.beq n c.ar
 |_=>false
def I9(i t:Nat)(c:cd):Bool:=(match (LW i t)[0]? with
 |some (AV.str n k)=>Nat.beq n c.name.1&&Nat.beq k c.name.2
 |_=>false)&&(match (LW i t)[1]? with
 |some d=>ato c d
 |none=>false)
theorem Z4{i:Nat}(hi:i<3){t:Nat}{c:cd}(h:(aZ i)[t]?=some c):I9 i t c=true:=by
 match i,hi,t,h with
 |0,_,0,h=>cases h;show I9 0 0 .put=true;kernel_rfl
 |0,_,1,h=>cases h;show I9 0 1 .get=true;kernel_rfl
 |0,_,t+2,h=>simp[aZ]at h
 |1,_,0,h=>cases h;show I9 1 0 .inc=true;kernel_rfl
 |1,_,1,h=>cases h;show I9 1 1 .readC=true;kernel_rfl
 |1,_,2,h=>cases h;show I9 1 2 .add=true;kernel_rfl
 |1,_,t+3,h=>simp[aZ]at h
 |2,_,0,h=>cases h;show I9 2 0 .write=true;kernel_rfl
 |2,_,1,h=>cases h;show I9 2 1 .readR=true;kernel_rfl
 |2,_,t+2,h=>simp[aZ]at h
theorem aqn{u:AV}{ρ:Nat→Int}(h:noB u=true):adR (u.sub ρ)=false∨RD (u.sub ρ)≠0:=by
 unfold noB at h;split at h
 ·exact .inl rfl
 ·right;show Int.ofNat (_+1)≠0;intro e;cases e
 ·right;show Int.negSucc _≠0;intro e;cases e
 ·cases h
theorem aqo{c:cd}{o:Op}{s t:St}(hs:jL c.fm s)(h:K0.take c o s=some t):jL c.fm t:=by
 rcases aAd (I8 hs)with hn|hn
 ·have hv:=(Z1 (ρ:=yz s o.args o.res 0) hn).2;unfold Kn.take at h;split at h
  ·cases h
  ·split at h
   ·cases h
   ·split at h
    ·cases h
    ·cases h;exact hv
 ·obtain⟨u,h1,h2⟩:=LX (ρ:=yz s o.args z0 0) hn trivial;have h3:=aqn (ρ:=yz s o.args z0 0) h1;rw[←h2]at h3;unfold Kn.take at h;rw[if_pos (h3.elim (fun e=>.inr e) fun e=>.inl e)]at h;cases h
theorem atp:K0.Ok:=by
 have hd:=avq;have hc:=aqm;refine⟨fun i=>⟨fun t=>?_,fun t y hy=>?_,fun t y hy=>?_,fun t=>?_⟩,fun i hi=>?_,fun i hi t c h=>?_,fun i hi t c h=>?_,fun i hi=>?_,fun i hi y hy=>?_,fun i hi y hy=>?_,fun c o s t hs _ h=>aqo hs h⟩
 ·have:=hc i t;unfold okR at this;simp only[jq]at this;exact o5 this.1.1
 ·have:=hc i t;unfold okR at this;simp only[jq]at this;exact(Ih (sF.1 this.1.2 y hy)).1
 ·have:=hc i t;unfold okR at this;simp only[jq]at this;exact(Ih (sF.1 this.1.2 y hy)).2
 ·have:=hc i t;unfold okR at this;simp only[jq]at this;exact this.2
 ·have:=alw i hi;unfold Z3 at this;show(KC i)[36]?=_;cases hv:(KC i)[36]? with
  |none=>rw[hv]at this;cases this
  |some v=>rw[hv]at this;rw[AV.eq_of_beq _ _ this];rfl
 ·have:=Z4 hi h;unfold I9 at this;simp only[jq]at this;have h1:=this.1;show(LW i t)[0]?=_;split at h1
  ·rename_i n k e;rw[e];simp only[jq]at h1;rw[o5 h1.1,o5 h1.2]
  ·cases h1
 ·have:=Z4 hi h;unfold I9 at this;simp only[jq]at this;have h1:=this.2;show ∃d,(LW i t)[1]?=some d∧_;split at h1
  ·rename_i d e;refine⟨d,e,?_⟩;unfold ato at h1;split at h1
   ·exact .inl ⟨rfl,o5 h1⟩
   ·exact .inr ⟨_,_,by rw[o5 h1]⟩
   ·cases h1
  ·cases h1
 ·have:=hd i hi;simp only[jq]at this;exact o5 this.1
 ·have:=hd i hi;simp only[jq]at this;exact(Ih (sF.1 this.2 y hy)).1
 ·have:=hd i hi;simp only[jq]at this;exact(Ih (sF.1 this.2 y hy)).2
theorem avr:AV.beq K0.m K0.m=true:=show AV.beq vM vM=true from beq_refl _ AS
end Ln
