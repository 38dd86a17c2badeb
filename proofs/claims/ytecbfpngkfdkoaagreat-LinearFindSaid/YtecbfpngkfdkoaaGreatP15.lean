/- A part of the proof. No condition. -/
import Derived.Test.YtecbfpngkfdkoaaGreatP13
import Derived.Test.YtecbfpngkfdkoaaGreatP14
import Derived.Test.YtecbfpngkfdkoaaGreatP11
namespace Ln
open Go.Sx Go Go.Proofs
inductive Sh:jy→Nat→Prop
 |put0:Sh .put 0
 |put1:Sh .put 1
 |put2:Sh .put 2
 |put3:Sh .put 3
 |get0:Sh .get 0
 |get1:Sh .get 1
 |get2:Sh .get 2
 |get3:Sh .get 3
 |inc0:Sh .inc 0
 |readC0:Sh .za 0
 |add0:Sh .add 0
 |write0:Sh .write 0
 |readR0:Sh .vZ 0
theorem Kk:∀{c:jy} {n:Nat},n≤BP c.yr→Sh c n
 |.put,0,_=>.put0
 |.put,1,_=>.put1
 |.put,2,_=>.put2
 |.put,3,_=>.put3
 |.put,n+4,h=>absurd h (by simp[BP,jy.yr])
 |.get,0,_=>.get0
 |.get,1,_=>.get1
 |.get,2,_=>.get2
 |.get,3,_=>.get3
 |.get,n+4,h=>absurd h (by simp[BP,jy.yr])
 |.inc,0,_=>.inc0
 |.inc,n+1,h=>absurd h (by simp[BP,jy.yr])
 |.za,0,_=>.readC0
 |.za,n+1,h=>absurd h (by simp[BP,jy.yr])
 |.add,0,_=>.add0
 |.add,n+1,h=>absurd h (by simp[BP,jy.yr])
 |.write,0,_=>.write0
 |.write,n+1,h=>absurd h (by simp[BP,jy.yr])
 |.vZ,0,_=>.readR0
 |.vZ,n+1,h=>absurd h (by simp[BP,jy.yr])
def aa8:jy→Nat→aO
 |.put,0=>TL
 |.put,1=>TN
 |.put,2=>TO
 |.put,3=>TP
 |.get,0=>TQ
 |.get,1=>TR
 |.get,2=>TS
 |.get,3=>TU
 |.inc,0=>TV
 |.za,0=>Nb
 |.add,0=>TW
 |.write,0=>Nc
 |_,_=>Nd
def S0:jy→Nat→aO
 |.put,0=>Nf
 |.put,1=>Ng
 |.put,2=>Nh
 |.put,3=>Ni
 |.get,0=>Nj
 |.get,1=>Nk
 |.get,2=>Nl
 |.get,3=>Nn
 |.inc,0=>No
 |.za,0=>Ij
 |.add,0=>Np
 |.write,0=>Ik
 |_,_=>Il
def TA:jy→Nat→aO
 |.put,0=>Ql
 |.put,1=>Qm
 |.put,2=>Qn
 |.put,3=>Qo
 |.get,0=>Qp
 |.get,1=>Qq
 |.get,2=>Qr
 |.get,3=>Qs
 |.inc,0=>Qt
 |.za,0=>Ks
 |.add,0=>Qu
 |.write,0=>Kt
 |_,_=>Ku
def auh:jy→Nat→aO
 |.put,0=>TX
 |.put,1=>TY
 |.put,2=>TZ
 |.put,3=>T0
 |.get,0=>T1
 |.get,1=>T3
 |.get,2=>T4
 |.get,3=>T5
 |.inc,0=>T6
 |.za,0=>Nq
 |.add,0=>T7
 |.write,0=>Nr
 |_,_=>Ns
def ah9:jy→Nat→aO
 |.put,0=>Nt
 |.put,1=>Nu
 |.put,2=>Nv
 |.put,3=>Nw
 |.get,0=>Nx
 |.get,1=>Ny
 |.get,2=>Nz
 |.get,3=>NA
 |.inc,0=>NB
 |.za,0=>Im
 |.add,0=>NC
 |.write,0=>Io
 |_,_=>Ip
def amI:jy→Nat→aO
 |.put,0=>Qv
 |.put,1=>Qw
 |.put,2=>Qx
 |.put,3=>Qy
 |.get,0=>Qz
 |.get,1=>QA
 |.get,2=>QB
 |.get,3=>QD
 |.inc,0=>QE
 |.za,0=>Kv
 |.add,0=>QF
 |.write,0=>Kw
 |_,_=>Kx
abbrev arD(c:jy)(n:Nat):List AV:=[vM,ft c.yr,.str c.name.1 c.name.2,stS 0 n,avP c.ar,iU]
abbrev O5(c:jy)(n:Nat):List AV:=[vM,ft c.yr,.str c.name.1 c.name.2,stS 0 n,avP c.ar,aAn,iU]
theorem aAq{c:jy}{n:Nat}(h:Sh c n):aO.df (CF aR) 149 (aa8 c n) ⟨ai 149 (fx 149) (arD c n),[],.nil,bw⟩ [] []=true:=by
 cases h
 ·exact Zd
 ·exact Ze
 ·exact Zf
 ·exact Zg
 ·exact Zh
 ·exact Zi
 ·exact Zj
 ·exact Zk
 ·exact Zl
 ·exact T8
 ·exact Zm
 ·exact T9
 ·exact Ua
theorem arE{c:jy}{n:Nat}(h:Sh c n):aO.df (CF aR) 150 (S0 c n) ⟨ai 150 (fx 150) (O5 c n),[],.nil,bw⟩ [] []=true:=by
 cases h
 ·exact Ub
 ·exact Uc
 ·exact Ud
 ·exact Ue
 ·exact Uf
 ·exact Ug
 ·exact Uh
 ·exact Ui
 ·exact Uj
 ·exact Pc
 ·exact Uk
 ·exact Pd
 ·exact Pe
theorem avW{c:jy}{n:Nat}(h:Sh c n):aO.df (CF aR) 151 (TA c n) ⟨ai 151 (fx 151) (O5 c n),[],.nil,bw⟩ [] []=true:=by
 cases h
 ·exact Wv
 ·exact Ww
 ·exact Wx
 ·exact Wy
 ·exact Wz
 ·exact WA
 ·exact WB
 ·exact WC
 ·exact WD
 ·exact RM
 ·exact WE
 ·exact RN
 ·exact RO
theorem aAr{c:jy}{n:Nat}(h:Sh c n):aO.df (CF aR) 154 (auh c n) ⟨ai 154 (fx 154) (arD c n),[],.nil,bw⟩ [] []=true:=by
 cases h
 ·exact Zn
 ·exact Zo
 ·exact Zp
 ·exact Zq
 ·exact Zr
 ·exact Zs
 ·exact Zt
 ·exact Zu
 ·exact Zv
 ·exact Ul
 ·exact Zw
 ·exact Um
 ·exact Un
theorem arG{c:jy}{n:Nat}(h:Sh c n):aO.df (CF aR) 155 (ah9 c n) ⟨ai 155 (fx 155) (O5 c n),[],.nil,bw⟩ [] []=true:=by
 cases h
 ·exact Uo
 ·exact Up
 ·exact Uq
 ·exact Ur
 ·exact Us
 ·exact Ut
 ·exact Uu
 ·exact Uv
 ·exact Uw
 ·exact Pf
 ·exact Ux
 ·exact Pg
 ·exact Ph
theorem avX{c:jy}{n:Nat}(h:Sh c n):aO.df (CF aR) 156 (amI c n) ⟨ai 156 (fx 156) (O5 c n),[],.nil,bw⟩ [] []=true:=by
 cases h
 ·exact WG
 ·exact WH
 ·exact WJ
 ·exact WK
 ·exact WL
 ·exact WM
 ·exact WN
 ·exact WO
 ·exact WQ
 ·exact RP
 ·exact WR
 ·exact RT
 ·exact RU
theorem S6:AV.lits vM=true:=by kernel_rfl
theorem aia:vM.kf=true:=by kernel_rfl
theorem at6{c:jy}{n:Nat}(h:Sh c n):AV.JO (arD c n)=true:=by have hv:=aia;cases h<;>simp only[AV.JO,hv]<;>rfl
theorem Tb{c:jy}{n:Nat}(h:Sh c n):AV.JO (O5 c n)=true:=by have hv:=aia;cases h<;>simp only[AV.JO,hv]<;>rfl
theorem aFf{c:jy}{n:Nat}(h:Sh c n):TD ami (aa8 c n).dt []=true:=by cases h<;>kernel_rfl
theorem avM{c:jy}{n:Nat}(h:Sh c n):TD ami (S0 c n).dt []=true:=by cases h<;>kernel_rfl
theorem aAk{c:jy}{n:Nat}(h:Sh c n):TD (aml 4) (TA c n).dt []=true:=by cases h<;>kernel_rfl
def noB:AV→Bool
 |.tuple [.bool false,.int .i64 (.lit _)]=>true
 |.tuple [.bool _,.int .i64 (.lit (.ofNat (_+1)))]=>true
 |.tuple [.bool _,.int .i64 (.lit (.negSucc _))]=>true
 |_=>false
theorem aAl{c:jy}{n:Nat}(h:Sh c n):TD (aml (BP c.yr)) (TA c n).dt []=true∨TD noB (aa8 c n).dt []=true:=by
 cases h
 ·exact .inl (by kernel_rfl)
 ·exact .inl (by kernel_rfl)
 ·exact .inl (by kernel_rfl)
 ·exact .inr (by kernel_rfl)
 ·exact .inl (by kernel_rfl)
 ·exact .inl (by kernel_rfl)
 ·exact .inl (by kernel_rfl)
 ·exact .inl (by kernel_rfl)
 ·exact .inl (by kernel_rfl)
 ·exact .inl (by kernel_rfl)
 ·exact .inl (by kernel_rfl)
 ·exact .inl (by kernel_rfl)
 ·exact .inl (by kernel_rfl)
theorem arF{c:jy}{n:Nat}(h:Sh c n):DT.same (auh c n).dt (aa8 c n).dt []=true:=by cases h<;>kernel_rfl
theorem ajQ{c:jy}{n:Nat}(h:Sh c n):DT.same (ah9 c n).dt (S0 c n).dt []=true:=by cases h<;>kernel_rfl
theorem amA{c:jy}{n:Nat}(h:Sh c n):DT.same (amI c n).dt (TA c n).dt []=true:=by cases h<;>kernel_rfl
def z0:U:=⟨0,0⟩
def amb(c:jy)(s:St)(bs:List U):AV:=(aa8 c s.kids.length).dt.val (Ar s bs z0 0)
def Tz(c:jy)(s:St)(bs:List U)(r:U):AV:=(S0 c s.kids.length).dt.val (Ar s bs r 0)
def aa9(c:jy)(s:St)(bs:List U)(r:U):AV:=(TA c s.kids.length).dt.val (Ar s bs r 0)
def LM(i:Nat):List AV:=(sb.drop (45*i)).take 45
def aFe(i:Nat):List AV:=match (LM i)[36]? with
 |some (AV.sl l _ _ _)=>l
 |_=>[]
def MS(i t:Nat):List AV:=bif Nat.blt i 3&&Nat.blt t (aK i).length then((aFe i).drop (23*t)).take 23 else List.replicate 23 (I 0)
def K0:Kn where
 rows:=sb
 dec:=LM
 cmd:=MS
 TB c s bs:=amc (amb c s bs)
 TC c s bs:=aba (amb c s bs)
 ui c s bs r:=amc (Tz c s bs r)
 uj c s bs r:=aba (Tz c s bs r)
 vY c s bs r:=amd (aa9 c s bs r)
 y9 c s bs r:=aba (aa9 c s bs r)
theorem ahW{c:jy}{s:St}(hs:iz c.yr s)(bs:List U):amb c s bs=.tuple [.bool (K0.TB c s bs),I (K0.TC c s bs)]:=abb (aFf (Kk hs))
theorem X0{c:jy}{s:St}(hs:iz c.yr s)(bs:List U)(r:U):Tz c s bs r=.tuple [.bool (K0.ui c s bs r),I (K0.uj c s bs r)]:=abb (avM (Kk hs))
theorem abc{c:jy}{s:St}(hs:iz c.yr s)(bs:List U)(r:U):aa9 c s bs r=.tuple [.agg (eS (K0.vY c s bs r)),I (K0.y9 c s bs r)]:=(abd (aAk (Kk hs))).1
def Y1:AV→Bool
 |.int _ _=>true
 |.str _ _=>true
 |.bool _=>true
 |.nils=>true
 |.sl _ _ _ .any=>true
 |_=>false
theorem Jz{y:AV}(h:Y1 y=true):OC y∧y.aT=true:=by
 cases y<;>simp only[Y1]at h<;>first|(cases h;done)|skip
 ·exact⟨ame _,rfl⟩
 ·exact⟨dA _ _,rfl⟩
 ·exact⟨qw _ _,rfl⟩
 ·exact⟨CO,rfl⟩
 ·rename_i l n z f;cases f with
  |any=>exact⟨Y2 _ _ _,rfl⟩
  |tok t=>cases h
def okR(l:List AV):Bool:=Nat.beq l.length 23&&l.all Y1&&AV.iA l
theorem arp(i t:Nat):okR (MS i t)=true:=by
 have hr:okR (List.replicate 23 (I 0))=true:=by decide
 match i,t with
 |0,0=>show okR (MS 0 0)=true;kernel_rfl
 |0,1=>show okR (MS 0 1)=true;kernel_rfl
 |0,t+2=>exact hr
 |1,0=>show okR (MS 1 0)=true;kernel_rfl
 |1,1=>show okR (MS 1 1)=true;kernel_rfl
 |1,2=>show okR (MS 1 2)=true;kernel_rfl
 |1,t+3=>exact hr
 |2,0=>show okR (MS 2 0)=true;kernel_rfl
 |2,1=>show okR (MS 2 1)=true;kernel_rfl
 |2,t+2=>exact hr
 |i+3,t=>exact hr
theorem avN(i:Nat)(hi:i<3):(Nat.beq (LM i).length 45&&(LM i).all Y1)=true:=by
 match i,hi with
 |0,_=>show(Nat.beq (LM 0).length 45&&(LM 0).all Y1)=true;kernel_rfl
 |1,_=>show(Nat.beq (LM 1).length 45&&(LM 1).all Y1)=true;kernel_rfl
 |2,_=>show(Nat.beq (LM 2).length 45&&(LM 2).all Y1)=true;kernel_rfl
def abe(i:Nat):Bool:=match (LM i)[36]? with
 |some v=>AV.beq v (.sl (ag (MS i) (List.range (aK i).length)) (aK i).length 23 .any)
 |none=>false
theorem amf(i:Nat)(hi:i<3):abe i=true:=by
 match i,hi with
 |0,_=>show abe 0=true;kernel_rfl
 |1,_=>show abe 1=true;kernel_rfl
 |2,_=>show abe 2=true;kernel_rfl
def atY(c:jy):AV→Bool
 |.nils=>Nat.beq c.ar 0
 |.sl _ n _ .any=>Nat.beq n c.ar
 |_=>false
def Kl(i t:Nat)(c:jy):Bool:=(match (MS i t)[0]? with
 |some (AV.str n k)=>Nat.beq n c.name.1&&Nat.beq k c.name.2
 |_=>false)&&(match (MS i t)[1]? with
 |some d=>atY c d
 |none=>false)
theorem abf{i:Nat}(hi:i<3){t:Nat}{c:jy}(h:(aK i)[t]?=some c):Kl i t c=true:=by
 match i,hi,t,h with
 |0,_,0,h=>cases h;show Kl 0 0 .put=true;kernel_rfl
 |0,_,1,h=>cases h;show Kl 0 1 .get=true;kernel_rfl
 |0,_,t+2,h=>simp[aK]at h
 |1,_,0,h=>cases h;show Kl 1 0 .inc=true;kernel_rfl
 |1,_,1,h=>cases h;show Kl 1 1 .za=true;kernel_rfl
 |1,_,2,h=>cases h;show Kl 1 2 .add=true;kernel_rfl
 |1,_,t+3,h=>simp[aK]at h
 |2,_,0,h=>cases h;show Kl 2 0 .write=true;kernel_rfl
 |2,_,1,h=>cases h;show Kl 2 1 .vZ=true;kernel_rfl
 |2,_,t+2,h=>simp[aK]at h
theorem arq{u:AV}{ρ:Nat→Int}(h:noB u=true):amc (u.sub ρ)=false∨aba (u.sub ρ)≠0:=by
 unfold noB at h;split at h
 ·exact .inl rfl
 ·right;show Int.ofNat (_+1)≠0;intro e;cases e
 ·right;show Int.negSucc _≠0;intro e;cases e
 ·cases h
theorem ars{c:jy}{o:Op}{s t:St}(hs:iz c.yr s)(h:K0.take c o s=some t):iz c.yr t:=by
 rcases aAl (Kk hs)with hn|hn
 ·have hv:=(abd (ρ:=Ar s o.args o.res 0) hn).2;unfold Kn.take at h;split at h
  ·cases h
  ·split at h
   ·cases h
   ·split at h
    ·cases h
    ·cases h;exact hv
 ·obtain⟨u,h1,h2⟩:=MT (ρ:=Ar s o.args z0 0) hn trivial;have h3:=arq (ρ:=Ar s o.args z0 0) h1;rw[←h2]at h3;unfold Kn.take at h;rw[if_pos (h3.elim (fun e=>.inr e) fun e=>.inl e)]at h;cases h
theorem atZ:K0.Ok:=by
 have hd:=avN;have hc:=arp;refine⟨fun i=>⟨fun t=>?_,fun t y hy=>?_,fun t y hy=>?_,fun t=>?_⟩,fun i hi=>?_,fun i hi t c h=>?_,fun i hi t c h=>?_,fun i hi=>?_,fun i hi y hy=>?_,fun i hi y hy=>?_,fun c o s t hs _ h=>ars hs h⟩
 ·have:=hc i t;unfold okR at this;simp only[mP]at this;exact rZ this.1.1
 ·have:=hc i t;unfold okR at this;simp only[mP]at this;exact(Jz (wG.1 this.1.2 y hy)).1
 ·have:=hc i t;unfold okR at this;simp only[mP]at this;exact(Jz (wG.1 this.1.2 y hy)).2
 ·have:=hc i t;unfold okR at this;simp only[mP]at this;exact this.2
 ·have:=amf i hi;unfold abe at this;show(LM i)[36]?=_;cases hv:(LM i)[36]? with
  |none=>rw[hv]at this;cases this
  |some v=>rw[hv]at this;rw[AV.eq_of_beq _ _ this];rfl
 ·have:=abf hi h;unfold Kl at this;simp only[mP]at this;have h1:=this.1;show(MS i t)[0]?=_;split at h1
  ·rename_i n k e;rw[e];simp only[mP]at h1;rw[rZ h1.1,rZ h1.2]
  ·cases h1
 ·have:=abf hi h;unfold Kl at this;simp only[mP]at this;have h1:=this.2;show ∃d,(MS i t)[1]?=some d∧_;split at h1
  ·rename_i d e;refine⟨d,e,?_⟩;unfold atY at h1;split at h1
   ·exact .inl ⟨rfl,rZ h1⟩
   ·exact .inr ⟨_,_,by rw[rZ h1]⟩
   ·cases h1
  ·cases h1
 ·have:=hd i hi;simp only[mP]at this;exact rZ this.1
 ·have:=hd i hi;simp only[mP]at this;exact(Jz (wG.1 this.2 y hy)).1
 ·have:=hd i hi;simp only[mP]at this;exact(Jz (wG.1 this.2 y hy)).2
theorem avO:AV.beq K0.m K0.m=true:=show AV.beq vM vM=true from beq_refl _ S6
end Ln
