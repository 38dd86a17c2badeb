/- A part of the proof. No condition. -/
import Derived.Test.YtecbfpngkfdkoaaGreatP14
import Derived.Test.YtecbfpngkfdkoaaGreatP15
import Derived.Test.YtecbfpngkfdkoaaGreatP12
set_option linter.unusedSimpArgs false
set_option linter.unusedVariables false
set_option linter.unusedSectionVars false
namespace Ln
open Go.Sx Go Go.Proofs
inductive Sh:gQ→Nat→Prop
 |put0:Sh .put 0
 |put1:Sh .put 1
 |put2:Sh .put 2
 |put3:Sh .put 3
 |get0:Sh .get 0
 |get1:Sh .get 1
 |get2:Sh .get 2
 |get3:Sh .get 3
 |inc0:Sh .inc 0
 |readC0:Sh .uz 0
 |add0:Sh .add 0
 |write0:Sh .write 0
 |readR0:Sh .rj 0
theorem D6:∀ {c:gQ} {n:Nat},n≤wR c.tN→Sh c n
 |.put,0,_=>.put0
 |.put,1,_=>.put1
 |.put,2,_=>.put2
 |.put,3,_=>.put3
 |.put,n+4,h=>absurd h (by simp[wR,gQ.tN])
 |.get,0,_=>.get0
 |.get,1,_=>.get1
 |.get,2,_=>.get2
 |.get,3,_=>.get3
 |.get,n+4,h=>absurd h (by simp[wR,gQ.tN])
 |.inc,0,_=>.inc0
 |.inc,n+1,h=>absurd h (by simp[wR,gQ.tN])
 |.uz,0,_=>.readC0
 |.uz,n+1,h=>absurd h (by simp[wR,gQ.tN])
 |.add,0,_=>.add0
 |.add,n+1,h=>absurd h (by simp[wR,gQ.tN])
 |.write,0,_=>.write0
 |.write,n+1,h=>absurd h (by simp[wR,gQ.tN])
 |.rj,0,_=>.readR0
 |.rj,n+1,h=>absurd h (by simp[wR,gQ.tN])
def UR:gQ→Nat→aB
 |.put,0=>MB
 |.put,1=>MC
 |.put,2=>MD
 |.put,3=>ME
 |.get,0=>MF
 |.get,1=>MG
 |.get,2=>MH
 |.get,3=>MI
 |.inc,0=>MJ
 |.uz,0=>GQ
 |.add,0=>MK
 |.write,0=>GR
 |_,_=>GU
def LO:gQ→Nat→aB
 |.put,0=>GV
 |.put,1=>GW
 |.put,2=>GX
 |.put,3=>GY
 |.get,0=>GZ
 |.get,1=>G9
 |.get,2=>Ha
 |.get,3=>Hb
 |.inc,0=>Hc
 |.uz,0=>Cj
 |.add,0=>Hd
 |.write,0=>Ck
 |_,_=>Cl
def Mn:gQ→Nat→aB
 |.put,0=>JN
 |.put,1=>JO
 |.put,2=>JP
 |.put,3=>JQ
 |.get,0=>JR
 |.get,1=>JS
 |.get,2=>JT
 |.get,3=>JU
 |.inc,0=>JV
 |.uz,0=>Eb
 |.add,0=>JW
 |.write,0=>Ec
 |_,_=>Ed
def ayB:gQ→Nat→aB
 |.put,0=>ML
 |.put,1=>MM
 |.put,2=>MN
 |.put,3=>MO
 |.get,0=>MP
 |.get,1=>MQ
 |.get,2=>MR
 |.get,3=>MS
 |.inc,0=>MT
 |.uz,0=>He
 |.add,0=>MU
 |.write,0=>Hf
 |_,_=>Hg
def anm:gQ→Nat→aB
 |.put,0=>Hh
 |.put,1=>Hi
 |.put,2=>Hj
 |.put,3=>Hk
 |.get,0=>Hl
 |.get,1=>Hm
 |.get,2=>Hn
 |.get,3=>Ho
 |.inc,0=>Hp
 |.uz,0=>Cm
 |.add,0=>Hq
 |.write,0=>Cn
 |_,_=>Co
def asM:gQ→Nat→aB
 |.put,0=>JX
 |.put,1=>JY
 |.put,2=>JZ
 |.put,3=>J0
 |.get,0=>J1
 |.get,1=>J2
 |.get,2=>J3
 |.get,3=>J4
 |.inc,0=>J5
 |.uz,0=>Ee
 |.add,0=>J6
 |.write,0=>Ef
 |_,_=>Eg
abbrev av9(c:gQ)(n:Nat):List AV:=[vM,dO c.tN,.str c.name.1 c.name.2,stS 0 n,azK c.ar,kj]
abbrev IE(c:gQ)(n:Nat):List AV:=[vM,dO c.tN,.str c.name.1 c.name.2,stS 0 n,azK c.ar,aDV,kj]
theorem aDZ{c:gQ}{n:Nat}(h:Sh c n):aB.cz (CF aE) 149 (UR c n) ⟨ae 149 (fx 149) (av9 c n),[],.nil,aQ⟩ [] []=true:=by
 cases h
 ·exact SB
 ·exact SC
 ·exact SE
 ·exact SG
 ·exact SH
 ·exact SJ
 ·exact SK
 ·exact SL
 ·exact SM
 ·exact MV
 ·exact SN
 ·exact MW
 ·exact MX
theorem awa{c:gQ}{n:Nat}(h:Sh c n):aB.cz (CF aE) 150 (LO c n) ⟨ae 150 (fx 150) (IE c n),[],.nil,aQ⟩ [] []=true:=by
 cases h
 ·exact MY
 ·exact MZ
 ·exact M0
 ·exact M4
 ·exact M5
 ·exact M6
 ·exact M7
 ·exact M8
 ·exact M9
 ·exact IJ
 ·exact Na
 ·exact IK
 ·exact IL
theorem azP{c:gQ}{n:Nat}(h:Sh c n):aB.cz (CF aE) 151 (Mn c n) ⟨ae 151 (fx 151) (IE c n),[],.nil,aQ⟩ [] []=true:=by
 cases h
 ·exact Pw
 ·exact Px
 ·exact Py
 ·exact Pz
 ·exact PA
 ·exact PB
 ·exact PC
 ·exact PD
 ·exact PE
 ·exact KQ
 ·exact PF
 ·exact KR
 ·exact KT
theorem aD0{c:gQ}{n:Nat}(h:Sh c n):aB.cz (CF aE) 154 (ayB c n) ⟨ae 154 (fx 154) (av9 c n),[],.nil,aQ⟩ [] []=true:=by
 cases h
 ·exact SO
 ·exact SP
 ·exact SQ
 ·exact SS
 ·exact SU
 ·exact SV
 ·exact SW
 ·exact SX
 ·exact SY
 ·exact Nb
 ·exact SZ
 ·exact Nc
 ·exact Nd
theorem awc{c:gQ}{n:Nat}(h:Sh c n):aB.cz (CF aE) 155 (anm c n) ⟨ae 155 (fx 155) (IE c n),[],.nil,aQ⟩ [] []=true:=by
 cases h
 ·exact Nf
 ·exact Ng
 ·exact Nh
 ·exact Ni
 ·exact Nj
 ·exact Nk
 ·exact Nl
 ·exact Nm
 ·exact Nn
 ·exact IM
 ·exact No
 ·exact IN
 ·exact IP
theorem azQ{c:gQ}{n:Nat}(h:Sh c n):aB.cz (CF aE) 156 (asM c n) ⟨ae 156 (fx 156) (IE c n),[],.nil,aQ⟩ [] []=true:=by
 cases h
 ·exact PG
 ·exact PH
 ·exact PI
 ·exact PJ
 ·exact PK
 ·exact PL
 ·exact PM
 ·exact PN
 ·exact PO
 ·exact KU
 ·exact PQ
 ·exact KV
 ·exact KW
theorem LQ:AV.lits vM=true:=by kernel_rfl
theorem ann:vM.kf=true:=by kernel_rfl
theorem ayy{c:gQ}{n:Nat}(h:Sh c n):AV.Iy (av9 c n)=true:=by
 have hv:=ann
 cases h<;>simp only[AV.Iy,hv]<;>rfl
theorem LV{c:gQ}{n:Nat}(h:Sh c n):AV.Iy (IE c n)=true:=by
 have hv:=ann
 cases h<;>simp only[AV.Iy,hv]<;>rfl
theorem aHW{c:gQ}{n:Nat}(h:Sh c n):Ms aso (UR c n).dt []=true:=by
 cases h<;>kernel_rfl
theorem azH{c:gQ}{n:Nat}(h:Sh c n):Ms aso (LO c n).dt []=true:=by
 cases h<;>kernel_rfl
theorem aDR{c:gQ}{n:Nat}(h:Sh c n):Ms (asr 4) (Mn c n).dt []=true:=by
 cases h<;>kernel_rfl
def noB:AV→Bool
 |.tuple [.bool false,.int .i64 (.lit _)]=>true
 |.tuple [.bool _,.int .i64 (.lit (.ofNat (_+1)))]=>true
 |.tuple [.bool _,.int .i64 (.lit (.negSucc _))]=>true
 |_=>false
theorem aDS{c:gQ}{n:Nat}(h:Sh c n):Ms (asr (wR c.tN)) (Mn c n).dt []=true∨Ms noB (UR c n).dt []=true:=by
 cases h
 ·exact .inl (by kernel_rfl)
 ·exact .inl (by kernel_rfl)
 ·exact .inl (by kernel_rfl)
 ·exact .inr (by kernel_rfl)
 ·exact .inl (by kernel_rfl)
 ·exact .inl (by kernel_rfl)
 ·exact .inl (by kernel_rfl)
 ·exact .inl (by kernel_rfl)
 ·exact .inl (by kernel_rfl)
 ·exact .inl (by kernel_rfl)
 ·exact .inl (by kernel_rfl)
 ·exact .inl (by kernel_rfl)
 ·exact .inl (by kernel_rfl)
theorem awb{c:gQ}{n:Nat}(h:Sh c n):DT.same (ayB c n).dt (UR c n).dt []=true:=by
 cases h<;>kernel_rfl
theorem aqr{c:gQ}{n:Nat}(h:Sh c n):DT.same (anm c n).dt (LO c n).dt []=true:=by
 cases h<;>kernel_rfl
theorem asH{c:gQ}{n:Nat}(h:Sh c n):DT.same (asM c n).dt (Mn c n).dt []=true:=by
 cases h<;>kernel_rfl
end Ln
/-
 LN: what is known of calls, and that it is bs the walks want it. No condition.
-/
namespace Ln
open Go.Sx Go Go.Proofs
def z0:U:=⟨0,0⟩
def asf(c:gQ)(s:St)(bs:List U):AV:=(UR c s.kids.length).dt.val (vO s bs z0 0)
def Mm(c:gQ)(s:St)(bs:List U)(r:U):AV:=(LO c s.kids.length).dt.val (vO s bs r 0)
def US(c:gQ)(s:St)(bs:List U)(r:U):AV:=(Mn c s.kids.length).dt.val (vO s bs r 0)
def Fi(i:Nat):List AV:=(qU.drop (45*i)).take 45
def aHV(i:Nat):List AV:=match (Fi i)[36]? with
 |some (AV.sl l _ _ _)=>l
 |_=>[]
def Gy(i t:Nat):List AV:=bif Nat.blt i 3&&Nat.blt t (az i).length then((aHV i).drop (23*t)).take 23 else List.replicate 23 (I 0)
def K0:Kn where
 rows:=qU
 dec:=Fi
 cmd:=Gy
 Mo c s bs:=asg (asf c s bs)
 Mp c s bs:=UT (asf c s bs)
 pE c s bs r:=asg (Mm c s bs r)
 pF c s bs r:=UT (Mm c s bs r)
 rh c s bs r:=ash (US c s bs r)
 uy c s bs r:=UT (US c s bs r)
theorem am7{c:gQ}{s:St}(hs:dR c.tN s)(bs:List U):asf c s bs=.tuple [.bool (K0.Mo c s bs),I (K0.Mp c s bs)]:=UU (aHW (D6 hs))
theorem QX{c:gQ}{s:St}(hs:dR c.tN s)(bs:List U)(r:U):Mm c s bs r=.tuple [.bool (K0.pE c s bs r),I (K0.pF c s bs r)]:=UU (azH (D6 hs))
theorem UW{c:gQ}{s:St}(hs:dR c.tN s)(bs:List U)(r:U):US c s bs r=.tuple [.agg (eS (K0.rh c s bs r)),I (K0.uy c s bs r)]:=(UX (aDR (D6 hs))).1
def aj6:AV→Bool
 |.int _ _=>true
 |.str _ _=>true
 |.bool _=>true
 |.nils=>true
 |.sl _ _ _ .any=>true
 |_=>false
theorem LP{y:AV}(h:aj6 y=true):Sg y∧y.aN=true:=by
 cases y<;>simp only[aj6] at h<;>first|(cases h;done)|skip
 ·exact⟨asi _,rfl⟩
 ·exact⟨dS _ _,rfl⟩
 ·exact⟨qK _ _,rfl⟩
 ·exact⟨xH,rfl⟩
 ·rename_i l n z f
  cases f with
  |any=>exact⟨Si _ _ _,rfl⟩
  |tok t=>cases h
def okR(l:List AV):Bool:=Nat.beq l.length 23&&l.all aj6&&AV.gf l
theorem avW(i t:Nat):okR (Gy i t)=true:=by
 have hr:okR (List.replicate 23 (I 0))=true:=by decide
 match i,t with
 |0,0=>show okR (Gy 0 0)=true;kernel_rfl
 |0,1=>show okR (Gy 0 1)=true;kernel_rfl
 |0,t+2=>exact hr
 |1,0=>show okR (Gy 1 0)=true;kernel_rfl
 |1,1=>show okR (Gy 1 1)=true;kernel_rfl
 |1,2=>show okR (Gy 1 2)=true;kernel_rfl
 |1,t+3=>exact hr
 |2,0=>show okR (Gy 2 0)=true;kernel_rfl
 |2,1=>show okR (Gy 2 1)=true;kernel_rfl
 |2,t+2=>exact hr
 |i+3,t=>exact hr
theorem azI(i:Nat)(hi:i<3):(Nat.beq (Fi i).length 45&&(Fi i).all aj6)=true:=by
 match i,hi with
 |0,_=>show(Nat.beq (Fi 0).length 45&&(Fi 0).all aj6)=true;kernel_rfl
 |1,_=>show(Nat.beq (Fi 1).length 45&&(Fi 1).all aj6)=true;kernel_rfl
 |2,_=>show(Nat.beq (Fi 2).length 45&&(Fi 2).all aj6)=true;kernel_rfl
def UY(i:Nat):Bool:=match (Fi i)[36]? with
 |some v=>AV.beq v (.sl (aj (Gy i) (List.range (az i).length)) (az i).length 23 .any)
 |none=>false
theorem asj(i:Nat)(hi:i<3):UY i=true:=by
 match i,hi with
 |0,_=>show UY 0=true;kernel_rfl
 |1,_=>show UY 1=true;kernel_rfl
 |2,_=>show UY 2=true;kernel_rfl
def ayv(c:gQ):AV→Bool
 |.nils=>Nat.beq c.ar 0
 |.sl _ n _ .any=>Nat.beq n c.ar
 |_=>false
def D7(i t:Nat)(c:gQ):Bool:=(match (Gy i t)[0]? with
 |some (AV.str n k)=>Nat.beq n c.name.1&&Nat.beq k c.name.2
 |_=>false)&&(match (Gy i t)[1]? with
 |some d=>ayv c d
 |none=>false)
theorem UZ{i:Nat}(hi:i<3){t:Nat}{c:gQ}(h:(az i)[t]?=some c):D7 i t c=true:=by
 match i,hi,t,h with
 |0,_,0,h=>cases h;show D7 0 0 .put=true;kernel_rfl
 |0,_,1,h=>cases h;show D7 0 1 .get=true;kernel_rfl
 |0,_,t+2,h=>simp[az] at h
 |1,_,0,h=>cases h;show D7 1 0 .inc=true;kernel_rfl
 |1,_,1,h=>cases h;show D7 1 1 .uz=true;kernel_rfl
 |1,_,2,h=>cases h;show D7 1 2 .add=true;kernel_rfl
 |1,_,t+3,h=>simp[az] at h
 |2,_,0,h=>cases h;show D7 2 0 .write=true;kernel_rfl
 |2,_,1,h=>cases h;show D7 2 1 .rj=true;kernel_rfl
 |2,_,t+2,h=>simp[az] at h
theorem avX{u:AV}{ρ:Nat→Int}(h:noB u=true):asg (u.sub ρ)=false∨UT (u.sub ρ)≠0:=by
 unfold noB at h
 split at h
 ·exact .inl rfl
 ·right;show Int.ofNat (_+1)≠0;intro e;cases e
 ·right;show Int.negSucc _≠0;intro e;cases e
 ·cases h
theorem avY{c:gQ}{o:Op}{s t:St}(hs:dR c.tN s)(h:K0.take c o s=some t):dR c.tN t:=by
 rcases aDS (D6 hs) with hn|hn
 ·have hv:=(UX (ρ:=vO s o.args o.res 0) hn).2
  unfold Kn.take at h
  split at h
  ·cases h
  ·split at h
   ·cases h
   ·split at h
    ·cases h
    ·cases h
     exact hv
 ·obtain⟨u,h1,h2⟩:=Gz (ρ:=vO s o.args z0 0) hn trivial
  have h3:=avX (ρ:=vO s o.args z0 0) h1
  rw[← h2] at h3
  unfold Kn.take at h
  rw[if_pos (h3.elim (fun e=>.inr e) fun e=>.inl e)] at h
  cases h
theorem aDT:K0.Ok:=by
 have hd:=azI
 have hc:=avW
 refine⟨fun i=>⟨fun t=>?_,fun t y hy=>?_,fun t y hy=>?_,fun t=>?_⟩,fun i hi=>?_,fun i hi t c h=>?_,fun i hi t c h=>?_,fun i hi=>?_,fun i hi y hy=>?_,fun i hi y hy=>?_,fun c o s t hs _ h=>avY hs h⟩
 ·have:=hc i t
  unfold okR at this
  simp only[jj] at this
  exact mU this.1.1
 ·have:=hc i t
  unfold okR at this
  simp only[jj] at this
  exact(LP (vV.1 this.1.2 y hy)).1
 ·have:=hc i t
  unfold okR at this
  simp only[jj] at this
  exact(LP (vV.1 this.1.2 y hy)).2
 ·have:=hc i t
  unfold okR at this
  simp only[jj] at this
  exact this.2
 ·have:=asj i hi
  unfold UY at this
  show(Fi i)[36]?=_
  cases hv:(Fi i)[36]? with
  |none=>rw[hv] at this;cases this
  |some v=>rw[hv] at this;rw[AV.eq_of_beq _ _ this];rfl
 ·have:=UZ hi h
  unfold D7 at this
  simp only[jj] at this
  have h1:=this.1
  show(Gy i t)[0]?=_
  split at h1
  ·rename_i n k e
   rw[e]
   simp only[jj] at h1
   rw[mU h1.1,mU h1.2]
  ·cases h1
 ·have:=UZ hi h
  unfold D7 at this
  simp only[jj] at this
  have h1:=this.2
  show ∃ d,(Gy i t)[1]?=some d∧_
  split at h1
  ·rename_i d e
   refine⟨d,e,?_⟩
   unfold ayv at h1
   split at h1
   ·exact .inl ⟨rfl,mU h1⟩
   ·exact .inr ⟨_,_,by rw[mU h1]⟩
   ·cases h1
  ·cases h1
 ·have:=hd i hi
  simp only[jj] at this
  exact mU this.1
 ·have:=hd i hi
  simp only[jj] at this
  exact(LP (vV.1 this.2 y hy)).1
 ·have:=hd i hi
  simp only[jj] at this
  exact(LP (vV.1 this.2 y hy)).2
theorem azJ:AV.beq K0.m K0.m=true:=show AV.beq vM vM=true from beq_refl _ LQ
end Ln
