/- A part of the proof. No condition. -/
import Derived.Test.YtecbfpngkfdkoaaGreatP13
import Derived.Test.YtecbfpngkfdkoaaGreatP14
import Derived.Test.YtecbfpngkfdkoaaGreatP11
namespace Ln
open Go.Sx Go Go.Proofs
inductive Sh:nB→Nat→Prop
 |put0:Sh .put 0
 |put1:Sh .put 1
 |put2:Sh .put 2
 |put3:Sh .put 3
 |get0:Sh .get 0
 |get1:Sh .get 1
 |get2:Sh .get 2
 |get3:Sh .get 3
 |inc0:Sh .inc 0
 |readC0:Sh .EG 0
 |add0:Sh .add 0
 |write0:Sh .write 0
 |readR0:Sh .sY 0
theorem SM:∀{c:nB} {n:Nat},n≤zA c.x8→Sh c n
 |.put,0,_=>.put0
 |.put,1,_=>.put1
 |.put,2,_=>.put2
 |.put,3,_=>.put3
 |.put,n+4,h=>absurd h (by simp[zA,nB.x8])
 |.get,0,_=>.get0
 |.get,1,_=>.get1
 |.get,2,_=>.get2
 |.get,3,_=>.get3
 |.get,n+4,h=>absurd h (by simp[zA,nB.x8])
 |.inc,0,_=>.inc0
 |.inc,n+1,h=>absurd h (by simp[zA,nB.x8])
 |.EG,0,_=>.readC0
 |.EG,n+1,h=>absurd h (by simp[zA,nB.x8])
 |.add,0,_=>.add0
 |.add,n+1,h=>absurd h (by simp[zA,nB.x8])
 |.write,0,_=>.write0
 |.write,n+1,h=>absurd h (by simp[zA,nB.x8])
 |.sY,0,_=>.readR0
 |.sY,n+1,h=>absurd h (by simp[zA,nB.x8])
def agW:nB→Nat→aV
 |.put,0=>OX
 |.put,1=>OY
 |.put,2=>OZ
 |.put,3=>O0
 |.get,0=>O2
 |.get,1=>O3
 |.get,2=>O4
 |.get,3=>O5
 |.inc,0=>O6
 |.EG,0=>JO
 |.add,0=>O7
 |.write,0=>JP
 |_,_=>JQ
def Ua:nB→Nat→aV
 |.put,0=>JR
 |.put,1=>JS
 |.put,2=>JT
 |.put,3=>JU
 |.get,0=>JV
 |.get,1=>JW
 |.get,2=>JX
 |.get,3=>JY
 |.inc,0=>JZ
 |.EG,0=>EP
 |.add,0=>J1
 |.write,0=>ER
 |_,_=>ES
def Zt:nB→Nat→aV
 |.put,0=>Mq
 |.put,1=>Mr
 |.put,2=>Ms
 |.put,3=>Mt
 |.get,0=>Mv
 |.get,1=>Mw
 |.get,2=>Mx
 |.get,3=>My
 |.inc,0=>Mz
 |.EG,0=>Hs
 |.add,0=>MA
 |.write,0=>Ht
 |_,_=>Hu
abbrev ap1(c:nB)(n:Nat):List AV:=[vM,fE c.x8,.str c.name.1 c.name.2,stS 0 n,apU c.ar,Ui]
abbrev Uj(c:nB)(n:Nat):List AV:=[vM,fE c.x8,.str c.name.1 c.name.2,stS 0 n,apU c.ar,avb,Ui]
theorem avg{c:nB}{n:Nat}(h:Sh c n):aV.dY (CF aY) 149 (agW c n) ⟨an 149 (fx 149) (ap1 c n),[],.nil,bD⟩ [] []=true:=by
 cases h
 ·exact Ul
 ·exact Um
 ·exact Un
 ·exact Uo
 ·exact Up
 ·exact Uq
 ·exact Ur
 ·exact Us
 ·exact Ut
 ·exact O8
 ·exact Uu
 ·exact O9
 ·exact Pa
theorem alH{c:nB}{n:Nat}(h:Sh c n):aV.dY (CF aY) 150 (Ua c n) ⟨an 150 (fx 150) (Uj c n),[],.nil,bD⟩ [] []=true:=by
 cases h
 ·exact Pb
 ·exact Pc
 ·exact Pd
 ·exact Pe
 ·exact Pf
 ·exact Pg
 ·exact Ph
 ·exact Pj
 ·exact Pk
 ·exact Lq
 ·exact Pl
 ·exact Lr
 ·exact Ls
theorem ap2{c:nB}{n:Nat}(h:Sh c n):aV.dY (CF aY) 151 (Zt c n) ⟨an 151 (fx 151) (Uj c n),[],.nil,bD⟩ [] []=true:=by
 cases h
 ·exact Ro
 ·exact Rp
 ·exact Rq
 ·exact Rr
 ·exact Rs
 ·exact Rt
 ·exact Ru
 ·exact Rv
 ·exact Rx
 ·exact NC
 ·exact Ry
 ·exact ND
 ·exact NF
theorem BE:AV.lits vM=true:=by kernel_rfl
theorem Jv:vM.kf=true:=by kernel_rfl
theorem avf{c:nB}{n:Nat}(h:Sh c n):AV.Ec (ap1 c n)=true:=by have hv:=Jv;cases h<;>simp only[AV.Ec,hv]<;>rfl
theorem acK{c:nB}{n:Nat}(h:Sh c n):AV.Ec (Uj c n)=true:=by have hv:=Jv;cases h<;>simp only[AV.Ec,hv]<;>rfl
theorem azK{c:nB}{n:Nat}(h:Sh c n):Uc ag4 (agW c n).dt []=true:=by cases h<;>kernel_rfl
theorem apS{c:nB}{n:Nat}(h:Sh c n):Uc ag4 (Ua c n).dt []=true:=by cases h<;>kernel_rfl
theorem au9{c:nB}{n:Nat}(h:Sh c n):Uc (aly 4) (Zt c n).dt []=true:=by cases h<;>kernel_rfl
def z0:U:=⟨0,0⟩
def alq(c:nB)(s:St)(bs:List U):AV:=(agW c s.kids.length).dt.val (oY s bs z0 0)
def T9(c:nB)(s:St)(bs:List U)(r:U):AV:=(Ua c s.kids.length).dt.val (oY s bs r 0)
def acz(c:nB)(s:St)(bs:List U)(r:U):AV:=(Zt c s.kids.length).dt.val (oY s bs r 0)
def GI(i:Nat):List AV:=(ph.drop (45*i)).take 45
def azJ(i:Nat):List AV:=match (GI i)[36]? with
 |some (AV.sl l _ _ _)=>l
 |_=>[]
def IF(i t:Nat):List AV:=bif Nat.blt i 3&&Nat.blt t (aI i).length then((azJ i).drop (23*t)).take 23 else List.replicate 23 (I 0)
def K0:Kn where
 lf:=200
 lb:=50
 TZ:=0
 rows:=ph
 dec:=GI
 cmd:=IF
 OL c s bs:=alr (alq c s bs)
 OM c s bs:=Zu (alq c s bs)
 EE c s bs r:=alr (T9 c s bs r)
 EF c s bs r:=Zu (T9 c s bs r)
 qB c s bs r:=agX (acz c s bs r)
 we c s bs r:=Zu (acz c s bs r)
theorem als{c:nB}{s:St}(hs:gV c.x8 s)(bs:List U):alq c s bs=.tuple [.bool (K0.OL c s bs),I (K0.OM c s bs)]:=V3 (azK (SM hs))
theorem aer{c:nB}{s:St}(hs:gV c.x8 s)(bs:List U)(r:U):T9 c s bs r=.tuple [.bool (K0.EE c s bs r),I (K0.EF c s bs r)]:=V3 (apS (SM hs))
theorem agY{c:nB}{s:St}(hs:gV c.x8 s)(bs:List U)(r:U):acz c s bs r=.tuple [.agg (eS (K0.qB c s bs r)),I (K0.we c s bs r)]:=(agZ (au9 (SM hs))).1
def Zv:AV→Bool
 |.int _ _=>true
 |.str _ _=>true
 |.bool _=>true
 |.nils=>true
 |.sl _ _ _ .any=>true
 |_=>false
theorem Ol{y:AV}(h:Zv y=true):OQ y∧y.aP=true:=by
 cases y<;>simp only[Zv]at h<;>first|(cases h;done)|skip
 ·exact⟨ag0 _,rfl⟩
 ·exact⟨dz _ _,rfl⟩
 ·exact⟨x9 _ _,rfl⟩
 ·exact⟨zS,rfl⟩
 ·rename_i l n z f;cases f with
  |any=>exact⟨Ub _ _ _,rfl⟩
  |tok t=>cases h
def okR(l:List AV):Bool:=Nat.beq l.length 23&&l.all Zv&&AV.gE l
theorem alu(i t:Nat):okR (IF i t)=true:=by
 have hr:okR (List.replicate 23 (I 0))=true:=by decide
 match i,t with
 |0,0=>show okR (IF 0 0)=true;kernel_rfl
 |0,1=>show okR (IF 0 1)=true;kernel_rfl
 |0,t+2=>exact hr
 |1,0=>show okR (IF 1 0)=true;kernel_rfl
 |1,1=>show okR (IF 1 1)=true;kernel_rfl
 |1,2=>show okR (IF 1 2)=true;kernel_rfl
 |1,t+3=>exact hr
 |2,0=>show okR (IF 2 0)=true;kernel_rfl
 |2,1=>show okR (IF 2 1)=true;kernel_rfl
 |2,t+2=>exact hr
 |i+3,t=>exact hr
theorem apT(i:Nat)(hi:i<3):(Nat.beq (GI i).length 45&&(GI i).all Zv)=true:=by
 match i,hi with
 |0,_=>show(Nat.beq (GI 0).length 45&&(GI 0).all Zv)=true;kernel_rfl
 |1,_=>show(Nat.beq (GI 1).length 45&&(GI 1).all Zv)=true;kernel_rfl
 |2,_=>show(Nat.beq (GI 2).length 45&&(GI 2).all Zv)=true;kernel_rfl
def V4(i:Nat):Bool:=match (GI i)[36]? with
 |some v=>AV.beq v (.sl (ag (IF i) (List.range (aI i).length)) (aI i).length 23 .any)
 |none=>false
theorem ag1(i:Nat)(hi:i<3):V4 i=true:=by
 match i,hi with
 |0,_=>show V4 0=true;kernel_rfl
 |1,_=>show V4 1=true;kernel_rfl
 |2,_=>show V4 2=true;kernel_rfl
def an8(c:nB):AV→Bool
 |.nils=>Nat.beq c.ar 0
 |.sl _ n _ .any=>Nat.beq n c.ar
 |_=>false
def Hm(i t:Nat)(c:nB):Bool:=(match (IF i t)[0]? with
 |some (AV.str n k)=>Nat.beq n c.name.1&&Nat.beq k c.name.2
 |_=>false)&&(match (IF i t)[1]? with
 |some d=>an8 c d
 |none=>false)
theorem V5{i:Nat}(hi:i<3){t:Nat}{c:nB}(h:(aI i)[t]?=some c):Hm i t c=true:=by
 match i,hi,t,h with
 |0,_,0,h=>cases h;show Hm 0 0 .put=true;kernel_rfl
 |0,_,1,h=>cases h;show Hm 0 1 .get=true;kernel_rfl
 |0,_,t+2,h=>simp[aI]at h
 |1,_,0,h=>cases h;show Hm 1 0 .inc=true;kernel_rfl
 |1,_,1,h=>cases h;show Hm 1 1 .EG=true;kernel_rfl
 |1,_,2,h=>cases h;show Hm 1 2 .add=true;kernel_rfl
 |1,_,t+3,h=>simp[aI]at h
 |2,_,0,h=>cases h;show Hm 2 0 .write=true;kernel_rfl
 |2,_,1,h=>cases h;show Hm 2 1 .sY=true;kernel_rfl
 |2,_,t+2,h=>simp[aI]at h
theorem au2{X:Kn}(h1:X.dec=GI)(h2:X.cmd=IF)(h3:∀c o s t,onC c o→gV c.x8 s→o.args.length=c.ar→X.take c o s=some t→gV c.x8 t):X.Ok:=by
 cases X;simp only at h1 h2;subst h1 h2;have hd:=apT;have hc:=alu;refine⟨fun i=>⟨fun t=>?_,fun t y hy=>?_,fun t y hy=>?_,fun t=>?_⟩,fun i hi=>?_,fun i hi t c h=>?_,fun i hi t c h=>?_,fun i hi=>?_,fun i hi y hy=>?_,fun i hi y hy=>?_,h3⟩
 ·have:=hc i t;unfold okR at this;simp only[kO]at this;exact o9 this.1.1
 ·have:=hc i t;unfold okR at this;simp only[kO]at this;exact(Ol (vJ.1 this.1.2 y hy)).1
 ·have:=hc i t;unfold okR at this;simp only[kO]at this;exact(Ol (vJ.1 this.1.2 y hy)).2
 ·have:=hc i t;unfold okR at this;simp only[kO]at this;exact this.2
 ·have:=ag1 i (by omega);unfold V4 at this;show(GI i)[36]?=_;cases hv:(GI i)[36]? with
  |none=>rw[hv]at this;cases this
  |some v=>rw[hv]at this;rw[AV.eq_of_beq _ _ this]
 ·have:=V5 (by omega) h;unfold Hm at this;simp only[kO]at this;have h1:=this.1;show(IF i t)[0]?=_;split at h1
  ·rename_i n k e;rw[e];simp only[kO]at h1;rw[o9 h1.1,o9 h1.2]
  ·cases h1
 ·have:=V5 (by omega) h;unfold Hm at this;simp only[kO]at this;have h1:=this.2;show ∃d,(IF i t)[1]?=some d∧_;split at h1
  ·rename_i d e;refine⟨d,e,?_⟩;unfold an8 at h1;split at h1
   ·exact .inl ⟨rfl,o9 h1⟩
   ·exact .inr ⟨_,_,by rw[o9 h1]⟩
   ·cases h1
  ·cases h1
 ·have:=hd i (by omega);simp only[kO]at this;exact o9 this.1
 ·have:=hd i (by omega);simp only[kO]at this;exact(Ol (vJ.1 this.2 y hy)).1
 ·have:=hd i (by omega);simp only[kO]at this;exact(Ol (vJ.1 this.2 y hy)).2
theorem apL:AV.beq K0.m K0.m=true:=show AV.beq vM vM=true from beq_refl _ BE
end Ln
