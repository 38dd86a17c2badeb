/- A part of the proof. No condition. -/
import Derived.Test.YtecbfpngkfdkoaaGreatP14
import Derived.Test.YtecbfpngkfdkoaaGreatP15
import Derived.Test.YtecbfpngkfdkoaaGreatP12
set_option linter.unusedSimpArgs false
set_option linter.unusedVariables false
set_option linter.unusedSectionVars false
namespace Ln
open Go.Sx Go Go.Proofs
inductive Sh:gE→Nat→Prop
 |put0:Sh .put 0
 |put1:Sh .put 1
 |put2:Sh .put 2
 |put3:Sh .put 3
 |get0:Sh .get 0
 |get1:Sh .get 1
 |get2:Sh .get 2
 |get3:Sh .get 3
 |inc0:Sh .inc 0
 |readC0:Sh .tP 0
 |add0:Sh .add 0
 |write0:Sh .write 0
 |readR0:Sh .qn 0
theorem Dr:∀ {c:gE} {n:Nat},n≤wb c.qm→Sh c n
 |.put,0,_=>.put0
 |.put,1,_=>.put1
 |.put,2,_=>.put2
 |.put,3,_=>.put3
 |.put,n+4,h=>absurd h (by simp[wb,gE.qm])
 |.get,0,_=>.get0
 |.get,1,_=>.get1
 |.get,2,_=>.get2
 |.get,3,_=>.get3
 |.get,n+4,h=>absurd h (by simp[wb,gE.qm])
 |.inc,0,_=>.inc0
 |.inc,n+1,h=>absurd h (by simp[wb,gE.qm])
 |.tP,0,_=>.readC0
 |.tP,n+1,h=>absurd h (by simp[wb,gE.qm])
 |.add,0,_=>.add0
 |.add,n+1,h=>absurd h (by simp[wb,gE.qm])
 |.write,0,_=>.write0
 |.write,n+1,h=>absurd h (by simp[wb,gE.qm])
 |.qn,0,_=>.readR0
 |.qn,n+1,h=>absurd h (by simp[wb,gE.qm])
def TX:gE→Nat→aA
 |.put,0=>LW
 |.put,1=>LX
 |.put,2=>LY
 |.put,3=>LZ
 |.get,0=>L0
 |.get,1=>L1
 |.get,2=>L2
 |.get,3=>L3
 |.inc,0=>L4
 |.tP,0=>FV
 |.add,0=>L5
 |.write,0=>FW
 |_,_=>FX
def K6:gE→Nat→aA
 |.put,0=>FY
 |.put,1=>FZ
 |.put,2=>F8
 |.put,3=>Ga
 |.get,0=>Gb
 |.get,1=>Gc
 |.get,2=>Gd
 |.get,3=>Ge
 |.inc,0=>Gf
 |.tP,0=>BH
 |.add,0=>Gg
 |.write,0=>BI
 |_,_=>BJ
def LG:gE→Nat→aA
 |.put,0=>I3
 |.put,1=>I4
 |.put,2=>I5
 |.put,3=>I6
 |.get,0=>I7
 |.get,1=>I8
 |.get,2=>I9
 |.get,3=>Ja
 |.inc,0=>Jb
 |.tP,0=>Dx
 |.add,0=>Jc
 |.write,0=>Dy
 |_,_=>Dz
def axO:gE→Nat→aA
 |.put,0=>L6
 |.put,1=>L7
 |.put,2=>L8
 |.put,3=>L9
 |.get,0=>Ma
 |.get,1=>Mb
 |.get,2=>Mc
 |.get,3=>Md
 |.inc,0=>Me
 |.tP,0=>Gi
 |.add,0=>Mf
 |.write,0=>Gj
 |_,_=>Gk
def amv:gE→Nat→aA
 |.put,0=>Gl
 |.put,1=>Gm
 |.put,2=>Gn
 |.put,3=>Gp
 |.get,0=>Gq
 |.get,1=>Gs
 |.get,2=>Gt
 |.get,3=>Gu
 |.inc,0=>Gv
 |.tP,0=>BK
 |.add,0=>Gw
 |.write,0=>BL
 |_,_=>BM
def ar0:gE→Nat→aA
 |.put,0=>Jd
 |.put,1=>Je
 |.put,2=>Jf
 |.put,3=>Jg
 |.get,0=>Jh
 |.get,1=>Ji
 |.get,2=>Jj
 |.get,3=>Jk
 |.inc,0=>Jl
 |.tP,0=>DA
 |.add,0=>Jm
 |.write,0=>DB
 |_,_=>DC
abbrev avo(c:gE)(n:Nat):List AV:=[vM,dE c.qm,.str c.name.1 c.name.2,stS 0 n,ay0 c.ar,jG]
abbrev HN(c:gE)(n:Nat):List AV:=[vM,dE c.qm,.str c.name.1 c.name.2,stS 0 n,ay0 c.ar,aC0,jG]
theorem aC6{c:gE}{n:Nat}(h:Sh c n):aA.cp (CF aD) 149 (TX c n) ⟨ae 149 (fx 149) (avo c n),[],.nil,aS⟩ [] []=true:=by
 cases h
 ·exact Ry
 ·exact Rz
 ·exact RA
 ·exact RB
 ·exact RC
 ·exact RD
 ·exact RE
 ·exact RF
 ·exact RG
 ·exact Mg
 ·exact RH
 ·exact Mh
 ·exact Mi
theorem avp{c:gE}{n:Nat}(h:Sh c n):aA.cp (CF aD) 150 (K6 c n) ⟨ae 150 (fx 150) (HN c n),[],.nil,aS⟩ [] []=true:=by
 cases h
 ·exact Mj
 ·exact Mk
 ·exact Ml
 ·exact Mm
 ·exact Mn
 ·exact Mo
 ·exact Mp
 ·exact Mq
 ·exact Mr
 ·exact HS
 ·exact Ms
 ·exact HT
 ·exact HU
theorem ay7{c:gE}{n:Nat}(h:Sh c n):aA.cp (CF aD) 151 (LG c n) ⟨ae 151 (fx 151) (HN c n),[],.nil,aS⟩ [] []=true:=by
 cases h
 ·exact OC
 ·exact OD
 ·exact OE
 ·exact OF
 ·exact OG
 ·exact OH
 ·exact OI
 ·exact OJ
 ·exact OK
 ·exact J4
 ·exact OL
 ·exact J5
 ·exact J6
theorem aC7{c:gE}{n:Nat}(h:Sh c n):aA.cp (CF aD) 154 (axO c n) ⟨ae 154 (fx 154) (avo c n),[],.nil,aS⟩ [] []=true:=by
 cases h
 ·exact RI
 ·exact RJ
 ·exact RK
 ·exact RL
 ·exact RM
 ·exact RN
 ·exact RO
 ·exact RP
 ·exact RT
 ·exact Mt
 ·exact RU
 ·exact Mv
 ·exact Mw
theorem avr{c:gE}{n:Nat}(h:Sh c n):aA.cp (CF aD) 155 (amv c n) ⟨ae 155 (fx 155) (HN c n),[],.nil,aS⟩ [] []=true:=by
 cases h
 ·exact Mx
 ·exact My
 ·exact Mz
 ·exact MA
 ·exact MB
 ·exact MC
 ·exact MD
 ·exact ME
 ·exact MF
 ·exact HV
 ·exact MG
 ·exact HW
 ·exact HX
theorem ay8{c:gE}{n:Nat}(h:Sh c n):aA.cp (CF aD) 156 (ar0 c n) ⟨ae 156 (fx 156) (HN c n),[],.nil,aS⟩ [] []=true:=by
 cases h
 ·exact OM
 ·exact ON
 ·exact OO
 ·exact OP
 ·exact OQ
 ·exact OS
 ·exact OT
 ·exact OU
 ·exact OV
 ·exact J7
 ·exact OW
 ·exact J8
 ·exact J9
theorem K8:AV.lits vM=true:=by kernel_rfl
theorem amw:vM.kf=true:=by kernel_rfl
theorem axK{c:gE}{n:Nat}(h:Sh c n):AV.HI (avo c n)=true:=by
 have hv:=amw
 cases h<;>simp only[AV.HI,hv]<;>rfl
theorem Lb{c:gE}{n:Nat}(h:Sh c n):AV.HI (HN c n)=true:=by
 have hv:=amw
 cases h<;>simp only[AV.HI,hv]<;>rfl
theorem aGW{c:gE}{n:Nat}(h:Sh c n):LJ arD (TX c n).dt []=true:=by
 cases h<;>kernel_rfl
theorem ayX{c:gE}{n:Nat}(h:Sh c n):LJ arD (K6 c n).dt []=true:=by
 cases h<;>kernel_rfl
theorem aCW{c:gE}{n:Nat}(h:Sh c n):LJ (arG 4) (LG c n).dt []=true:=by
 cases h<;>kernel_rfl
def noB:AV→Bool
 |.tuple [.bool false,.int .i64 (.lit _)]=>true
 |.tuple [.bool _,.int .i64 (.lit (.ofNat (_+1)))]=>true
 |.tuple [.bool _,.int .i64 (.lit (.negSucc _))]=>true
 |_=>false
theorem aCX{c:gE}{n:Nat}(h:Sh c n):LJ (arG (wb c.qm)) (LG c n).dt []=true∨LJ noB (TX c n).dt []=true:=by
 cases h
 ·exact .inl (by kernel_rfl)
 ·exact .inl (by kernel_rfl)
 ·exact .inl (by kernel_rfl)
 ·exact .inr (by kernel_rfl)
 ·exact .inl (by kernel_rfl)
 ·exact .inl (by kernel_rfl)
 ·exact .inl (by kernel_rfl)
 ·exact .inl (by kernel_rfl)
 ·exact .inl (by kernel_rfl)
 ·exact .inl (by kernel_rfl)
 ·exact .inl (by kernel_rfl)
 ·exact .inl (by kernel_rfl)
 ·exact .inl (by kernel_rfl)
theorem avq{c:gE}{n:Nat}(h:Sh c n):DT.same (axO c n).dt (TX c n).dt []=true:=by
 cases h<;>kernel_rfl
theorem apx{c:gE}{n:Nat}(h:Sh c n):DT.same (amv c n).dt (K6 c n).dt []=true:=by
 cases h<;>kernel_rfl
theorem arW{c:gE}{n:Nat}(h:Sh c n):DT.same (ar0 c n).dt (LG c n).dt []=true:=by
 cases h<;>kernel_rfl
end Ln
/-
 LN: what is known of calls, and that it is bs the walks want it. No condition.
-/
namespace Ln
open Go.Sx Go Go.Proofs
def z0:U:=⟨0,0⟩
def arw(c:gE)(s:St)(bs:List U):AV:=(TX c s.kids.length).dt.val (ve s bs z0 0)
def LF(c:gE)(s:St)(bs:List U)(r:U):AV:=(K6 c s.kids.length).dt.val (ve s bs r 0)
def TY(c:gE)(s:St)(bs:List U)(r:U):AV:=(LG c s.kids.length).dt.val (ve s bs r 0)
def ED(i:Nat):List AV:=(qd.drop (45*i)).take 45
def aGV(i:Nat):List AV:=match (ED i)[36]? with
 |some (AV.sl l _ _ _)=>l
 |_=>[]
def Fz(i t:Nat):List AV:=bif Nat.blt i 3&&Nat.blt t (aw i).length then((aGV i).drop (23*t)).take 23 else List.replicate 23 (I 0)
def K0:Kn where
 rows:=qd
 dec:=ED
 cmd:=Fz
 LH c s bs:=arx (arw c s bs)
 LI c s bs:=TZ (arw c s bs)
 oa c s bs r:=arx (LF c s bs r)
 od c s bs r:=TZ (LF c s bs r)
 ql c s bs r:=ary (TY c s bs r)
 tO c s bs r:=TZ (TY c s bs r)
theorem amj{c:gE}{s:St}(hs:gM c.qm s)(bs:List U):arw c s bs=.tuple [.bool (K0.LH c s bs),I (K0.LI c s bs)]:=T0 (aGW (Dr hs))
theorem P3{c:gE}{s:St}(hs:gM c.qm s)(bs:List U)(r:U):LF c s bs r=.tuple [.bool (K0.oa c s bs r),I (K0.od c s bs r)]:=T0 (ayX (Dr hs))
theorem T1{c:gE}{s:St}(hs:gM c.qm s)(bs:List U)(r:U):TY c s bs r=.tuple [.agg (eS (K0.ql c s bs r)),I (K0.tO c s bs r)]:=(T3 (aCW (Dr hs))).1
def ajd:AV→Bool
 |.int _ _=>true
 |.str _ _=>true
 |.bool _=>true
 |.nils=>true
 |.sl _ _ _ .any=>true
 |_=>false
theorem K7{y:AV}(h:ajd y=true):Rm y∧y.aK=true:=by
 cases y<;>simp only[ajd] at h<;>first|(cases h;done)|skip
 ·exact⟨arz _,rfl⟩
 ·exact⟨eD _ _,rfl⟩
 ·exact⟨sZ _ _,rfl⟩
 ·exact⟨wZ,rfl⟩
 ·rename_i l n z f
  cases f with
  |any=>exact⟨Rn _ _ _,rfl⟩
  |tok t=>cases h
def okR(l:List AV):Bool:=Nat.beq l.length 23&&l.all ajd&&AV.fQ l
theorem au7(i t:Nat):okR (Fz i t)=true:=by
 have hr:okR (List.replicate 23 (I 0))=true:=by decide
 match i,t with
 |0,0=>show okR (Fz 0 0)=true;kernel_rfl
 |0,1=>show okR (Fz 0 1)=true;kernel_rfl
 |0,t+2=>exact hr
 |1,0=>show okR (Fz 1 0)=true;kernel_rfl
 |1,1=>show okR (Fz 1 1)=true;kernel_rfl
 |1,2=>show okR (Fz 1 2)=true;kernel_rfl
 |1,t+3=>exact hr
 |2,0=>show okR (Fz 2 0)=true;kernel_rfl
 |2,1=>show okR (Fz 2 1)=true;kernel_rfl
 |2,t+2=>exact hr
 |i+3,t=>exact hr
theorem ayY(i:Nat)(hi:i<3):(Nat.beq (ED i).length 45&&(ED i).all ajd)=true:=by
 match i,hi with
 |0,_=>show(Nat.beq (ED 0).length 45&&(ED 0).all ajd)=true;kernel_rfl
 |1,_=>show(Nat.beq (ED 1).length 45&&(ED 1).all ajd)=true;kernel_rfl
 |2,_=>show(Nat.beq (ED 2).length 45&&(ED 2).all ajd)=true;kernel_rfl
def T4(i:Nat):Bool:=match (ED i)[36]? with
 |some v=>AV.beq v (.sl (ai (Fz i) (List.range (aw i).length)) (aw i).length 23 .any)
 |none=>false
theorem arA(i:Nat)(hi:i<3):T4 i=true:=by
 match i,hi with
 |0,_=>show T4 0=true;kernel_rfl
 |1,_=>show T4 1=true;kernel_rfl
 |2,_=>show T4 2=true;kernel_rfl
def axG(c:gE):AV→Bool
 |.nils=>Nat.beq c.ar 0
 |.sl _ n _ .any=>Nat.beq n c.ar
 |_=>false
def Dt(i t:Nat)(c:gE):Bool:=(match (Fz i t)[0]? with
 |some (AV.str n k)=>Nat.beq n c.name.1&&Nat.beq k c.name.2
 |_=>false)&&(match (Fz i t)[1]? with
 |some d=>axG c d
 |none=>false)
theorem T5{i:Nat}(hi:i<3){t:Nat}{c:gE}(h:(aw i)[t]?=some c):Dt i t c=true:=by
 match i,hi,t,h with
 |0,_,0,h=>cases h;show Dt 0 0 .put=true;kernel_rfl
 |0,_,1,h=>cases h;show Dt 0 1 .get=true;kernel_rfl
 |0,_,t+2,h=>simp[aw] at h
 |1,_,0,h=>cases h;show Dt 1 0 .inc=true;kernel_rfl
 |1,_,1,h=>cases h;show Dt 1 1 .tP=true;kernel_rfl
 |1,_,2,h=>cases h;show Dt 1 2 .add=true;kernel_rfl
 |1,_,t+3,h=>simp[aw] at h
 |2,_,0,h=>cases h;show Dt 2 0 .write=true;kernel_rfl
 |2,_,1,h=>cases h;show Dt 2 1 .qn=true;kernel_rfl
 |2,_,t+2,h=>simp[aw] at h
theorem au8{u:AV}{ρ:Nat→Int}(h:noB u=true):arx (u.sub ρ)=false∨TZ (u.sub ρ)≠0:=by
 unfold noB at h
 split at h
 ·exact .inl rfl
 ·right;show Int.ofNat (_+1)≠0;intro e;cases e
 ·right;show Int.negSucc _≠0;intro e;cases e
 ·cases h
theorem au9{c:gE}{o:Op}{s t:St}(hs:gM c.qm s)(h:K0.take c o s=some t):gM c.qm t:=by
 rcases aCX (Dr hs) with hn|hn
 ·have hv:=(T3 (ρ:=ve s o.args o.res 0) hn).2
  unfold Kn.take at h
  split at h
  ·cases h
  ·split at h
   ·cases h
   ·split at h
    ·cases h
    ·cases h
     exact hv
 ·obtain⟨u,h1,h2⟩:=FA (ρ:=ve s o.args z0 0) hn trivial
  have h3:=au8 (ρ:=ve s o.args z0 0) h1
  rw[← h2] at h3
  unfold Kn.take at h
  rw[if_pos (h3.elim (fun e=>.inr e) fun e=>.inl e)] at h
  cases h
theorem aCY:K0.Ok:=by
 have hd:=ayY
 have hc:=au7
 refine⟨fun i=>⟨fun t=>?_,fun t y hy=>?_,fun t y hy=>?_,fun t=>?_⟩,fun i hi=>?_,fun i hi t c h=>?_,fun i hi t c h=>?_,fun i hi=>?_,fun i hi y hy=>?_,fun i hi y hy=>?_,fun c o s t hs _ h=>au9 hs h⟩
 ·have:=hc i t
  unfold okR at this
  simp only[iE] at this
  exact ml this.1.1
 ·have:=hc i t
  unfold okR at this
  simp only[iE] at this
  exact(K7 (zr.1 this.1.2 y hy)).1
 ·have:=hc i t
  unfold okR at this
  simp only[iE] at this
  exact(K7 (zr.1 this.1.2 y hy)).2
 ·have:=hc i t
  unfold okR at this
  simp only[iE] at this
  exact this.2
 ·have:=arA i hi
  unfold T4 at this
  show(ED i)[36]?=_
  cases hv:(ED i)[36]? with
  |none=>rw[hv] at this;cases this
  |some v=>rw[hv] at this;rw[AV.eq_of_beq _ _ this];rfl
 ·have:=T5 hi h
  unfold Dt at this
  simp only[iE] at this
  have h1:=this.1
  show(Fz i t)[0]?=_
  split at h1
  ·rename_i n k e
   rw[e]
   simp only[iE] at h1
   rw[ml h1.1,ml h1.2]
  ·cases h1
 ·have:=T5 hi h
  unfold Dt at this
  simp only[iE] at this
  have h1:=this.2
  show ∃ d,(Fz i t)[1]?=some d∧_
  split at h1
  ·rename_i d e
   refine⟨d,e,?_⟩
   unfold axG at h1
   split at h1
   ·exact .inl ⟨rfl,ml h1⟩
   ·exact .inr ⟨_,_,by rw[ml h1]⟩
   ·cases h1
  ·cases h1
 ·have:=hd i hi
  simp only[iE] at this
  exact ml this.1
 ·have:=hd i hi
  simp only[iE] at this
  exact(K7 (zr.1 this.2 y hy)).1
 ·have:=hd i hi
  simp only[iE] at this
  exact(K7 (zr.1 this.2 y hy)).2
theorem ayZ:AV.beq K0.m K0.m=true:=show AV.beq vM vM=true from beq_refl _ K8
end Ln
