/- A part of the proof. No condition. -/
import Derived.Test.YtecbfpngkfdkoaaGreatP7
set_option linter.unusedSimpArgs false
set_option linter.unusedVariables false
set_option linter.unusedSectionVars false
namespace Go.Sx
open Go
theorem azU{a b:Key}(h:a.toNat≠b.toNat):a≠b:=fun e=>h (by rw[e])
theorem nX{a b:Key}(h:a.toNat≠b.toNat)(v:Option ah)(t:T ah):aa a (av b v t)=aa a t:=bZ _ _ _ _ (azU h)
variable(n:Key)(v:Option ah)(t:T ah)
@[simp] theorem aIR:aa n (av n.succ v t)=aa n t:=nX (by simp;try omega) v t
@[simp] theorem aIS:aa n (av n.succ.succ v t)=aa n t:=nX (by simp;try omega) v t
@[simp] theorem aIT:aa n (av n.succ.succ.succ v t)=aa n t:=nX (by simp;try omega) v t
@[simp] theorem aIU:aa n (av n.succ.succ.succ.succ v t)=aa n t:=nX (by simp;try omega) v t
@[simp] theorem aIV:aa n (av n.succ.succ.succ.succ.succ v t)=aa n t:=nX (by simp;try omega) v t
@[simp] theorem aIW:aa n (av n.succ.succ.succ.succ.succ.succ v t)=aa n t:=nX (by simp;try omega) v t
@[simp] theorem aIX:aa n (av n.succ.succ.succ.succ.succ.succ.succ v t)=aa n t:=nX (by simp;try omega) v t
@[simp] theorem aIY:aa n.succ (av n v t)=aa n.succ t:=nX (by simp;try omega) v t
@[simp] theorem aIZ:aa n.succ (av n.succ.succ v t)=aa n.succ t:=nX (by simp;try omega) v t
@[simp] theorem aI0:aa n.succ (av n.succ.succ.succ v t)=aa n.succ t:=nX (by simp;try omega) v t
@[simp] theorem aI1:aa n.succ (av n.succ.succ.succ.succ v t)=aa n.succ t:=nX (by simp;try omega) v t
@[simp] theorem aI2:aa n.succ (av n.succ.succ.succ.succ.succ v t)=aa n.succ t:=nX (by simp;try omega) v t
@[simp] theorem aI3:aa n.succ (av n.succ.succ.succ.succ.succ.succ v t)=aa n.succ t:=nX (by simp;try omega) v t
@[simp] theorem aI4:aa n.succ (av n.succ.succ.succ.succ.succ.succ.succ v t)=aa n.succ t:=nX (by simp;try omega) v t
@[simp] theorem aI5:aa n.succ.succ (av n v t)=aa n.succ.succ t:=nX (by simp;try omega) v t
@[simp] theorem aI6:aa n.succ.succ (av n.succ v t)=aa n.succ.succ t:=nX (by simp;try omega) v t
@[simp] theorem aI7:aa n.succ.succ (av n.succ.succ.succ v t)=aa n.succ.succ t:=nX (by simp;try omega) v t
@[simp] theorem aI8:aa n.succ.succ (av n.succ.succ.succ.succ v t)=aa n.succ.succ t:=nX (by simp;try omega) v t
@[simp] theorem aI9:aa n.succ.succ (av n.succ.succ.succ.succ.succ v t)=aa n.succ.succ t:=nX (by simp;try omega) v t
@[simp] theorem aJa:aa n.succ.succ (av n.succ.succ.succ.succ.succ.succ v t)=aa n.succ.succ t:=nX (by simp;try omega) v t
@[simp] theorem aJb:aa n.succ.succ (av n.succ.succ.succ.succ.succ.succ.succ v t)=aa n.succ.succ t:=nX (by simp;try omega) v t
@[simp] theorem aJc:aa n.succ.succ.succ (av n v t)=aa n.succ.succ.succ t:=nX (by simp;try omega) v t
@[simp] theorem aJd:aa n.succ.succ.succ (av n.succ v t)=aa n.succ.succ.succ t:=nX (by simp;try omega) v t
@[simp] theorem aJe:aa n.succ.succ.succ (av n.succ.succ v t)=aa n.succ.succ.succ t:=nX (by simp;try omega) v t
@[simp] theorem aJf:aa n.succ.succ.succ (av n.succ.succ.succ.succ v t)=aa n.succ.succ.succ t:=nX (by simp;try omega) v t
@[simp] theorem aJg:aa n.succ.succ.succ (av n.succ.succ.succ.succ.succ v t)=aa n.succ.succ.succ t:=nX (by simp;try omega) v t
@[simp] theorem aJh:aa n.succ.succ.succ (av n.succ.succ.succ.succ.succ.succ v t)=aa n.succ.succ.succ t:=nX (by simp;try omega) v t
@[simp] theorem aJi:aa n.succ.succ.succ (av n.succ.succ.succ.succ.succ.succ.succ v t)=aa n.succ.succ.succ t:=nX (by simp;try omega) v t
@[simp] theorem aJj:aa n.succ.succ.succ.succ (av n v t)=aa n.succ.succ.succ.succ t:=nX (by simp;try omega) v t
@[simp] theorem aJk:aa n.succ.succ.succ.succ (av n.succ v t)=aa n.succ.succ.succ.succ t:=nX (by simp;try omega) v t
@[simp] theorem aJl:aa n.succ.succ.succ.succ (av n.succ.succ v t)=aa n.succ.succ.succ.succ t:=nX (by simp;try omega) v t
@[simp] theorem aJm:aa n.succ.succ.succ.succ (av n.succ.succ.succ v t)=aa n.succ.succ.succ.succ t:=nX (by simp;try omega) v t
@[simp] theorem aJn:aa n.succ.succ.succ.succ (av n.succ.succ.succ.succ.succ v t)=aa n.succ.succ.succ.succ t:=nX (by simp;try omega) v t
@[simp] theorem aJo:aa n.succ.succ.succ.succ (av n.succ.succ.succ.succ.succ.succ v t)=aa n.succ.succ.succ.succ t:=nX (by simp;try omega) v t
@[simp] theorem aJp:aa n.succ.succ.succ.succ (av n.succ.succ.succ.succ.succ.succ.succ v t)=aa n.succ.succ.succ.succ t:=nX (by simp;try omega) v t
@[simp] theorem aJq:aa n.succ.succ.succ.succ.succ (av n v t)=aa n.succ.succ.succ.succ.succ t:=nX (by simp;try omega) v t
@[simp] theorem aJr:aa n.succ.succ.succ.succ.succ (av n.succ v t)=aa n.succ.succ.succ.succ.succ t:=nX (by simp;try omega) v t
@[simp] theorem aJs:aa n.succ.succ.succ.succ.succ (av n.succ.succ v t)=aa n.succ.succ.succ.succ.succ t:=nX (by simp;try omega) v t
@[simp] theorem aJt:aa n.succ.succ.succ.succ.succ (av n.succ.succ.succ v t)=aa n.succ.succ.succ.succ.succ t:=nX (by simp;try omega) v t
@[simp] theorem aJu:aa n.succ.succ.succ.succ.succ (av n.succ.succ.succ.succ v t)=aa n.succ.succ.succ.succ.succ t:=nX (by simp;try omega) v t
@[simp] theorem aJv:aa n.succ.succ.succ.succ.succ (av n.succ.succ.succ.succ.succ.succ v t)=aa n.succ.succ.succ.succ.succ t:=nX (by simp;try omega) v t
@[simp] theorem aJw:aa n.succ.succ.succ.succ.succ (av n.succ.succ.succ.succ.succ.succ.succ v t)=aa n.succ.succ.succ.succ.succ t:=nX (by simp;try omega) v t
@[simp] theorem aJx:aa n.succ.succ.succ.succ.succ.succ (av n v t)=aa n.succ.succ.succ.succ.succ.succ t:=nX (by simp;try omega) v t
@[simp] theorem aJy:aa n.succ.succ.succ.succ.succ.succ (av n.succ v t)=aa n.succ.succ.succ.succ.succ.succ t:=nX (by simp;try omega) v t
@[simp] theorem aJz:aa n.succ.succ.succ.succ.succ.succ (av n.succ.succ v t)=aa n.succ.succ.succ.succ.succ.succ t:=nX (by simp;try omega) v t
@[simp] theorem aJA:aa n.succ.succ.succ.succ.succ.succ (av n.succ.succ.succ v t)=aa n.succ.succ.succ.succ.succ.succ t:=nX (by simp;try omega) v t
@[simp] theorem aJB:aa n.succ.succ.succ.succ.succ.succ (av n.succ.succ.succ.succ v t)=aa n.succ.succ.succ.succ.succ.succ t:=nX (by simp;try omega) v t
@[simp] theorem aJC:aa n.succ.succ.succ.succ.succ.succ (av n.succ.succ.succ.succ.succ v t)=aa n.succ.succ.succ.succ.succ.succ t:=nX (by simp;try omega) v t
@[simp] theorem aJD:aa n.succ.succ.succ.succ.succ.succ (av n.succ.succ.succ.succ.succ.succ.succ v t)=aa n.succ.succ.succ.succ.succ.succ t:=nX (by simp;try omega) v t
@[simp] theorem aJE:aa n.succ.succ.succ.succ.succ.succ.succ (av n v t)=aa n.succ.succ.succ.succ.succ.succ.succ t:=nX (by simp;try omega) v t
@[simp] theorem aJF:aa n.succ.succ.succ.succ.succ.succ.succ (av n.succ v t)=aa n.succ.succ.succ.succ.succ.succ.succ t:=nX (by simp;try omega) v t
@[simp] theorem aJG:aa n.succ.succ.succ.succ.succ.succ.succ (av n.succ.succ v t)=aa n.succ.succ.succ.succ.succ.succ.succ t:=nX (by simp;try omega) v t
@[simp] theorem aJH:aa n.succ.succ.succ.succ.succ.succ.succ (av n.succ.succ.succ v t)=aa n.succ.succ.succ.succ.succ.succ.succ t:=nX (by simp;try omega) v t
@[simp] theorem aJI:aa n.succ.succ.succ.succ.succ.succ.succ (av n.succ.succ.succ.succ v t)=aa n.succ.succ.succ.succ.succ.succ.succ t:=nX (by simp;try omega) v t
@[simp] theorem aJJ:aa n.succ.succ.succ.succ.succ.succ.succ (av n.succ.succ.succ.succ.succ v t)=aa n.succ.succ.succ.succ.succ.succ.succ t:=nX (by simp;try omega) v t
@[simp] theorem aJK:aa n.succ.succ.succ.succ.succ.succ.succ (av n.succ.succ.succ.succ.succ.succ v t)=aa n.succ.succ.succ.succ.succ.succ.succ t:=nX (by simp;try omega) v t
@[simp] theorem aBW(k:IntKind):mr (.int k (.lit 2))=some 2:=rfl
@[simp] theorem ax3(k:IntKind):mr (.int k (.lit 3))=some 3:=rfl
theorem jO:∀ (k:Key),Key.beq k k=true
 |.z=>rfl
 |.o k=>by rw[Key.beq];exact jO k
 |.e k=>by rw[Key.beq];exact jO k
theorem ajR(f:SF):SF.beq f f=true:=by cases f<;>simp[SF.beq,jO]
mutual
def AV.lits:AV→Bool
 |.int _ (.lit _)=>true
 |.int _ _=>false
 |.fn _ a c=>AV.fQ a&&AV.fQ c
 |.iface _ v=>AV.lits v
 |.agg l=>AV.fQ l
 |.tuple l=>AV.fQ l
 |.sl l _ _ _=>AV.fQ l
 |.cref l=>AV.fQ l
 |_=>true
def AV.fQ:List AV→Bool
 | []=>true
 |v ::l=>AV.lits v&&AV.fQ l
end
mutual
theorem beq_refl:∀ (v:AV),AV.lits v=true→AV.beq v v=true
 |.bool b,_=>by simp[AV.beq]
 |.int k (.lit n),_=>by cases k<;>simp[AV.beq,SI.beq]
 |.int k (.var n),h=>by simp[AV.lits] at h
 |.int k (.bin o k' a b),h=>by simp[AV.lits] at h
 |.str n c,_=>by simp[AV.beq]
 |.ptr b o,_=>by simp[AV.beq,jO]
 |.nilp,_=>by simp[AV.beq]
 |.slice b o l s,_=>by simp[AV.beq,jO]
 |.nils,_=>by simp[AV.beq]
 |.map b,_=>by simp[AV.beq,jO]
 |.nilm,_=>by simp[AV.beq]
 |.fn f a c,h=>by simp[AV.lits] at h;simp[AV.beq,oR a h.1,oR c h.2]
 |.yld l,_=>by simp[AV.beq,jO]
 |.nilf,_=>by simp[AV.beq]
 |.iface t v,h=>by simp[AV.lits] at h;simp[AV.beq,beq_refl v h]
 |.nili,_=>by simp[AV.beq]
 |.agg l,h=>by simp[AV.lits] at h;simp[AV.beq,oR l h]
 |.tuple l,h=>by simp[AV.lits] at h;simp[AV.beq,oR l h]
 |.sl l n z f,h=>by simp[AV.lits] at h;simp[AV.beq,ajR,oR l h]
 |.cref l,h=>by simp[AV.lits] at h;simp[AV.beq,oR l h]
theorem oR:∀ (l:List AV),AV.fQ l=true→AV.C6 l l=true
 | [],_=>by simp[AV.C6]
 |v ::l,h=>by simp[AV.fQ] at h;simp[AV.C6,beq_refl v h.1,oR l h.2]
end
theorem UF:∀ {l:List AV},(∀ x∈l,AV.lits x=true)→AV.fQ l=true
 | [],_=>by simp[AV.fQ]
 |v ::l,h=>by simp[AV.fQ,h v (by simp),UF (l:=l) fun x hx=>h x (by simp[hx])]
theorem Qv:∀ {l:List AV},AV.fQ l=true→∀ x∈l,AV.lits x=true
 | [],_,x,hx=>by simp at hx
 |v ::l,h,x,hx=>by
  simp[AV.fQ] at h
  rcases JY.1 hx with rfl|hx
  ·exact h.1
  ·exact Qv h.2 x hx
end Go.Sx
/-
 SG: what serves any program: functions of a machine, rows of flat cells, rows that grow. No condition.
-/
namespace Go.Sx
open Go
structure Fn(C:dm)(f:Nat)(p:fO):Prop where
 get:DS C f=some p
 off:∀ l h nx,C.sum f l h nx=none
 mN:C.mN f=false
theorem Fn.call{C:dm}{f:Nat}{p:fO}(S:Fn C f p){l:List AV}{h:T ah}{nx:Key}{R:Out→T ah→Key→Prop}(hw:dz C p.body (bb p.res R) (gI l (K 0) .nil) h nx):aO C f l h nx R:=
 aO.of (S.off _ _ _) S.get S.mN hw
abbrev S:=Nat×Nat
def Rm(c:AV):Prop:=∀ n h,aY n c h=(c,h)
theorem Rn(l:List AV)(n z:Nat):Rm (.sl l n z .any):=fun k h=>by cases k<;>rfl
theorem wZ:Rm .nils:=fun k h=>by cases k<;>rfl
theorem eD(k:IntKind)(n:SI):Rm (.int k n):=fun k h=>by cases k<;>rfl
theorem sZ(a b:Nat):Rm (.str a b):=fun k h=>by cases k<;>rfl
theorem arz(b:Bool):Rm (.bool b):=fun k h=>by cases k<;>rfl
theorem du{n:Nat}:∀ {l:List AV} {h:T ah},(∀ x∈l,Rm x)→cn (aY n) l h=(l,h)
 | [],_,_=>rfl
 |v ::l,h,hs=>by
  have h1:=hs v (by simp) n h
  have h2:=du (n:=n) (l:=l) (h:=h) fun x hx=>hs x (by simp[hx])
  simp only[cn,h1,h2]
theorem Fp{n:Nat}{b:Key}{len sz:Nat}{l:List AV}{H:T ah}(hg:aa b H=some (.cells l .part))(hl:l.length=len*sz)(hs:∀ x∈l,Rm x):aY (n+1) (.slice b 0 len sz) H=(.sl l len sz .any,av b none H):=by
 simp only[aY,Jp,hg,List.drop_zero]
 rw[if_pos (by omega),P8 (by omega),du hs]
theorem GB{n:Nat}{b:Key}{len sz:Nat}{l:List AV}{H:T ah}(hg:aa b H=some (.cells l .fix))(hl:l.length=len*sz)(hs:∀ x∈l,Rm x):aY (n+1) (.slice b 0 len sz) H=(.sl l len sz .any,av b (some (.cells l .ro)) H):=by
 simp only[aY,Jp,hg,List.drop_zero]
 rw[if_pos (by omega),P8 (by omega),du hs]
def Tv(C:dm)(f:Nat)(l:List AV)(P:Out→Prop):Prop:=∀ h nx,aO C f l h nx (fun o h' nx'=>P o∧Ext h nx h' nx')
theorem Tv.mono{C:dm}{f:Nat}{l:List AV}{P Q:Out→Prop}(hp:Tv C f l P)(hq:∀ o,P o→Q o):Tv C f l Q:=
 fun h nx=>(hp h nx).mono fun o _ _ ⟨a,b⟩=>⟨hq o a,b⟩
theorem E0(h:T ah)(nx:Key)(B:ah):Ext h nx (av nx (some B) h) nx.succ:=by
 have s1:=kTSu nx
 exact⟨by omega,fun b hb=>by rw[az hb]⟩
theorem Ext.put{h h':T ah}{nx nx' k:Key}{B:Option ah}(e:Ext h nx h' nx')(hk:nx.toNat≤k.toNat):Ext h nx (av k B h') nx':=
 ⟨e.n,fun b hb=>by rw[az (by omega)];exact e.g b hb⟩
theorem Ext.up{h h':T ah}{nx nx' n2:Key}(e:Ext h nx h' nx')(hn:nx'.toNat≤n2.toNat):Ext h nx h' n2:=⟨by have:=e.n;omega,e.g⟩
section
variable{α:Type}
def ai(enc:α→List AV)(l:List α):List AV:=l.flatMap enc
structure Flat(z:Nat)(enc:α→List AV):Prop where
 len:∀ x,(enc x).length=z
 Fl:∀ x,∀ y∈enc x,Rm y
 cell:∀ x,∀ y∈enc x,AV.aK y=true
 lits:∀ x,AV.fQ (enc x)=true
variable{z:Nat}{enc:α→List AV}
@[simp] theorem aCu(enc:α→List AV):ai enc []=[]:=rfl
theorem ek(enc:α→List AV)(x:α)(l:List α):ai enc (x ::l)=enc x++ai enc l:=rfl
theorem mv(enc:α→List AV)(l m:List α):ai enc (l++m)=ai enc l++ai enc m:=by simp[ai]
theorem ou(enc:α→List AV)(x:α):ai enc [x]=enc x:=by simp[ai]
theorem Flat.rows(F:Flat z enc):∀ (l:List α),(ai enc l).length=l.length*z
 | []=>by simp
 |x ::l=>by rw[ek,zqf,F.len,F.rows l,zqi,Nat.add_mul,Nat.one_mul,Nat.add_comm]
theorem Flat.drop(F:Flat z enc):∀ (l:List α) (i:Nat),(ai enc l).drop (i*z)=ai enc (l.drop i)
 |l,0=>by simp
 | [],i+1=>by simp
 |x ::l,i+1=>by
  have hx:(enc x).length=z:=F.len x
  have hz:z≤(i+1)*z:=Nat.le_mul_of_pos_left _ (Nat.succ_pos _)
  have he:(i+1)*z-z=i*z:=by rw[Nat.add_mul,Nat.one_mul];omega
  rw[ek,zqq,List.drop_eq_nil_of_le (by omega),List.nil_append,hx,he,F.drop l i]
  simp
theorem Flat.take(F:Flat z enc):∀ (l:List α) (i:Nat),(ai enc l).take (i*z)=ai enc (l.take i)
 |l,0=>by simp
 | [],i+1=>by simp
 |x ::l,i+1=>by
  have hx:(enc x).length=z:=F.len x
  have hz:z≤(i+1)*z:=Nat.le_mul_of_pos_left _ (Nat.succ_pos _)
  have he:(i+1)*z-z=i*z:=by rw[Nat.add_mul,Nat.one_mul];omega
  rw[ek,zqw,P8 (by omega),hx,he,F.take l i]
  simp[ek]
theorem Flat.at(F:Flat z enc){l:List α}{i:Nat}(hi:i<l.length):((ai enc l).drop (i*z)).take z=enc l[i]:=by
 rw[F.drop,zqt hi,ek,List.take_append_of_le_length (by rw[F.len];exact fe _),P8 (by rw[F.len];exact fe _)]
theorem Flat.HD(F:Flat z enc)(l:List α):∀ y∈ai enc l,Rm y:=by
 intro y hy
 obtain⟨x,_,hx⟩:=List.mem_flatMap.1 hy
 exact F.Fl x y hx
theorem Flat.cells(F:Flat z enc)(l:List α):∀ y∈ai enc l,AV.aK y=true:=by
 intro y hy
 obtain⟨x,_,hx⟩:=List.mem_flatMap.1 hy
 exact F.cell x y hx
theorem Flat.azi(F:Flat z enc)(l:List α):(ai enc l).all AV.aK=true:=zr.2 (F.cells l)
theorem Flat.arK(F:Flat z enc)(l:List α):AV.fQ (ai enc l)=true:=by
 refine UF fun y hy=>?_
 obtain⟨x,_,hx⟩:=List.mem_flatMap.1 hy
 exact Qv (F.lits x) y hx
def iD(z:Nat)(enc:α→List AV)(c:AV)(l:List α):Prop:=(c=.nils∧l=[])∨c=.sl (ai enc l) l.length z .any
theorem iD.Fl{c:AV}{l:List α}(h:iD z enc c l):Rm c:=by
 rcases h with⟨rfl,_⟩|rfl
 ·exact wZ
 ·exact Rn _ _ _
theorem iD.cell{c:AV}{l:List α}(h:iD z enc c l):c.aK=true∧c.cells=[c]:=by
 rcases h with⟨rfl,_⟩|rfl<;>exact⟨rfl,rfl⟩
end
structure App(c:AV)(l:List AV)(len sz:Nat)(h:T ah)(nx n0:Key):Prop where
 is:(c=.nils∧l=[]∧len=0)∨(∃ b:Key,c=.slice b 0 len sz∧aa b h=some (.cells l .part)∧n0.toNat≤b.toNat∧b.toNat<nx.toNat∧l.length=len*sz)∨
  (∃ t:Key,c=.sl l len sz (.tok t)∧aa t h=some .tok∧n0.toNat≤t.toNat∧t.toNat<nx.toNat)
section
variable{c:AV}{l new:List AV}{len sz m:Nat}{h h':T ah}{nx nx' n0:Key}
theorem App.nil(sz:Nat):App .nils [] 0 sz h nx n0:=⟨.inl ⟨rfl,rfl,rfl⟩⟩
theorem App.nQ(ha:App c l len sz h nx n0)(h0:n0.toNat≤nx.toNat)(hn:new.length=m*sz)(hl:len+m≤1048576)(hc:new.all AV.aK=true) :
  ∃ c' h' nx',appendTo sz c new m h nx=.val c' h' nx'∧App c' (l++new) (len+m) sz h' nx' n0∧nx.toNat≤nx'.toNat∧(∀ b:Key,b.toNat<n0.toNat→aa b h'=aa b h)∧∀ b:Key,b.toNat<nx.toNat→(∀ B,aa b h=some B→B≠.tok∧∀ l,B≠.cells l .part)→aa b h'=aa b h:=by
 have s1:=kTSu nx
 by_cases hm:m=0
 ·subst hm
  have:new=[]:=TW (by omega)
  subst this
  rcases id ha.is with⟨rfl,rfl,rfl⟩|⟨b,rfl,hb,u6,bN,hll⟩|⟨t,rfl,ht,u6,bN⟩
  ·exact⟨.nils,h,nx,by simp,by simpa using ha,fe _,fun _ _=>rfl,fun _ _ _=>rfl⟩
  ·exact⟨.slice b 0 len sz,h,nx,by have Ur:len≤1048576:=hl;simp[hb,Ur],by simpa using ha,fe _,fun _ _=>rfl,fun _ _ _=>rfl⟩
  ·exact⟨.sl l len sz (.tok t),h,nx,by simp,by simpa using ha,fe _,fun _ _=>rfl,fun _ _ _=>rfl⟩
 ·rcases id ha.is with⟨rfl,rfl,rfl⟩|⟨b,rfl,hb,u6,bN,hll⟩|⟨t,rfl,ht,u6,bN⟩
  ·have On:m≤1048576:=by omega
   exact⟨.slice nx 0 (0+m) sz,av nx (some (.cells new .part)) h,nx.succ,by simp[hm,On],⟨.inr (.inl ⟨nx,rfl,by simp,by omega,by omega,by simpa using hn⟩)⟩,by omega,fun b hb=>az (by omega),fun b hb _=>az hb⟩
  ·cases hw:BD sz with
   |true=>
    refine⟨.slice nx 0 (len+m) sz,av nx (some (.cells (l++new) .part)) (av b none h),nx.succ,?_,⟨.inr (.inl ⟨nx,rfl,by simp,by omega,by omega,by rw[zqf,hll,hn,Nat.add_mul]⟩)⟩,by omega,fun x hx=>?_,fun x hx hk=>?_⟩
    ·simp[hl,hc,hb,hll,hm,hw]
    ·rw[az (by omega),az (by omega)]
    ·rw[az hx,bZ]
     rintro rfl
     exact(hk _ hb).2 l rfl
   |false=>
    refine⟨.sl (l++new) (len+m) sz (.tok nx),av nx (some .tok) (av b none h),nx.succ,?_,⟨.inr (.inr ⟨nx,rfl,by simp,by omega,by omega⟩)⟩,by omega,fun x hx=>?_,fun x hx hk=>?_⟩
    ·simp[hl,hc,hb,hll,hm,hw]
    ·rw[az (by omega),az (by omega)]
    ·rw[az hx,bZ]
     rintro rfl
     exact(hk _ hb).2 l rfl
  ·refine⟨.sl (l++new) (len+m) sz (.tok nx),av nx (some .tok) (av t none h),nx.succ,?_,⟨.inr (.inr ⟨nx,rfl,by simp,by omega,by omega⟩)⟩,by omega,fun x hx=>?_,fun x hx hk=>?_⟩
   ·simp[hl,hc,ht,hm]
   ·rw[az (by omega),az (by omega)]
   ·rw[az hx,bZ]
    rintro rfl
    exact(hk _ ht).1 rfl
theorem App.kN(ha:App c l len sz h nx n0)(hn:nx.toNat≤nx'.toNat)(hg:∀ b:Key,b.toNat<nx.toNat→(aa b h=some .tok∨∃ l,aa b h=some (.cells l .part))→aa b h'=aa b h):App c l len sz h' nx' n0:=by
 refine⟨?_⟩
 rcases ha.is with⟨rfl,rfl,rfl⟩|⟨b,rfl,hb,u6,bN,hll⟩|⟨t,rfl,ht,u6,bN⟩
 ·exact .inl ⟨rfl,rfl,rfl⟩
 ·exact .inr (.inl ⟨b,rfl,by rw[hg b bN (.inr ⟨_,hb⟩)];exact hb,u6,by omega,hll⟩)
 ·exact .inr (.inr ⟨t,rfl,by rw[hg t bN (.inl ht)];exact ht,u6,by omega⟩)
theorem App.ext(ha:App c l len sz h nx n0)(e:Ext h nx h' nx'):App c l len sz h' nx' n0:=ha.kN e.n fun b hb _=>e.g b hb
theorem App.cell(ha:App c l len sz h nx n0):c.aK=true∧c.cells=[c]:=by
 rcases ha.is with⟨rfl,rfl,rfl⟩|⟨b,rfl,_⟩|⟨t,rfl,_⟩<;>exact⟨rfl,rfl⟩
theorem App.set{k:Key}{B:Option ah}(ha:App c l len sz h nx n0)(hk:∀ B,aa k h=some B→B≠.tok∧∀ l,B≠.cells l .part):App c l len sz (av k B h) nx n0:=
 ha.kN (fe _) fun b _ hx=>bZ _ _ _ _ fun e=>by
  subst e
  rcases hx with hx|⟨l,hx⟩
  ·exact(hk _ hx).1 rfl
  ·exact(hk _ hx).2 _ rfl
theorem App.O0(ha:App c l len sz h nx n0)(orc:gD){tm:T AV}{k:Key}(hk:aa k tm=some c):lightOp orc (.lenL (.t k)) tm h=some (I len):=by
 rcases ha.is with⟨rfl,rfl,rfl⟩|⟨b,rfl,_⟩|⟨t,rfl,_⟩<;>simp[hk]
theorem App.ajV(ha:App c l len sz h nx n0)(hs:∀ y∈l,Rm y)(n:Nat) :
  ((aY (n+1) c h).1=.nils∧l=[]∧len=0∨(aY (n+1) c h).1=.sl l len sz .any)∧∀ b:Key,b.toNat<n0.toNat→aa b (aY (n+1) c h).2=aa b h:=by
 rcases ha.is with⟨rfl,rfl,rfl⟩|⟨b,rfl,hb,u6,bN,hll⟩|⟨t,rfl,ht,u6,bN⟩
 ·exact⟨.inl ⟨rfl,rfl,rfl⟩,fun _ _=>rfl⟩
 ·rw[Fp hb hll hs]
  exact⟨.inr rfl,fun x hx=>az (by omega)⟩
 ·exact⟨.inr rfl,fun _ _=>rfl⟩
theorem App.I1{α:Type}{enc:α→List AV}(F:Flat sz enc){us:List α}(ha:App c (ai enc us) us.length sz h nx n0)(n:Nat) :
  iD sz enc (aY (n+1) c h).1 us∧∀ b:Key,b.toNat<n0.toNat→aa b (aY (n+1) c h).2=aa b h:=by
 obtain⟨h1,h2⟩:=ha.ajV (F.HD us) n
 refine⟨?_,h2⟩
 rcases h1 with⟨e,_,e3⟩|e
 ·exact .inl ⟨e,TW e3⟩
 ·exact .inr e
theorem App.BG{α:Type}{enc:α→List AV}(F:Flat sz enc){us:List α}(ha:App c (ai enc us) us.length sz h nx n0)(h0:n0.toNat≤nx.toNat)(hl:us.length+1≤1048576)(x:α) :
  ∃ c' h' nx',appendTo sz c (enc x) 1 h nx=.val c' h' nx'∧App c' (ai enc (us ++ [x])) (us ++ [x]).length sz h' nx' n0∧nx.toNat≤nx'.toNat∧(∀ b:Key,b.toNat<n0.toNat→aa b h'=aa b h)∧∀ b:Key,b.toNat<nx.toNat→(∀ B,aa b h=some B→B≠.tok∧∀ l,B≠.cells l .part)→aa b h'=aa b h:=by
 obtain⟨c',h',nx',a,b,c,d,e⟩:=ha.nQ (new:=enc x) (m:=1) h0 (by rw[F.len,Nat.one_mul]) hl (zr.2 (F.cell x))
 exact⟨c',h',nx',a,by rw[mv,ou,zqf];exact b,c,d,e⟩
end
end Go.Sx
/-
 SX: runs on integers that are not known, as known calls. No condition.
-/
namespace Go.Sx
open Go.RowKit
mutual
def AV.sub(ρ:Nat→Int):AV→AV
 |.int k s=>.int k (.lit (s.den ρ))
 |.iface t v=>.iface t (AV.sub ρ v)
 |.agg l=>.agg (AV.gw ρ l)
 |.tuple l=>.tuple (AV.gw ρ l)
 |.sl l n z f=>.sl (AV.gw ρ l) n z f
 |.cref l=>.cref (AV.gw ρ l)
 |.fn f a c=>.fn f (AV.gw ρ a) (AV.gw ρ c)
 |a=>a
def AV.gw(ρ:Nat→Int):List AV→List AV
 | []=>[]
 |a ::l=>AV.sub ρ a ::AV.gw ρ l
end
theorem AV.FD(ρ:Nat→Int):∀ l:List AV,(AV.gw ρ l).length=l.length
 | []=>rfl
 |_ ::l=>by simp only[AV.gw,zqi,AV.FD ρ l]
section
variable{ρ ρ':Nat→Int}{μ:Mu}
mutual
theorem aC.sub:∀ {a:AV} {v:Value},aC ρ μ a v→aC ρ' μ (a.sub ρ) v
 |_,_,.bool b=>.bool b
 |_,_,.int k s n h=>.int k _ n h
 |_,_,.str n c s h h'=>.str n c s h h'
 |_,_,.ptr b off l a h ha=>.ptr b off l a h ha
 |_,_,.nilp=>.nilp
 |_,_,.slice b off len sz cap l a h hc hl ha=>.slice b off len sz cap l a h hc hl ha
 |_,_,.nils=>.nils
 |_,_,.map b l r h hr=>.map b l r h hr
 |_,_,.nilm=>.nilm
 |_,_,.fn f first cap vs ws h h'=>.fn f _ _ vs ws (al.sub h) (al.sub h')
 |_,_,.yld b l r h hr=>.yld b l r h hr
 |_,_,.nilf=>.nilf
 |_,_,.iface t a v h=>.iface t _ v (aC.sub h)
 |_,_,.nili=>.nili
 |_,_,.agg l vs h=>.agg _ vs (al.sub h)
 |_,_,.tuple l vs h=>.tuple _ vs (al.sub h)
 |_,_,.sl l len sz fl cap c o a vs h hn hl ha hf hg=>.sl _ len sz fl cap c o a vs (al.sub h) (by rw[AV.FD];exact hn) hl ha hf hg
 |_,_,.cref l c o a vs h ha hf=>.cref _ c o a vs (al.sub h) ha hf
theorem al.sub:∀ {l:List AV} {vs:List Value},al ρ μ l vs→al ρ' μ (AV.gw ρ l) vs
 |_,_,.nil=>.nil
 |_,_,.cons a l v vs h h'=>.cons _ _ v vs (aC.sub h) (al.sub h')
end
mutual
theorem aC.zT:∀ (a:AV) {v:Value},aC ρ' μ (a.sub ρ) v→aC ρ μ a v
 |.bool b,_,h=>by cases h;exact .bool b
 |.int k s,_,h=>by cases h with|int _ _ n h=>exact .int k s n h
 |.str n c,_,h=>by cases h with|str _ _ s h h'=>exact .str n c s h h'
 |.ptr b off,_,h=>by cases h with|ptr _ _ l a h ha=>exact .ptr b off l a h ha
 |.nilp,_,h=>by cases h;exact .nilp
 |.slice b off len sz,_,h=>by cases h with|slice _ _ _ _ cap l a h hc hl ha=>exact .slice b off len sz cap l a h hc hl ha
 |.nils,_,h=>by cases h;exact .nils
 |.map b,_,h=>by cases h with|map _ l r h hr=>exact .map b l r h hr
 |.nilm,_,h=>by cases h;exact .nilm
 |.fn f a c,_,h=>by cases h with|fn _ _ _ vs ws h h'=>exact .fn f a c vs ws (al.zT a h) (al.zT c h')
 |.yld b,_,h=>by cases h with|yld _ l r h hr=>exact .yld b l r h hr
 |.nilf,_,h=>by cases h;exact .nilf
 |.iface t a,_,h=>by cases h with|iface _ _ v h=>exact .iface t a v (aC.zT a h)
 |.nili,_,h=>by cases h;exact .nili
 |.agg l,_,h=>by cases h with|agg _ vs h=>exact .agg l vs (al.zT l h)
 |.tuple l,_,h=>by cases h with|tuple _ vs h=>exact .tuple l vs (al.zT l h)
 |.sl l len sz fl,_,h=>by cases h with|sl _ _ _ _ cap c o a vs h hn hl ha hf hg=>exact .sl l len sz fl cap c o a vs (al.zT l h) (by rw[AV.FD] at hn;exact hn) hl ha hf hg
 |.cref l,_,h=>by cases h with|cref _ c o a vs h ha hf=>exact .cref l c o a vs (al.zT l h) ha hf
theorem al.zT:∀ (l:List AV) {vs:List Value},al ρ' μ (AV.gw ρ l) vs→al ρ μ l vs
 | [],_,h=>by cases h;exact .nil
 |a ::l,_,h=>by cases h with|cons _ _ v vs h h'=>exact .cons a l v vs (aC.zT a h) (al.zT l h')
end
end
noncomputable def M9{α:Type}:List Key→T α→T α
 | [],_=>.nil
 |k ::r,t=>match aa k t with
  |some v=>sx k (some v) (M9 r t) fun t=>t
  |none=>M9 r t
theorem CZ{α:Type}(t:T α):∀ (ks:List Key) {b:Key} {v:α},aa b (M9 ks t)=some v→aa b t=some v
 | [],b,v,h=>by simp[M9] at h
 |k ::r,b,v,h=>by
  unfold M9 at h
  cases hk:aa k t with
  |none=>rw[hk] at h;exact CZ t r h
  |some x=>
   rw[hk] at h
   simp only[sTCe] at h
   by_cases e:b=k
   ·subst e;rw[gTSm] at h;rw[hk];exact h
   ·rw[bZ _ _ _ _ e] at h;exact CZ t r h
noncomputable def wc(ss ks:List Key):SR→Option AM
 |.next ⟨fr,[],h,nx⟩=>match fr.todo with
  |.inLoop _ ::_=>some ⟨{fr with tm:=M9 ss fr.tm},[],M9 ks h,nx⟩
  |_=>none
 |_=>none
inductive Fin(C:dm)(f:Nat)(v:AV):AM→Prop
 |done {m:AM} (n:Nat) {H:T ah} {nx:Key} (h:qh C n m=.done f v H nx):Fin C f v m
 |seg {m m':AM} (n:Nat) (ss ks:List Key) (h:wc ss ks (qh C n m)=some m') (h':Fin C f v m'):Fin C f v m
section
variable{P:Program}{ρ:Nat→Int}{C:dm}{w0:W0}{μ0:Mu}{rest:List Frame}
theorem ajY{r:SR}{ss ks:List Key}{m':AM}(h:wc ss ks r=some m'):∃ m,r=.next m∧∀ {fr:Frame} {cs:List Frame} {w:World},yz P ρ C.orc w0 μ0 m fr cs w→cs=[]∧yz P ρ C.orc w0 μ0 m' fr [] w:=by
 unfold wc at h
 split at h
 ·rename_i fr h0 nx
  split at h
  ·rename_i c k ht
   simp only[cS] at h
   subst h
   refine⟨_,rfl,?_⟩
   intro Hx cs w hm
   obtain⟨μ,G,h1,h2,h3,h4,h5,h6⟩:=hm.ex
   have Hy:cs=[]:=by
    cases cs with
    |nil=>rfl
    |cons x l=>exact h5.elim
   subst Hy
   refine⟨rfl,⟨μ,G,h1,h2,fun b B hb=>h3 b B (CZ _ _ hb),?_,trivial,?_⟩⟩
   ·cases h4 with
    |run nt hb hm1 On hT=>
     have EP:fr.todo=_:=ht
     simp only[ht] at hT
     generalize hK:Hx.todo=K at hT
     generalize hTm:Hx.tmps=TM at hT
     generalize hL:dn.inLoop c ::k=LL at hT
     cases hT with
     |plain _ _ _ _ hr htr=>
      refine .run nt ⟨hb.fn,hb.fnr,hb.dfs,hb.kind,hb.sy,hb.rd⟩ hm1 On ?_
      rw[hK,hTm]
      show TN P ρ C.orc μ G _ _ nt fr.todo _ _ _
      rw[ht,hL]
      exact .plain _ _ _ _ hr ⟨htr.1,fun k a ha=>htr.2 k a (CZ _ _ ha)⟩
     |ready=>cases hL
     |back=>cases hL
    |ret nt hb hm1 On h3 hT=>
     rcases h3 with h3|⟨_,h3⟩<;>(rw[ht] at h3;cases h3)
    |pan nt hb v u r hm1 On hv h3 hT=>rw[ht] at h3;cases h3
   ·simp[bk,pk,ht]
  ·cases h
 ·cases h
theorem Fin.sound(X:Ctx P ρ w0 C){f:Nat}{v:AV}{m:AM}(hf:Fin C f v m):∀ {fr:Frame} {w:World},yz P ρ C.orc w0 μ0 m fr [] w→
  ∃ ej w' μ G u H nx,Steps P (lone fr rest w) (lone ej rest w')∧ej.fn=f∧ej.leaving P w' (.returned u)∧aC ρ μ v u∧μ0.le μ∧aP P ρ w0 μ G (Key.toNat nx) w'∧HSub H G:=by
 induction hf with
 |done n h=>
  intro fr w hm
  have hg:=uk (rest:=rest) X n hm
  rw[h] at hg
  obtain⟨ej,w',μ,G,u,s⟩:=hg
  exact⟨ej,w',μ,G,u,_,_,s⟩
 |seg n ss ks h h' ih=>
  intro fr w hm
  have hg:=uk (rest:=rest) X n hm
  obtain⟨m1,e,hk⟩:=ajY (P:=P) (ρ:=ρ) (C:=C) (w0:=w0) (μ0:=μ0) h
  rw[e] at hg
  obtain⟨fr1,cs1,w1,s1,h2⟩:=hg
  obtain⟨rfl,On⟩:=hk h2
  obtain⟨ej,w',μ,G,u,H,nx,s,r⟩:=ih On
  exact⟨ej,w',μ,G,u,H,nx,s1.trans s,r⟩
theorem aqd(X:Ctx P ρ w0 C){f:Nat}{p:fO}{w:World}{G0:Key→Option ah}{H:T ah}{nx:Key}(hp:iI P f=some p){l:List AV}{args:Array Value}(hM:aP P ρ w0 μ0 G0 nx.toNat w)(hH:HSub H G0)(hl:al ρ μ0 l args.toList){v:AV}
  (JZ:Fin C f v ⟨ae f p l,[],H,nx⟩):Calls P f args w fun e w'=>∃ u μ G nx',e=.returned u∧aC ρ μ v u∧μ0.le μ∧aP P ρ w0 μ G (Key.toNat nx') w':=by
 intro cs
 have hm:yz P ρ C.orc w0 μ0 ⟨ae f p l,[],H,nx⟩ (Frame.enter P f args .normal) [] w:=
  ⟨μ0,G0,μ0.le_refl,hM,hH,tB hp hl false,trivial,by simp[bk,pk,ae]⟩
 obtain⟨ej,w',μ,G,u,H2,aI,s1,s2,s3,s4,s5,s6,s7⟩:=JZ.sound (rest:=cs) X hm
 exact⟨.returned u,w',ej,⟨u,μ,G,aI,rfl,s4,s5,s6⟩,s1,s2,s3⟩
end
section
variable{P:Program}{ρ ρ':Nat→Int}{aH:T ah}
theorem awr{C:dm}(hX:∀ w0:W0,kZ P aH w0→Ctx P ρ' w0 C){f:Nat}{p:fO}(hp:iI P f=some p){l:List AV}(hl:AV.HI l=true){v:AV}(hv:v.kf=true){nx0:Key}(hn:P.globals.size≤nx0.toNat)
  (ch:Fin C f v ⟨ae f p l,[],aH,nx0⟩):∀ w0:W0,kZ P aH w0→∀ H nx,LA P ρ w0 f (AV.gw ρ' l) H nx (v.sub ρ') H nx:=by
 intro w0 hL H nx args w μ G hM hH cy
 have hL1:kZ P aH ⟨w,μ.fz⟩:=hL.ayn hM.below hM.zle
 have hM1:=Io (ρ:=ρ') (w0:=⟨w,μ.fz⟩) hL1 hM.TV (nx:=nx0.toNat) hn
 have ha1:al ρ' (gMu P aH μ.fz) l args.toList:=al.kf (μ:=μ) (μ':=gMu P aH μ.fz) (fun _ _ _ h=>h) (al.zT l cy) hl
 refine(aqd (hX _ hL1) hp hM1 (fun _ _ h=>h) ha1 ch).mono ?_
 rintro e w' ⟨u,μ1,G1,aI,rfl,hvr,hle,hM2⟩
 have hb:Below w.heap.size w w':=hM2.below
 have Ol:∀ c i x,μ1.fz c i=some x→w.heap.size≤c∨μ.fz c i=some x:=hM2.fzo
 have JA:μ.le ⟨μ.loc,μ1.fz⟩:=⟨fun _ _ h=>h,fun c i x h=>hle.f c i x h⟩
 refine⟨u,⟨μ.loc,μ1.fz⟩,G,rfl,aC.sub (aC.kf (μ:=μ1) (μ':=⟨μ.loc,μ1.fz⟩) (fun _ _ _ h=>h) hvr hv),JA,?_,hH,⟨fun _ _ _=>rfl,fun _ _=>rfl,fun _ h _=>h,fe _⟩⟩
 have UN:∀ b l,μ b=some l→w'.heap[l.c]?=w.heap[l.c]?:=fun b l h=>hb.block _ (hM.wb b l h)
 refine⟨?_,hM.sep,?_,hM.own,hM.MJ,hM.new,hM.below.trans (hb.mono hM.below.size),hM2.TV,?_,?_,?_,?_,Nat.le_trans hM.dr hM2.dr⟩
 ·intro b B hg
  obtain⟨l,o,h1,h2,h3⟩:=hM.nM b B hg
  exact⟨l,o,h1,by rw[UN b l h1];exact h2,h3.mono JA⟩
 ·intro b l h
  exact LO (hM.wb b l h) hb.size
 ·intro b B l n hg hm u6 i hi
  show μ1.fz l.c i=none
  cases h:μ1.fz l.c i with
  |none=>rfl
  |some x=>
   rcases Ol _ _ _ h with h'|h'
   ·exact absurd (hM.wb b l hm) (Nat.not_lt.2 h')
   ·rw[hM.fzf b B l n hg hm u6 i hi] at h';cases h'
 ·intro c i x h;exact hle.f c i x (hM.zle c i x h)
 ·intro c i x h
  rcases Ol c i x h with h'|h'
  ·exact .inl (Nat.le_trans hM.below.size h')
  ·exact hM.fzo c i x h'
 ·intro b L l hg hm
  rcases hM.rof b L l hg hm with h|h
  ·exact .inl h
  ·refine .inr fun arr e f i x ha hx=>hle.f _ _ _ (h arr e f i x ?_ hx)
   rw[← UN b l hm];exact ha
inductive DT where
 |leaf (v:AV)
 |ask (op:BinOp) (a b:SI) (t e:DT)
def holds(ρ:Nat→Int)(op:BinOp)(a b:SI):Bool:=match fg op (a.den ρ) (b.den ρ) with
 |some r=>r
 |none=>false
def DT.val(ρ:Nat→Int):DT→AV
 |.leaf v=>v.sub ρ
 |.ask op a b t e=>match holds ρ op a b with
  |true=>t.val ρ
  |false=>e.val ρ
noncomputable def DT.check(C:gD→dm)(f:Nat)(n:Nat)(m:AM):DT→gD→Bool
 |.leaf v,o=>(match qh (C o) n m with
  |.done g u _ _=>Nat.beq g f&&AV.beq u v&&u.kf
  |_=>false)
 |.ask op a b t e,o=>isCmp op&&DT.check C f n m t ((op,a,b,true) ::o)&&DT.check C f n m e ((op,a,b,false) ::o)
mutual
theorem BF{ρ:Nat→Int}:∀ (a:AV),AV.lits a=true→a.sub ρ=a
 |.bool _,_=>rfl
 |.int _ (.lit _),_=>rfl
 |.int _ (.var _),h=>by simp[AV.lits] at h
 |.int _ (.bin _ _ _ _),h=>by simp[AV.lits] at h
 |.str _ _,_=>rfl
 |.ptr _ _,_=>rfl
 |.nilp,_=>rfl
 |.slice _ _ _ _,_=>rfl
 |.nils,_=>rfl
 |.map _,_=>rfl
 |.nilm,_=>rfl
 |.fn f a c,h=>by simp only[AV.lits,iE] at h;simp only[AV.sub,eg a h.1,eg c h.2]
 |.yld _,_=>rfl
 |.nilf,_=>rfl
 |.iface t v,h=>by simp only[AV.lits] at h;simp only[AV.sub,BF v h]
 |.nili,_=>rfl
 |.agg l,h=>by simp only[AV.lits] at h;simp only[AV.sub,eg l h]
 |.tuple l,h=>by simp only[AV.lits] at h;simp only[AV.sub,eg l h]
 |.sl l _ _ _,h=>by simp only[AV.lits] at h;simp only[AV.sub,eg l h]
 |.cref l,h=>by simp only[AV.lits] at h;simp only[AV.sub,eg l h]
theorem eg{ρ:Nat→Int}:∀ (l:List AV),AV.fQ l=true→AV.gw ρ l=l
 | [],_=>rfl
 |a ::l,h=>by simp only[AV.fQ,iE] at h;simp only[AV.gw,BF a h.1,eg l h.2]
end
def yv(P:Program)(aH:T ah)(f:Nat)(l:List AV)(v:AV):Prop:=∀ (ρ:Nat→Int) (w0:W0),kZ P aH w0→∀ H nx,LA P ρ w0 f l H nx v H nx
abbrev Es:=List (List AV×AV)
def aZ(P:Program)(aH:T ah)(f:Nat):Es→Prop
 | []=>True
 |(m,v) ::r=>yv P aH f m v∧aZ P aH f r
def aKd:List AV→Key
 | [_,.int _ (.lit (.ofNat n))]=>Key.eA 12 n
 | [.int _ (.lit (.ofNat n))]=>Key.eA 12 n
 | [_,.str _ c]=>Key.eA 12 (Nat.mod c 251)
 |_=>.z
def DW:T Es→Es
 |.nil=>[]
 |.node v l r=>(match v with|some e=>e|none=>[])++(DW l++DW r)
def one(es:Es):T Es:=.node (some es) .nil .nil
def AU(P:Program)(aH:T ah)(f:Nat)(t:T Es):Prop:=∀ k es,aa k t=some es→aZ P aH f es
def kX(P:Program)(aH:T ah):List (Nat×T Es)→Prop
 | []=>True
 |(f,t) ::r=>((∃ p,iI P f=some p)∧AU P aH f t)∧kX P aH r
def amP:Es→List AV→Option AV
 | [],_=>none
 |(m,v) ::r,l=>bif AV.C6 l m then some v else amP r l
noncomputable def aws:List (Nat×T Es)→Nat→List AV→T ah→Key→Option (AV×T ah×Key)
 | [],_,_,_,_=>none
 |(g,t) ::r,f,l,h,nx=>bif Nat.beq f g then(match aa (aKd l) t with
  |some es=>match amP es l with
   |some v=>some (v,h,nx)
   |none=>none
  |none=>none) else aws r f l h nx
theorem aZ.left{f:Nat}:∀ {a b:Es},aZ P aH f (a++b)→aZ P aH f a
 | [],_,_=>trivial
 |(_,_) ::_,_,h=>⟨h.1,aZ.left h.2⟩
theorem aZ.right{f:Nat}:∀ {a b:Es},aZ P aH f (a++b)→aZ P aH f b
 | [],_,h=>h
 |(_,_) ::_,_,h=>aZ.right h.2
theorem AU.of{f:Nat}:∀ {t:T Es},aZ P aH f (DW t)→AU P aH f t
 |.nil,_=>fun k es h=>by cases k<;>cases h
 |.node v l r,h=>fun k es e=>by
  unfold DW at h
  cases k with
  |z=>
   have e:v=some es:=e
   subst e
   exact aZ.left h
  |o k=>exact AU.of (aZ.left (aZ.right h)) k es e
  |e k=>exact AU.of (aZ.right (aZ.right h)) k es e
theorem AU.eq{f:Nat}{t:T Es}{es:Es}(h:aZ P aH f es)(e:DW t=es):AU P aH f t:=.of (by rw[e];exact h)
theorem AU.one{f:Nat}{es:Es}(h:aZ P aH f es):AU P aH f (one es):=.of (by
 show aZ P aH f (es++([] ++ []))
 rw[List.append_nil,List.append_nil];exact h)
theorem aZ.app{f:Nat}:∀ {a b:Es},aZ P aH f a→aZ P aH f b→aZ P aH f (a++b)
 | [],_,_,h=>h
 |(_,_) ::_,_,h,k=>⟨h.1,h.2.app k⟩
theorem UO{f:Nat}:∀ {es:Es},aZ P aH f es→∀ {l:List AV} {v:AV},amP es l=some v→yv P aH f l v
 | [],_,_,_,e=>by cases e
 |(m,u) ::r,h,l,v,e=>by
  unfold amP at e
  cases hb:AV.C6 l m with
  |true=>
   rw[hb] at e
   simp only[cond_true,cS] at e
   rw[AV.fU _ _ hb,← e];exact h.1
  |false=>rw[hb] at e;exact UO h.2 e
theorem Si:∀ {tab:List (Nat×T Es)},kX P aH tab→∀ {f:Nat} {l:List AV} {h:T ah} {nx:Key} {r:AV×T ah×Key},aws tab f l h nx=some r→(∃ p,iI P f=some p)∧∃ v,yv P aH f l v∧r=(v,h,nx)
 | [],_,_,_,_,_,_,e=>by cases e
 |(g,es) ::t,ht,f,l,h,nx,r,e=>by
  unfold aws at e
  cases hb:Nat.beq f g with
  |true=>
   rw[hb] at e
   have hb:=ml hb
   subst hb
   simp only[cond_true] at e
   split at e
   ·rename_i es2 h2
    split at e
    ·rename_i v hv
     simp only[cS] at e
     exact⟨ht.1.1,v,UO (ht.1.2 _ _ h2) hv,e.symm⟩
    ·cases e
   ·cases e
  |false=>rw[hb] at e;exact Si ht.2 e
noncomputable def aEb(fns:T fO)(raw mN:Nat→Bool)(tab:List (Nat×T Es))(o:gD):dm:=⟨o,fns,aws tab,raw,mN⟩
theorem aKe{fns:T fO}{UP:List (Nat×fO)}(hb:fns=Cc UP)(ha:GR P UP)(aAF:P.follows .mixedOrders=true){tab:List (Nat×T Es)}(ht:kX P aH tab)(raw mN:Nat→Bool){o:gD}(ho:cY ρ o)(w0:W0)(hL:kZ P aH w0):Ctx P ρ w0 (aEb fns raw mN tab o):=by
 refine⟨?_,?_,ho,fun f p h=>UQ hb ha (tab:=[]) h,aAF⟩
 ·intro f l H nx a H' nx' hs
  obtain⟨_,v,h1,h2⟩:=Si ht hs
  cases h2
  exact h1 ρ w0 hL H nx
 ·intro f l H nx r hs
  obtain⟨⟨p,hp⟩,_⟩:=Si ht hs
  obtain⟨fn,c,f1,f2,f3,_⟩:=wX hp
  exact⟨fn,f1,by rw[f2];rfl,f3⟩
theorem amQ{C:dm}(hX:∀ (ρ:Nat→Int) (w0:W0),kZ P aH w0→Ctx P ρ w0 C){f:Nat}{p:fO}(hp:iI P f=some p){l:List AV}{v:AV}(hl:(AV.fQ l&&AV.HI l&&AV.lits v&&v.kf)=true){nx0:Key}(hn:P.globals.size≤nx0.toNat)
  (hf:Fin C f v ⟨ae f p l,[],aH,nx0⟩):yv P aH f l v:=by
 intro ρ w0 hL H nx
 simp only[iE] at hl
 have:=awr (ρ:=ρ) (ρ':=ρ) (hX ρ) hp hl.1.1.2 hl.2 hn hf w0 hL H nx
 rw[eg l hl.1.1.1,BF v hl.1.2] at this
 exact this
def apH(f:Nat)(v:AV):SR→Bool
 |.done g u _ _=>Nat.beq g f&&AV.beq u v
 |_=>false
theorem wT{f:Nat}{v:AV}{C:dm}{n:Nat}{m:AM}(h:apH f v (qh C n m)=true):Fin C f v m:=by
 cases hr:qh C n m with
 |done g u H nx=>
  rw[hr] at h
  simp only[apH,iE] at h
  have h1:=ml h.1
  have h2:=AV.eq_of_beq _ _ h.2
  subst h1 h2
  exact .done n hr
 |next m=>rw[hr] at h;cases h
 |alt l=>rw[hr] at h;cases h
 |pan v h' nx=>rw[hr] at h;cases h
 |bad n m=>rw[hr] at h;cases h
noncomputable def awt(C:dm)(n f:Nat)(p:fO)(aH:T ah)(nx0:Key):Es→Bool
 | []=>true
 |(m,v) ::r=>AV.fQ m&&AV.HI m&&AV.lits v&&v.kf&&apH f v (qh C n ⟨ae f p m,[],aH,nx0⟩)&&awt C n f p aH nx0 r
theorem amR{C:dm}(hX:∀ (ρ:Nat→Int) (w0:W0),kZ P aH w0→Ctx P ρ w0 C){f:Nat}{p:fO}(hp:iI P f=some p){n:Nat}{nx0:Key}(hn:P.globals.size≤nx0.toNat):∀ {es:Es},awt C n f p aH nx0 es=true→aZ P aH f es
 | [],_=>trivial
 |(m,v) ::r,h=>by
  unfold awt at h
  rw[iE,iE] at h
  exact⟨amQ hX hp h.1.1 hn (wT h.1.2),amR hX hp hn h.2⟩
end
end Go.Sx
