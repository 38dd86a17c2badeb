/- A part of the proof. No condition. -/
import Derived.Test.YtecbfpngkfdkoaaGreatP7
set_option linter.unusedSimpArgs false
set_option linter.unusedVariables false
set_option linter.unusedSectionVars false
namespace Go.Sx
open Go
theorem aAI{a b:Key}(h:a.toNat≠b.toNat):a≠b:=fun e=>h (by rw[e])
theorem pw{a b:Key}(h:a.toNat≠b.toNat)(v:Option ag)(t:T ag):aa a (au b v t)=aa a t:=bG _ _ _ _ (aAI h)
variable(n:Key)(v:Option ag)(t:T ag)
@[simp] theorem aJS:aa n (au n.succ v t)=aa n t:=pw (by simp;try omega) v t
@[simp] theorem aJT:aa n (au n.succ.succ v t)=aa n t:=pw (by simp;try omega) v t
@[simp] theorem aJU:aa n (au n.succ.succ.succ v t)=aa n t:=pw (by simp;try omega) v t
@[simp] theorem aJV:aa n (au n.succ.succ.succ.succ v t)=aa n t:=pw (by simp;try omega) v t
@[simp] theorem aJW:aa n (au n.succ.succ.succ.succ.succ v t)=aa n t:=pw (by simp;try omega) v t
@[simp] theorem aJX:aa n (au n.succ.succ.succ.succ.succ.succ v t)=aa n t:=pw (by simp;try omega) v t
@[simp] theorem aJY:aa n (au n.succ.succ.succ.succ.succ.succ.succ v t)=aa n t:=pw (by simp;try omega) v t
@[simp] theorem aJZ:aa n.succ (au n v t)=aa n.succ t:=pw (by simp;try omega) v t
@[simp] theorem aJ0:aa n.succ (au n.succ.succ v t)=aa n.succ t:=pw (by simp;try omega) v t
@[simp] theorem aJ1:aa n.succ (au n.succ.succ.succ v t)=aa n.succ t:=pw (by simp;try omega) v t
@[simp] theorem aJ2:aa n.succ (au n.succ.succ.succ.succ v t)=aa n.succ t:=pw (by simp;try omega) v t
@[simp] theorem aJ3:aa n.succ (au n.succ.succ.succ.succ.succ v t)=aa n.succ t:=pw (by simp;try omega) v t
@[simp] theorem aJ4:aa n.succ (au n.succ.succ.succ.succ.succ.succ v t)=aa n.succ t:=pw (by simp;try omega) v t
@[simp] theorem aJ5:aa n.succ (au n.succ.succ.succ.succ.succ.succ.succ v t)=aa n.succ t:=pw (by simp;try omega) v t
@[simp] theorem aJ6:aa n.succ.succ (au n v t)=aa n.succ.succ t:=pw (by simp;try omega) v t
@[simp] theorem aJ7:aa n.succ.succ (au n.succ v t)=aa n.succ.succ t:=pw (by simp;try omega) v t
@[simp] theorem aJ8:aa n.succ.succ (au n.succ.succ.succ v t)=aa n.succ.succ t:=pw (by simp;try omega) v t
@[simp] theorem aJ9:aa n.succ.succ (au n.succ.succ.succ.succ v t)=aa n.succ.succ t:=pw (by simp;try omega) v t
@[simp] theorem aKa:aa n.succ.succ (au n.succ.succ.succ.succ.succ v t)=aa n.succ.succ t:=pw (by simp;try omega) v t
@[simp] theorem aKb:aa n.succ.succ (au n.succ.succ.succ.succ.succ.succ v t)=aa n.succ.succ t:=pw (by simp;try omega) v t
@[simp] theorem aKc:aa n.succ.succ (au n.succ.succ.succ.succ.succ.succ.succ v t)=aa n.succ.succ t:=pw (by simp;try omega) v t
@[simp] theorem aKd:aa n.succ.succ.succ (au n v t)=aa n.succ.succ.succ t:=pw (by simp;try omega) v t
@[simp] theorem aKe:aa n.succ.succ.succ (au n.succ v t)=aa n.succ.succ.succ t:=pw (by simp;try omega) v t
@[simp] theorem aKf:aa n.succ.succ.succ (au n.succ.succ v t)=aa n.succ.succ.succ t:=pw (by simp;try omega) v t
@[simp] theorem aKg:aa n.succ.succ.succ (au n.succ.succ.succ.succ v t)=aa n.succ.succ.succ t:=pw (by simp;try omega) v t
@[simp] theorem aKh:aa n.succ.succ.succ (au n.succ.succ.succ.succ.succ v t)=aa n.succ.succ.succ t:=pw (by simp;try omega) v t
@[simp] theorem aKi:aa n.succ.succ.succ (au n.succ.succ.succ.succ.succ.succ v t)=aa n.succ.succ.succ t:=pw (by simp;try omega) v t
@[simp] theorem aKj:aa n.succ.succ.succ (au n.succ.succ.succ.succ.succ.succ.succ v t)=aa n.succ.succ.succ t:=pw (by simp;try omega) v t
@[simp] theorem aKk:aa n.succ.succ.succ.succ (au n v t)=aa n.succ.succ.succ.succ t:=pw (by simp;try omega) v t
@[simp] theorem aKl:aa n.succ.succ.succ.succ (au n.succ v t)=aa n.succ.succ.succ.succ t:=pw (by simp;try omega) v t
@[simp] theorem aKm:aa n.succ.succ.succ.succ (au n.succ.succ v t)=aa n.succ.succ.succ.succ t:=pw (by simp;try omega) v t
@[simp] theorem aKn:aa n.succ.succ.succ.succ (au n.succ.succ.succ v t)=aa n.succ.succ.succ.succ t:=pw (by simp;try omega) v t
@[simp] theorem aKo:aa n.succ.succ.succ.succ (au n.succ.succ.succ.succ.succ v t)=aa n.succ.succ.succ.succ t:=pw (by simp;try omega) v t
@[simp] theorem aKp:aa n.succ.succ.succ.succ (au n.succ.succ.succ.succ.succ.succ v t)=aa n.succ.succ.succ.succ t:=pw (by simp;try omega) v t
@[simp] theorem aKq:aa n.succ.succ.succ.succ (au n.succ.succ.succ.succ.succ.succ.succ v t)=aa n.succ.succ.succ.succ t:=pw (by simp;try omega) v t
@[simp] theorem aKr:aa n.succ.succ.succ.succ.succ (au n v t)=aa n.succ.succ.succ.succ.succ t:=pw (by simp;try omega) v t
@[simp] theorem aKs:aa n.succ.succ.succ.succ.succ (au n.succ v t)=aa n.succ.succ.succ.succ.succ t:=pw (by simp;try omega) v t
@[simp] theorem aKt:aa n.succ.succ.succ.succ.succ (au n.succ.succ v t)=aa n.succ.succ.succ.succ.succ t:=pw (by simp;try omega) v t
@[simp] theorem aKu:aa n.succ.succ.succ.succ.succ (au n.succ.succ.succ v t)=aa n.succ.succ.succ.succ.succ t:=pw (by simp;try omega) v t
@[simp] theorem aKv:aa n.succ.succ.succ.succ.succ (au n.succ.succ.succ.succ v t)=aa n.succ.succ.succ.succ.succ t:=pw (by simp;try omega) v t
@[simp] theorem aKw:aa n.succ.succ.succ.succ.succ (au n.succ.succ.succ.succ.succ.succ v t)=aa n.succ.succ.succ.succ.succ t:=pw (by simp;try omega) v t
@[simp] theorem aKx:aa n.succ.succ.succ.succ.succ (au n.succ.succ.succ.succ.succ.succ.succ v t)=aa n.succ.succ.succ.succ.succ t:=pw (by simp;try omega) v t
@[simp] theorem aKy:aa n.succ.succ.succ.succ.succ.succ (au n v t)=aa n.succ.succ.succ.succ.succ.succ t:=pw (by simp;try omega) v t
@[simp] theorem aKz:aa n.succ.succ.succ.succ.succ.succ (au n.succ v t)=aa n.succ.succ.succ.succ.succ.succ t:=pw (by simp;try omega) v t
@[simp] theorem aKA:aa n.succ.succ.succ.succ.succ.succ (au n.succ.succ v t)=aa n.succ.succ.succ.succ.succ.succ t:=pw (by simp;try omega) v t
@[simp] theorem aKB:aa n.succ.succ.succ.succ.succ.succ (au n.succ.succ.succ v t)=aa n.succ.succ.succ.succ.succ.succ t:=pw (by simp;try omega) v t
@[simp] theorem aKC:aa n.succ.succ.succ.succ.succ.succ (au n.succ.succ.succ.succ v t)=aa n.succ.succ.succ.succ.succ.succ t:=pw (by simp;try omega) v t
@[simp] theorem aKD:aa n.succ.succ.succ.succ.succ.succ (au n.succ.succ.succ.succ.succ v t)=aa n.succ.succ.succ.succ.succ.succ t:=pw (by simp;try omega) v t
@[simp] theorem aKE:aa n.succ.succ.succ.succ.succ.succ (au n.succ.succ.succ.succ.succ.succ.succ v t)=aa n.succ.succ.succ.succ.succ.succ t:=pw (by simp;try omega) v t
@[simp] theorem aKF:aa n.succ.succ.succ.succ.succ.succ.succ (au n v t)=aa n.succ.succ.succ.succ.succ.succ.succ t:=pw (by simp;try omega) v t
@[simp] theorem aKG:aa n.succ.succ.succ.succ.succ.succ.succ (au n.succ v t)=aa n.succ.succ.succ.succ.succ.succ.succ t:=pw (by simp;try omega) v t
@[simp] theorem aKH:aa n.succ.succ.succ.succ.succ.succ.succ (au n.succ.succ v t)=aa n.succ.succ.succ.succ.succ.succ.succ t:=pw (by simp;try omega) v t
@[simp] theorem aKI:aa n.succ.succ.succ.succ.succ.succ.succ (au n.succ.succ.succ v t)=aa n.succ.succ.succ.succ.succ.succ.succ t:=pw (by simp;try omega) v t
@[simp] theorem aKJ:aa n.succ.succ.succ.succ.succ.succ.succ (au n.succ.succ.succ.succ v t)=aa n.succ.succ.succ.succ.succ.succ.succ t:=pw (by simp;try omega) v t
@[simp] theorem aKK:aa n.succ.succ.succ.succ.succ.succ.succ (au n.succ.succ.succ.succ.succ v t)=aa n.succ.succ.succ.succ.succ.succ.succ t:=pw (by simp;try omega) v t
@[simp] theorem aKL:aa n.succ.succ.succ.succ.succ.succ.succ (au n.succ.succ.succ.succ.succ.succ v t)=aa n.succ.succ.succ.succ.succ.succ.succ t:=pw (by simp;try omega) v t
@[simp] theorem aCO(k:IntKind):nD (.int k (.lit 2))=some 2:=rfl
@[simp] theorem ayQ(k:IntKind):nD (.int k (.lit 3))=some 3:=rfl
theorem kB:∀ (k:Key),Key.beq k k=true
 |.z=>rfl
 |.o k=>by rw[Key.beq];exact kB k
 |.e k=>by rw[Key.beq];exact kB k
theorem akF(f:SF):SF.beq f f=true:=by cases f<;>simp[SF.beq,kB]
mutual
def AV.lits:AV→Bool
 |.int _ (.lit _)=>true
 |.int _ _=>false
 |.fn _ a c=>AV.gf a&&AV.gf c
 |.iface _ v=>AV.lits v
 |.agg l=>AV.gf l
 |.tuple l=>AV.gf l
 |.sl l _ _ _=>AV.gf l
 |.cref l=>AV.gf l
 |_=>true
def AV.gf:List AV→Bool
 | []=>true
 |v ::l=>AV.lits v&&AV.gf l
end
mutual
theorem beq_refl:∀ (v:AV),AV.lits v=true→AV.beq v v=true
 |.bool b,_=>by simp[AV.beq]
 |.int k (.lit n),_=>by cases k<;>simp[AV.beq,SI.beq]
 |.int k (.var n),h=>by simp[AV.lits] at h
 |.int k (.bin o k' a b),h=>by simp[AV.lits] at h
 |.str n c,_=>by simp[AV.beq]
 |.ptr b o,_=>by simp[AV.beq,kB]
 |.nilp,_=>by simp[AV.beq]
 |.slice b o l s,_=>by simp[AV.beq,kB]
 |.nils,_=>by simp[AV.beq]
 |.map b,_=>by simp[AV.beq,kB]
 |.nilm,_=>by simp[AV.beq]
 |.fn f a c,h=>by simp[AV.lits] at h;simp[AV.beq,pT a h.1,pT c h.2]
 |.yld l,_=>by simp[AV.beq,kB]
 |.nilf,_=>by simp[AV.beq]
 |.iface t v,h=>by simp[AV.lits] at h;simp[AV.beq,beq_refl v h]
 |.nili,_=>by simp[AV.beq]
 |.agg l,h=>by simp[AV.lits] at h;simp[AV.beq,pT l h]
 |.tuple l,h=>by simp[AV.lits] at h;simp[AV.beq,pT l h]
 |.sl l n z f,h=>by simp[AV.lits] at h;simp[AV.beq,akF,pT l h]
 |.cref l,h=>by simp[AV.lits] at h;simp[AV.beq,pT l h]
theorem pT:∀ (l:List AV),AV.gf l=true→AV.DI l l=true
 | [],_=>by simp[AV.DI]
 |v ::l,h=>by simp[AV.gf] at h;simp[AV.DI,beq_refl v h.1,pT l h.2]
end
theorem Vv:∀ {l:List AV},(∀ x∈l,AV.lits x=true)→AV.gf l=true
 | [],_=>by simp[AV.gf]
 |v ::l,h=>by simp[AV.gf,h v (by simp),Vv (l:=l) fun x hx=>h x (by simp[hx])]
theorem Rl:∀ {l:List AV},AV.gf l=true→∀ x∈l,AV.lits x=true
 | [],_,x,hx=>by simp at hx
 |v ::l,h,x,hx=>by
  simp[AV.gf] at h
  rcases Ga.1 hx with rfl|hx
  ·exact h.1
  ·exact Rl h.2 x hx
end Go.Sx
/-
 SG: what serves any program: functions of a machine, rows of flat cells, rows that grow. No condition.
-/
namespace Go.Sx
open Go
structure Fn(C:cD)(f:Nat)(p:fK):Prop where
 get:CC C f=some p
 off:∀ l h nx,C.sum f l h nx=none
 lS:C.lS f=false
theorem Fn.call{C:cD}{f:Nat}{p:fK}(S:Fn C f p){l:List AV}{h:T ag}{nx:Key}{R:Out→T ag→Key→Prop}(hw:eP C p.body (bB p.res R) (fV l (K 0) .nil) h nx):aI C f l h nx R:=
 aI.of (S.off _ _ _) S.get S.lS hw
abbrev S:=Nat×Nat
def Sg(c:AV):Prop:=∀ n h,aO n c h=(c,h)
theorem Si(l:List AV)(n z:Nat):Sg (.sl l n z .any):=fun k h=>by cases k<;>rfl
theorem xH:Sg .nils:=fun k h=>by cases k<;>rfl
theorem dS(k:IntKind)(n:SI):Sg (.int k n):=fun k h=>by cases k<;>rfl
theorem qK(a b:Nat):Sg (.str a b):=fun k h=>by cases k<;>rfl
theorem asi(b:Bool):Sg (.bool b):=fun k h=>by cases k<;>rfl
theorem dj{n:Nat}:∀ {l:List AV} {h:T ag},(∀ x∈l,Sg x)→bY (aO n) l h=(l,h)
 | [],_,_=>rfl
 |v ::l,h,hs=>by
  have h1:=hs v (by simp) n h
  have h2:=dj (n:=n) (l:=l) (h:=h) fun x hx=>hs x (by simp[hx])
  simp only[bY,h1,h2]
theorem Gn{n:Nat}{b:Key}{len sz:Nat}{l:List AV}{H:T ag}(hg:aa b H=some (.cells l .part))(hl:l.length=len*sz)(hs:∀ x∈l,Sg x):aO (n+1) (.slice b 0 len sz) H=(.sl l len sz .any,au b none H):=by
 simp only[aO,J8,hg,List.drop_zero]
 rw[if_pos (by omega),Pu (by omega),dj hs]
theorem Dx{n:Nat}{b:Key}{len sz:Nat}{l:List AV}{H:T ag}(hg:aa b H=some (.cells l .fix))(hl:l.length=len*sz)(hs:∀ x∈l,Sg x):aO (n+1) (.slice b 0 len sz) H=(.sl l len sz .any,au b (some (.cells l .ro)) H):=by
 simp only[aO,J8,hg,List.drop_zero]
 rw[if_pos (by omega),Pu (by omega),dj hs]
def RY(C:cD)(f:Nat)(l:List AV)(P:Out→Prop):Prop:=∀ h nx,aI C f l h nx (fun o h' nx'=>P o∧Ext h nx h' nx')
theorem RY.mono{C:cD}{f:Nat}{l:List AV}{P Q:Out→Prop}(hp:RY C f l P)(hq:∀ o,P o→Q o):RY C f l Q:=
 fun h nx=>(hp h nx).mono fun o _ _ ⟨a,b⟩=>⟨hq o a,b⟩
theorem E0(h:T ag)(nx:Key)(B:ag):Ext h nx (au nx (some B) h) nx.succ:=by
 have s1:=kTSu nx
 exact⟨by omega,fun b hb=>by rw[ax hb]⟩
theorem Ext.put{h h':T ag}{nx nx' k:Key}{B:Option ag}(e:Ext h nx h' nx')(hk:nx.toNat≤k.toNat):Ext h nx (au k B h') nx':=
 ⟨e.n,fun b hb=>by rw[ax (by omega)];exact e.g b hb⟩
theorem Ext.up{h h':T ag}{nx nx' n2:Key}(e:Ext h nx h' nx')(hn:nx'.toNat≤n2.toNat):Ext h nx h' n2:=⟨by have:=e.n;omega,e.g⟩
section
variable{α:Type}
def aj(enc:α→List AV)(l:List α):List AV:=l.flatMap enc
structure Flat(z:Nat)(enc:α→List AV):Prop where
 len:∀ x,(enc x).length=z
 D3:∀ x,∀ y∈enc x,Sg y
 cell:∀ x,∀ y∈enc x,AV.aN y=true
 lits:∀ x,AV.gf (enc x)=true
variable{z:Nat}{enc:α→List AV}
@[simp] theorem aDo(enc:α→List AV):aj enc []=[]:=rfl
theorem cY(enc:α→List AV)(x:α)(l:List α):aj enc (x ::l)=enc x++aj enc l:=rfl
theorem kU(enc:α→List AV)(l m:List α):aj enc (l++m)=aj enc l++aj enc m:=by simp[aj]
theorem pK(enc:α→List AV)(x:α):aj enc [x]=enc x:=by simp[aj]
theorem Flat.rows(F:Flat z enc):∀ (l:List α),(aj enc l).length=l.length*z
 | []=>by simp
 |x ::l=>by rw[cY,zqf,F.len,F.rows l,zqi,Nat.add_mul,Nat.one_mul,Nat.add_comm]
theorem Flat.drop(F:Flat z enc):∀ (l:List α) (i:Nat),(aj enc l).drop (i*z)=aj enc (l.drop i)
 |l,0=>by simp
 | [],i+1=>by simp
 |x ::l,i+1=>by
  have hx:(enc x).length=z:=F.len x
  have hz:z≤(i+1)*z:=Nat.le_mul_of_pos_left _ (Nat.succ_pos _)
  have he:(i+1)*z-z=i*z:=by rw[Nat.add_mul,Nat.one_mul];omega
  rw[cY,zqq,List.drop_eq_nil_of_le (by omega),List.nil_append,hx,he,F.drop l i]
  simp
theorem Flat.take(F:Flat z enc):∀ (l:List α) (i:Nat),(aj enc l).take (i*z)=aj enc (l.take i)
 |l,0=>by simp
 | [],i+1=>by simp
 |x ::l,i+1=>by
  have hx:(enc x).length=z:=F.len x
  have hz:z≤(i+1)*z:=Nat.le_mul_of_pos_left _ (Nat.succ_pos _)
  have he:(i+1)*z-z=i*z:=by rw[Nat.add_mul,Nat.one_mul];omega
  rw[cY,zqw,Pu (by omega),hx,he,F.take l i]
  simp[cY]
theorem Flat.at(F:Flat z enc){l:List α}{i:Nat}(hi:i<l.length):((aj enc l).drop (i*z)).take z=enc l[i]:=by
 rw[F.drop,zqt hi,cY,List.take_append_of_le_length (by rw[F.len];exact fh _),Pu (by rw[F.len];exact fh _)]
theorem Flat.Gp(F:Flat z enc)(l:List α):∀ y∈aj enc l,Sg y:=by
 intro y hy
 obtain⟨x,_,hx⟩:=List.mem_flatMap.1 hy
 exact F.D3 x y hx
theorem Flat.cells(F:Flat z enc)(l:List α):∀ y∈aj enc l,AV.aN y=true:=by
 intro y hy
 obtain⟨x,_,hx⟩:=List.mem_flatMap.1 hy
 exact F.cell x y hx
theorem Flat.awn(F:Flat z enc)(l:List α):(aj enc l).all AV.aN=true:=vV.2 (F.cells l)
theorem Flat.asv(F:Flat z enc)(l:List α):AV.gf (aj enc l)=true:=by
 refine Vv fun y hy=>?_
 obtain⟨x,_,hx⟩:=List.mem_flatMap.1 hy
 exact Rl (F.lits x) y hx
def jN(z:Nat)(enc:α→List AV)(c:AV)(l:List α):Prop:=(c=.nils∧l=[])∨c=.sl (aj enc l) l.length z .any
theorem jN.D3{c:AV}{l:List α}(h:jN z enc c l):Sg c:=by
 rcases h with⟨rfl,_⟩|rfl
 ·exact xH
 ·exact Si _ _ _
theorem jN.cell{c:AV}{l:List α}(h:jN z enc c l):c.aN=true∧c.cells=[c]:=by
 rcases h with⟨rfl,_⟩|rfl<;>exact⟨rfl,rfl⟩
end
structure App(c:AV)(l:List AV)(len sz:Nat)(h:T ag)(nx n0:Key):Prop where
 is:(c=.nils∧l=[]∧len=0)∨(∃ b:Key,c=.slice b 0 len sz∧aa b h=some (.cells l .part)∧n0.toNat≤b.toNat∧b.toNat<nx.toNat∧l.length=len*sz)∨
  (∃ t:Key,c=.sl l len sz (.tok t)∧aa t h=some .tok∧n0.toNat≤t.toNat∧t.toNat<nx.toNat)
section
variable{c:AV}{l new:List AV}{len sz m:Nat}{h h':T ag}{nx nx' n0:Key}
theorem App.nil(sz:Nat):App .nils [] 0 sz h nx n0:=⟨.inl ⟨rfl,rfl,rfl⟩⟩
theorem App.oY(ha:App c l len sz h nx n0)(h0:n0.toNat≤nx.toNat)(hn:new.length=m*sz)(hl:len+m≤1048576)(hc:new.all AV.aN=true) :
  ∃ c' h' nx',appendTo sz c new m h nx=.val c' h' nx'∧App c' (l++new) (len+m) sz h' nx' n0∧nx.toNat≤nx'.toNat∧(∀ b:Key,b.toNat<n0.toNat→aa b h'=aa b h)∧∀ b:Key,b.toNat<nx.toNat→(∀ B,aa b h=some B→B≠.tok∧∀ l,B≠.cells l .part)→aa b h'=aa b h:=by
 have s1:=kTSu nx
 by_cases hm:m=0
 ·subst hm
  have:new=[]:=zqr (by omega)
  subst this
  rcases id ha.is with⟨rfl,rfl,rfl⟩|⟨b,rfl,hb,ta,bO,hll⟩|⟨t,rfl,ht,ta,bO⟩
  ·exact⟨.nils,h,nx,by simp,by simpa using ha,fh _,fun _ _=>rfl,fun _ _ _=>rfl⟩
  ·exact⟨.slice b 0 len sz,h,nx,by have Vl:len≤1048576:=hl;simp[hb,Vl],by simpa using ha,fh _,fun _ _=>rfl,fun _ _ _=>rfl⟩
  ·exact⟨.sl l len sz (.tok t),h,nx,by simp,by simpa using ha,fh _,fun _ _=>rfl,fun _ _ _=>rfl⟩
 ·rcases id ha.is with⟨rfl,rfl,rfl⟩|⟨b,rfl,hb,ta,bO,hll⟩|⟨t,rfl,ht,ta,bO⟩
  ·have HH:m≤1048576:=by omega
   exact⟨.slice nx 0 (0+m) sz,au nx (some (.cells new .part)) h,nx.succ,by simp[hm,HH],⟨.inr (.inl ⟨nx,rfl,by simp,by omega,by omega,by simpa using hn⟩)⟩,by omega,fun b hb=>ax (by omega),fun b hb _=>ax hb⟩
  ·cases hw:Cd sz with
   |true=>
    refine⟨.slice nx 0 (len+m) sz,au nx (some (.cells (l++new) .part)) (au b none h),nx.succ,?_,⟨.inr (.inl ⟨nx,rfl,by simp,by omega,by omega,by rw[zqf,hll,hn,Nat.add_mul]⟩)⟩,by omega,fun x hx=>?_,fun x hx hk=>?_⟩
    ·simp[hl,hc,hb,hll,hm,hw]
    ·rw[ax (by omega),ax (by omega)]
    ·rw[ax hx,bG]
     rintro rfl
     exact(hk _ hb).2 l rfl
   |false=>
    refine⟨.sl (l++new) (len+m) sz (.tok nx),au nx (some .tok) (au b none h),nx.succ,?_,⟨.inr (.inr ⟨nx,rfl,by simp,by omega,by omega⟩)⟩,by omega,fun x hx=>?_,fun x hx hk=>?_⟩
    ·simp[hl,hc,hb,hll,hm,hw]
    ·rw[ax (by omega),ax (by omega)]
    ·rw[ax hx,bG]
     rintro rfl
     exact(hk _ hb).2 l rfl
  ·refine⟨.sl (l++new) (len+m) sz (.tok nx),au nx (some .tok) (au t none h),nx.succ,?_,⟨.inr (.inr ⟨nx,rfl,by simp,by omega,by omega⟩)⟩,by omega,fun x hx=>?_,fun x hx hk=>?_⟩
   ·simp[hl,hc,ht,hm]
   ·rw[ax (by omega),ax (by omega)]
   ·rw[ax hx,bG]
    rintro rfl
    exact(hk _ ht).1 rfl
theorem App.ew(ha:App c l len sz h nx n0)(hn:nx.toNat≤nx'.toNat)(hg:∀ b:Key,b.toNat<nx.toNat→(aa b h=some .tok∨∃ l,aa b h=some (.cells l .part))→aa b h'=aa b h):App c l len sz h' nx' n0:=by
 refine⟨?_⟩
 rcases ha.is with⟨rfl,rfl,rfl⟩|⟨b,rfl,hb,ta,bO,hll⟩|⟨t,rfl,ht,ta,bO⟩
 ·exact .inl ⟨rfl,rfl,rfl⟩
 ·exact .inr (.inl ⟨b,rfl,by rw[hg b bO (.inr ⟨_,hb⟩)];exact hb,ta,by omega,hll⟩)
 ·exact .inr (.inr ⟨t,rfl,by rw[hg t bO (.inl ht)];exact ht,ta,by omega⟩)
theorem App.ext(ha:App c l len sz h nx n0)(e:Ext h nx h' nx'):App c l len sz h' nx' n0:=ha.ew e.n fun b hb _=>e.g b hb
theorem App.cell(ha:App c l len sz h nx n0):c.aN=true∧c.cells=[c]:=by
 rcases ha.is with⟨rfl,rfl,rfl⟩|⟨b,rfl,_⟩|⟨t,rfl,_⟩<;>exact⟨rfl,rfl⟩
theorem App.set{k:Key}{B:Option ag}(ha:App c l len sz h nx n0)(hk:∀ B,aa k h=some B→B≠.tok∧∀ l,B≠.cells l .part):App c l len sz (au k B h) nx n0:=
 ha.ew (fh _) fun b _ hx=>bG _ _ _ _ fun e=>by
  subst e
  rcases hx with hx|⟨l,hx⟩
  ·exact(hk _ hx).1 rfl
  ·exact(hk _ hx).2 _ rfl
theorem App.S8(ha:App c l len sz h nx n0)(orc:hU){tm:T AV}{k:Key}(hk:aa k tm=some c):lightOp orc (.lenL (.t k)) tm h=some (I len):=by
 rcases ha.is with⟨rfl,rfl,rfl⟩|⟨b,rfl,_⟩|⟨t,rfl,_⟩<;>simp[hk]
theorem App.Tk(ha:App c l len sz h nx n0)(hs:∀ y∈l,Sg y)(n:Nat) :
  ((aO (n+1) c h).1=.nils∧l=[]∧len=0∨(aO (n+1) c h).1=.sl l len sz .any)∧∀ b:Key,b.toNat<n0.toNat→aa b (aO (n+1) c h).2=aa b h:=by
 rcases ha.is with⟨rfl,rfl,rfl⟩|⟨b,rfl,hb,ta,bO,hll⟩|⟨t,rfl,ht,ta,bO⟩
 ·exact⟨.inl ⟨rfl,rfl,rfl⟩,fun _ _=>rfl⟩
 ·rw[Gn hb hll hs]
  exact⟨.inr rfl,fun x hx=>ax (by omega)⟩
 ·exact⟨.inr rfl,fun _ _=>rfl⟩
theorem App.GM{α:Type}{enc:α→List AV}(F:Flat sz enc){us:List α}(ha:App c (aj enc us) us.length sz h nx n0)(n:Nat) :
  jN sz enc (aO (n+1) c h).1 us∧∀ b:Key,b.toNat<n0.toNat→aa b (aO (n+1) c h).2=aa b h:=by
 obtain⟨h1,h2⟩:=ha.Tk (F.Gp us) n
 refine⟨?_,h2⟩
 rcases h1 with⟨e,_,e3⟩|e
 ·exact .inl ⟨e,zqr e3⟩
 ·exact .inr e
theorem App.Fm{α:Type}{enc:α→List AV}(F:Flat sz enc){us:List α}(ha:App c (aj enc us) us.length sz h nx n0)(h0:n0.toNat≤nx.toNat)(hl:us.length+1≤1048576)(x:α) :
  ∃ c' h' nx',appendTo sz c (enc x) 1 h nx=.val c' h' nx'∧App c' (aj enc (us ++ [x])) (us ++ [x]).length sz h' nx' n0∧nx.toNat≤nx'.toNat∧(∀ b:Key,b.toNat<n0.toNat→aa b h'=aa b h)∧∀ b:Key,b.toNat<nx.toNat→(∀ B,aa b h=some B→B≠.tok∧∀ l,B≠.cells l .part)→aa b h'=aa b h:=by
 obtain⟨c',h',nx',a,b,c,d,e⟩:=ha.oY (new:=enc x) (m:=1) h0 (by rw[F.len,Nat.one_mul]) hl (vV.2 (F.cell x))
 exact⟨c',h',nx',a,by rw[kU,pK,zqf];exact b,c,d,e⟩
end
end Go.Sx
/-
 SX: runs on integers that are not known, as known calls. No condition.
-/
namespace Go.Sx
open Go.RowKit
mutual
def AV.sub(ρ:Nat→Int):AV→AV
 |.int k s=>.int k (.lit (s.den ρ))
 |.iface t v=>.iface t (AV.sub ρ v)
 |.agg l=>.agg (AV.gW ρ l)
 |.tuple l=>.tuple (AV.gW ρ l)
 |.sl l n z f=>.sl (AV.gW ρ l) n z f
 |.cref l=>.cref (AV.gW ρ l)
 |.fn f a c=>.fn f (AV.gW ρ a) (AV.gW ρ c)
 |a=>a
def AV.gW(ρ:Nat→Int):List AV→List AV
 | []=>[]
 |a ::l=>AV.sub ρ a ::AV.gW ρ l
end
theorem AV.GC(ρ:Nat→Int):∀ l:List AV,(AV.gW ρ l).length=l.length
 | []=>rfl
 |_ ::l=>by simp only[AV.gW,zqi,AV.GC ρ l]
section
variable{ρ ρ':Nat→Int}{μ:Mu}
mutual
theorem aD.sub:∀ {a:AV} {v:Value},aD ρ μ a v→aD ρ' μ (a.sub ρ) v
 |_,_,.bool b=>.bool b
 |_,_,.int k s n h=>.int k _ n h
 |_,_,.str n c s h h'=>.str n c s h h'
 |_,_,.ptr b off l a h ha=>.ptr b off l a h ha
 |_,_,.nilp=>.nilp
 |_,_,.slice b off len sz cap l a h hc hl ha=>.slice b off len sz cap l a h hc hl ha
 |_,_,.nils=>.nils
 |_,_,.map b l r h hr=>.map b l r h hr
 |_,_,.nilm=>.nilm
 |_,_,.fn f first cap vs ws h h'=>.fn f _ _ vs ws (an.sub h) (an.sub h')
 |_,_,.yld b l r h hr=>.yld b l r h hr
 |_,_,.nilf=>.nilf
 |_,_,.iface t a v h=>.iface t _ v (aD.sub h)
 |_,_,.nili=>.nili
 |_,_,.agg l vs h=>.agg _ vs (an.sub h)
 |_,_,.tuple l vs h=>.tuple _ vs (an.sub h)
 |_,_,.sl l len sz fl cap c o a vs h hn hl ha hf hg=>.sl _ len sz fl cap c o a vs (an.sub h) (by rw[AV.GC];exact hn) hl ha hf hg
 |_,_,.cref l c o a vs h ha hf=>.cref _ c o a vs (an.sub h) ha hf
theorem an.sub:∀ {l:List AV} {vs:List Value},an ρ μ l vs→an ρ' μ (AV.gW ρ l) vs
 |_,_,.nil=>.nil
 |_,_,.cons a l v vs h h'=>.cons _ _ v vs (aD.sub h) (an.sub h')
end
mutual
theorem aD.AF:∀ (a:AV) {v:Value},aD ρ' μ (a.sub ρ) v→aD ρ μ a v
 |.bool b,_,h=>by cases h;exact .bool b
 |.int k s,_,h=>by cases h with|int _ _ n h=>exact .int k s n h
 |.str n c,_,h=>by cases h with|str _ _ s h h'=>exact .str n c s h h'
 |.ptr b off,_,h=>by cases h with|ptr _ _ l a h ha=>exact .ptr b off l a h ha
 |.nilp,_,h=>by cases h;exact .nilp
 |.slice b off len sz,_,h=>by cases h with|slice _ _ _ _ cap l a h hc hl ha=>exact .slice b off len sz cap l a h hc hl ha
 |.nils,_,h=>by cases h;exact .nils
 |.map b,_,h=>by cases h with|map _ l r h hr=>exact .map b l r h hr
 |.nilm,_,h=>by cases h;exact .nilm
 |.fn f a c,_,h=>by cases h with|fn _ _ _ vs ws h h'=>exact .fn f a c vs ws (an.AF a h) (an.AF c h')
 |.yld b,_,h=>by cases h with|yld _ l r h hr=>exact .yld b l r h hr
 |.nilf,_,h=>by cases h;exact .nilf
 |.iface t a,_,h=>by cases h with|iface _ _ v h=>exact .iface t a v (aD.AF a h)
 |.nili,_,h=>by cases h;exact .nili
 |.agg l,_,h=>by cases h with|agg _ vs h=>exact .agg l vs (an.AF l h)
 |.tuple l,_,h=>by cases h with|tuple _ vs h=>exact .tuple l vs (an.AF l h)
 |.sl l len sz fl,_,h=>by cases h with|sl _ _ _ _ cap c o a vs h hn hl ha hf hg=>exact .sl l len sz fl cap c o a vs (an.AF l h) (by rw[AV.GC] at hn;exact hn) hl ha hf hg
 |.cref l,_,h=>by cases h with|cref _ c o a vs h ha hf=>exact .cref l c o a vs (an.AF l h) ha hf
theorem an.AF:∀ (l:List AV) {vs:List Value},an ρ' μ (AV.gW ρ l) vs→an ρ μ l vs
 | [],_,h=>by cases h;exact .nil
 |a ::l,_,h=>by cases h with|cons _ _ v vs h h'=>exact .cons a l v vs (aD.AF a h) (an.AF l h')
end
end
noncomputable def NS{α:Type}:List Key→T α→T α
 | [],_=>.nil
 |k ::r,t=>match aa k t with
  |some v=>sY k (some v) (NS r t) fun t=>t
  |none=>NS r t
theorem DB{α:Type}(t:T α):∀ (ks:List Key) {b:Key} {v:α},aa b (NS ks t)=some v→aa b t=some v
 | [],b,v,h=>by simp[NS] at h
 |k ::r,b,v,h=>by
  unfold NS at h
  cases hk:aa k t with
  |none=>rw[hk] at h;exact DB t r h
  |some x=>
   rw[hk] at h
   simp only[sTCe] at h
   by_cases e:b=k
   ·subst e;rw[gTSm] at h;rw[hk];exact h
   ·rw[bG _ _ _ _ e] at h;exact DB t r h
noncomputable def wS(ss ks:List Key):SR→Option AM
 |.next ⟨fr,[],h,nx⟩=>match fr.todo with
  |.inLoop _ ::_=>some ⟨{fr with tm:=NS ss fr.tm},[],NS ks h,nx⟩
  |_=>none
 |_=>none
inductive Fin(C:cD)(f:Nat)(v:AV):AM→Prop
 |done {m:AM} (n:Nat) {H:T ag} {nx:Key} (h:rX C n m=.done f v H nx):Fin C f v m
 |seg {m m':AM} (n:Nat) (ss ks:List Key) (h:wS ss ks (rX C n m)=some m') (h':Fin C f v m'):Fin C f v m
section
variable{P:Program}{ρ:Nat→Int}{C:cD}{w0:W0}{μ0:Mu}{rest:List Frame}
theorem akL{r:SR}{ss ks:List Key}{m':AM}(h:wS ss ks r=some m'):∃ m,r=.next m∧∀ {fr:Frame} {cs:List Frame} {w:World},zo P ρ C.orc w0 μ0 m fr cs w→cs=[]∧zo P ρ C.orc w0 μ0 m' fr [] w:=by
 unfold wS at h
 split at h
 ·rename_i fr h0 nx
  split at h
  ·rename_i c k ht
   simp only[cT] at h
   subst h
   refine⟨_,rfl,?_⟩
   intro Gb cs w hm
   obtain⟨μ,G,h1,h2,h3,h4,h5,h6⟩:=hm.ex
   have Im:cs=[]:=by
    cases cs with
    |nil=>rfl
    |cons x l=>exact h5.elim
   subst Im
   refine⟨rfl,⟨μ,G,h1,h2,fun b B hb=>h3 b B (DB _ _ hb),?_,trivial,?_⟩⟩
   ·cases h4 with
    |run nt hb hm1 HH hT=>
     have KI:fr.todo=_:=ht
     simp only[ht] at hT
     generalize hK:Gb.todo=K at hT
     generalize hTm:Gb.tmps=TM at hT
     generalize hL:cJ.inLoop c ::k=LL at hT
     cases hT with
     |plain _ _ _ _ hr htr=>
      refine .run nt ⟨hb.fn,hb.fnr,hb.dfs,hb.kind,hb.qZ,hb.rd⟩ hm1 HH ?_
      rw[hK,hTm]
      show UJ P ρ C.orc μ G _ _ nt fr.todo _ _ _
      rw[ht,hL]
      exact .plain _ _ _ _ hr ⟨htr.1,fun k a ha=>htr.2 k a (DB _ _ ha)⟩
     |ready=>cases hL
     |back=>cases hL
    |ret nt hb hm1 HH h3 hT=>
     rcases h3 with h3|⟨_,h3⟩<;>(rw[ht] at h3;cases h3)
    |pan nt hb v u r hm1 HH hv h3 hT=>rw[ht] at h3;cases h3
   ·simp[br,pk,ht]
  ·cases h
 ·cases h
theorem Fin.sound(X:Ctx P ρ w0 C){f:Nat}{v:AV}{m:AM}(hf:Fin C f v m):∀ {fr:Frame} {w:World},zo P ρ C.orc w0 μ0 m fr [] w→
  ∃ eY w' μ G u H nx,Steps P (lone fr rest w) (lone eY rest w')∧eY.fn=f∧eY.leaving P w' (.returned u)∧aD ρ μ v u∧μ0.le μ∧aP P ρ w0 μ G (Key.toNat nx) w'∧HSub H G:=by
 induction hf with
 |done n h=>
  intro fr w hm
  have hg:=uT (rest:=rest) X n hm
  rw[h] at hg
  obtain⟨eY,w',μ,G,u,s⟩:=hg
  exact⟨eY,w',μ,G,u,_,_,s⟩
 |seg n ss ks h h' ih=>
  intro fr w hm
  have hg:=uT (rest:=rest) X n hm
  obtain⟨m1,e,hk⟩:=akL (P:=P) (ρ:=ρ) (C:=C) (w0:=w0) (μ0:=μ0) h
  rw[e] at hg
  obtain⟨fr1,cs1,w1,s1,h2⟩:=hg
  obtain⟨rfl,HH⟩:=hk h2
  obtain⟨eY,w',μ,G,u,H,nx,s,r⟩:=ih HH
  exact⟨eY,w',μ,G,u,H,nx,s1.trans s,r⟩
theorem aqY(X:Ctx P ρ w0 C){f:Nat}{p:fK}{w:World}{G0:Key→Option ag}{H:T ag}{nx:Key}(hp:iH P f=some p){l:List AV}{args:Array Value}(hM:aP P ρ w0 μ0 G0 nx.toNat w)(hH:HSub H G0)(hl:an ρ μ0 l args.toList){v:AV}
  (Fc:Fin C f v ⟨ae f p l,[],H,nx⟩):Calls P f args w fun e w'=>∃ u μ G nx',e=.returned u∧aD ρ μ v u∧μ0.le μ∧aP P ρ w0 μ G (Key.toNat nx') w':=by
 intro cs
 have hm:zo P ρ C.orc w0 μ0 ⟨ae f p l,[],H,nx⟩ (Frame.enter P f args .normal) [] w:=
  ⟨μ0,G0,μ0.le_refl,hM,hH,tY hp hl false,trivial,by simp[br,pk,ae]⟩
 obtain⟨eY,w',μ,G,u,H2,aH,s1,s2,s3,s4,s5,s6,s7⟩:=Fc.sound (rest:=cs) X hm
 exact⟨.returned u,w',eY,⟨u,μ,G,aH,rfl,s4,s5,s6⟩,s1,s2,s3⟩
end
section
variable{P:Program}{ρ ρ':Nat→Int}{aJ:T ag}
theorem axn{C:cD}(hX:∀ w0:W0,l9 P aJ w0→Ctx P ρ' w0 C){f:Nat}{p:fK}(hp:iH P f=some p){l:List AV}(hl:AV.Iy l=true){v:AV}(hv:v.kf=true){nx0:Key}(hn:P.globals.size≤nx0.toNat)
  (dP:Fin C f v ⟨ae f p l,[],aJ,nx0⟩):∀ w0:W0,l9 P aJ w0→∀ H nx,Mi P ρ w0 f (AV.gW ρ' l) H nx (v.sub ρ') H nx:=by
 intro w0 hL H nx args w μ G hM hH cG
 have hL1:l9 P aJ ⟨w,μ.fz⟩:=hL.aza hM.below hM.zle
 have hM1:=Jb (ρ:=ρ') (w0:=⟨w,μ.fz⟩) hL1 hM.UQ (nx:=nx0.toNat) hn
 have ha1:an ρ' (gMu P aJ μ.fz) l args.toList:=an.kf (μ:=μ) (μ':=gMu P aJ μ.fz) (fun _ _ _ h=>h) (an.AF l cG) hl
 refine(aqY (hX _ hL1) hp hM1 (fun _ _ h=>h) ha1 dP).mono ?_
 rintro e w' ⟨u,μ1,G1,aH,rfl,hvr,hle,hM2⟩
 have hb:Below w.heap.size w w':=hM2.below
 have LX:∀ c i x,μ1.fz c i=some x→w.heap.size≤c∨μ.fz c i=some x:=hM2.fzo
 have Kh:μ.le ⟨μ.loc,μ1.fz⟩:=⟨fun _ _ h=>h,fun c i x h=>hle.f c i x h⟩
 refine⟨u,⟨μ.loc,μ1.fz⟩,G,rfl,aD.sub (aD.kf (μ:=μ1) (μ':=⟨μ.loc,μ1.fz⟩) (fun _ _ _ h=>h) hvr hv),Kh,?_,hH,⟨fun _ _ _=>rfl,fun _ _=>rfl,fun _ h _=>h,fh _⟩⟩
 have VD:∀ b l,μ b=some l→w'.heap[l.c]?=w.heap[l.c]?:=fun b l h=>hb.block _ (hM.wR b l h)
 refine⟨?_,hM.sep,?_,hM.own,hM.Nr,hM.new,hM.below.trans (hb.mono hM.below.size),hM2.UQ,?_,?_,?_,?_,Nat.le_trans hM.dr hM2.dr⟩
 ·intro b B hg
  obtain⟨l,o,h1,h2,h3⟩:=hM.oR b B hg
  exact⟨l,o,h1,by rw[VD b l h1];exact h2,h3.mono Kh⟩
 ·intro b l h
  exact JJ (hM.wR b l h) hb.size
 ·intro b B l n hg hm ta i hi
  show μ1.fz l.c i=none
  cases h:μ1.fz l.c i with
  |none=>rfl
  |some x=>
   rcases LX _ _ _ h with h'|h'
   ·exact absurd (hM.wR b l hm) (Nat.not_lt.2 h')
   ·rw[hM.fzf b B l n hg hm ta i hi] at h';cases h'
 ·intro c i x h;exact hle.f c i x (hM.zle c i x h)
 ·intro c i x h
  rcases LX c i x h with h'|h'
  ·exact .inl (Nat.le_trans hM.below.size h')
  ·exact hM.fzo c i x h'
 ·intro b L l hg hm
  rcases hM.rof b L l hg hm with h|h
  ·exact .inl h
  ·refine .inr fun arr e f i x ha hx=>hle.f _ _ _ (h arr e f i x ?_ hx)
   rw[← VD b l hm];exact ha
inductive DT where
 |leaf (v:AV)
 |ask (op:BinOp) (a b:SI) (t e:DT)
def holds(ρ:Nat→Int)(op:BinOp)(a b:SI):Bool:=match fP op (a.den ρ) (b.den ρ) with
 |some r=>r
 |none=>false
def DT.val(ρ:Nat→Int):DT→AV
 |.leaf v=>v.sub ρ
 |.ask op a b t e=>match holds ρ op a b with
  |true=>t.val ρ
  |false=>e.val ρ
mutual
theorem Cg{ρ:Nat→Int}:∀ (a:AV),AV.lits a=true→a.sub ρ=a
 |.bool _,_=>rfl
 |.int _ (.lit _),_=>rfl
 |.int _ (.var _),h=>by simp[AV.lits] at h
 |.int _ (.bin _ _ _ _),h=>by simp[AV.lits] at h
 |.str _ _,_=>rfl
 |.ptr _ _,_=>rfl
 |.nilp,_=>rfl
 |.slice _ _ _ _,_=>rfl
 |.nils,_=>rfl
 |.map _,_=>rfl
 |.nilm,_=>rfl
 |.fn f a c,h=>by simp only[AV.lits,jj] at h;simp only[AV.sub,eW a h.1,eW c h.2]
 |.yld _,_=>rfl
 |.nilf,_=>rfl
 |.iface t v,h=>by simp only[AV.lits] at h;simp only[AV.sub,Cg v h]
 |.nili,_=>rfl
 |.agg l,h=>by simp only[AV.lits] at h;simp only[AV.sub,eW l h]
 |.tuple l,h=>by simp only[AV.lits] at h;simp only[AV.sub,eW l h]
 |.sl l _ _ _,h=>by simp only[AV.lits] at h;simp only[AV.sub,eW l h]
 |.cref l,h=>by simp only[AV.lits] at h;simp only[AV.sub,eW l h]
theorem eW{ρ:Nat→Int}:∀ (l:List AV),AV.gf l=true→AV.gW ρ l=l
 | [],_=>rfl
 |a ::l,h=>by simp only[AV.gf,jj] at h;simp only[AV.gW,Cg a h.1,eW l h.2]
end
def zj(P:Program)(aJ:T ag)(f:Nat)(l:List AV)(v:AV):Prop:=∀ (ρ:Nat→Int) (w0:W0),l9 P aJ w0→∀ H nx,Mi P ρ w0 f l H nx v H nx
abbrev Es:=List (List AV×AV)
def aY(P:Program)(aJ:T ag)(f:Nat):Es→Prop
 | []=>True
 |(m,v) ::r=>zj P aJ f m v∧aY P aJ f r
def aLf:List AV→Key
 | [_,.int _ (.lit (.ofNat n))]=>Key.eH 12 n
 | [.int _ (.lit (.ofNat n))]=>Key.eH 12 n
 | [_,.str _ c]=>Key.eH 12 (Nat.mod c 251)
 |_=>.z
def Eo:T Es→Es
 |.nil=>[]
 |.node v l r=>(match v with|some e=>e|none=>[])++(Eo l++Eo r)
def one(es:Es):T Es:=.node (some es) .nil .nil
def BA(P:Program)(aJ:T ag)(f:Nat)(t:T Es):Prop:=∀ k es,aa k t=some es→aY P aJ f es
def l6(P:Program)(aJ:T ag):List (Nat×T Es)→Prop
 | []=>True
 |(f,t) ::r=>((∃ p,iH P f=some p)∧BA P aJ f t)∧l6 P aJ r
def anM:Es→List AV→Option AV
 | [],_=>none
 |(m,v) ::r,l=>bif AV.DI l m then some v else anM r l
noncomputable def axo:List (Nat×T Es)→Nat→List AV→T ag→Key→Option (AV×T ag×Key)
 | [],_,_,_,_=>none
 |(g,t) ::r,f,l,h,nx=>bif Nat.beq f g then(match aa (aLf l) t with
  |some es=>match anM es l with
   |some v=>some (v,h,nx)
   |none=>none
  |none=>none) else axo r f l h nx
theorem aY.left{f:Nat}:∀ {a b:Es},aY P aJ f (a++b)→aY P aJ f a
 | [],_,_=>trivial
 |(_,_) ::_,_,h=>⟨h.1,aY.left h.2⟩
theorem aY.right{f:Nat}:∀ {a b:Es},aY P aJ f (a++b)→aY P aJ f b
 | [],_,h=>h
 |(_,_) ::_,_,h=>aY.right h.2
theorem BA.of{f:Nat}:∀ {t:T Es},aY P aJ f (Eo t)→BA P aJ f t
 |.nil,_=>fun k es h=>by cases k<;>cases h
 |.node v l r,h=>fun k es e=>by
  unfold Eo at h
  cases k with
  |z=>
   have e:v=some es:=e
   subst e
   exact aY.left h
  |o k=>exact BA.of (aY.left (aY.right h)) k es e
  |e k=>exact BA.of (aY.right (aY.right h)) k es e
theorem BA.eq{f:Nat}{t:T Es}{es:Es}(h:aY P aJ f es)(e:Eo t=es):BA P aJ f t:=.of (by rw[e];exact h)
theorem BA.one{f:Nat}{es:Es}(h:aY P aJ f es):BA P aJ f (one es):=.of (by
 show aY P aJ f (es++([] ++ []))
 rw[List.append_nil,List.append_nil];exact h)
theorem aY.app{f:Nat}:∀ {a b:Es},aY P aJ f a→aY P aJ f b→aY P aJ f (a++b)
 | [],_,_,h=>h
 |(_,_) ::_,_,h,k=>⟨h.1,h.2.app k⟩
theorem VE{f:Nat}:∀ {es:Es},aY P aJ f es→∀ {l:List AV} {v:AV},anM es l=some v→zj P aJ f l v
 | [],_,_,_,e=>by cases e
 |(m,u) ::r,h,l,v,e=>by
  unfold anM at e
  cases hb:AV.DI l m with
  |true=>
   rw[hb] at e
   simp only[cond_true,cT] at e
   rw[AV.gH _ _ hb,← e];exact h.1
  |false=>rw[hb] at e;exact VE h.2 e
theorem Tn:∀ {tab:List (Nat×T Es)},l6 P aJ tab→∀ {f:Nat} {l:List AV} {h:T ag} {nx:Key} {r:AV×T ag×Key},axo tab f l h nx=some r→(∃ p,iH P f=some p)∧∃ v,zj P aJ f l v∧r=(v,h,nx)
 | [],_,_,_,_,_,_,e=>by cases e
 |(g,es) ::t,ht,f,l,h,nx,r,e=>by
  unfold axo at e
  cases hb:Nat.beq f g with
  |true=>
   rw[hb] at e
   have hb:=mU hb
   subst hb
   simp only[cond_true] at e
   split at e
   ·rename_i es2 h2
    split at e
    ·rename_i v hv
     simp only[cT] at e
     exact⟨ht.1.1,v,VE (ht.1.2 _ _ h2) hv,e.symm⟩
    ·cases e
   ·cases e
  |false=>rw[hb] at e;exact Tn ht.2 e
noncomputable def aE0(fns:T fK)(raw lS:Nat→Bool)(tab:List (Nat×T Es))(o:hU):cD:=⟨o,fns,axo tab,raw,lS⟩
theorem aLg{fns:T fK}{VF:List (Nat×fK)}(hb:fns=CJ VF)(ha:HM P VF)(aBv:P.follows .mixedOrders=true){tab:List (Nat×T Es)}(ht:l6 P aJ tab)(raw lS:Nat→Bool){o:hU}(ho:dq ρ o)(w0:W0)(hL:l9 P aJ w0):Ctx P ρ w0 (aE0 fns raw lS tab o):=by
 refine⟨?_,?_,ho,fun f p h=>VG hb ha (tab:=[]) h,aBv⟩
 ·intro f l H nx a H' nx' hs
  obtain⟨_,v,h1,h2⟩:=Tn ht hs
  cases h2
  exact h1 ρ w0 hL H nx
 ·intro f l H nx r hs
  obtain⟨⟨p,hp⟩,_⟩:=Tn ht hs
  obtain⟨fn,c,f1,f2,f3,_⟩:=xF hp
  exact⟨fn,f1,by rw[f2];rfl,f3⟩
theorem anN{C:cD}(hX:∀ (ρ:Nat→Int) (w0:W0),l9 P aJ w0→Ctx P ρ w0 C){f:Nat}{p:fK}(hp:iH P f=some p){l:List AV}{v:AV}(hl:(AV.gf l&&AV.Iy l&&AV.lits v&&v.kf)=true){nx0:Key}(hn:P.globals.size≤nx0.toNat)
  (hf:Fin C f v ⟨ae f p l,[],aJ,nx0⟩):zj P aJ f l v:=by
 intro ρ w0 hL H nx
 simp only[jj] at hl
 have:=axn (ρ:=ρ) (ρ':=ρ) (hX ρ) hp hl.1.1.2 hl.2 hn hf w0 hL H nx
 rw[eW l hl.1.1.1,Cg v hl.1.2] at this
 exact this
def aqB(f:Nat)(v:AV):SR→Bool
 |.done g u _ _=>Nat.beq g f&&AV.beq u v
 |_=>false
theorem xC{f:Nat}{v:AV}{C:cD}{n:Nat}{m:AM}(h:aqB f v (rX C n m)=true):Fin C f v m:=by
 cases hr:rX C n m with
 |done g u H nx=>
  rw[hr] at h
  simp only[aqB,jj] at h
  have h1:=mU h.1
  have h2:=AV.eq_of_beq _ _ h.2
  subst h1 h2
  exact .done n hr
 |next m=>rw[hr] at h;cases h
 |alt l=>rw[hr] at h;cases h
 |pan v h' nx=>rw[hr] at h;cases h
 |bad n m=>rw[hr] at h;cases h
noncomputable def axp(C:cD)(n f:Nat)(p:fK)(aJ:T ag)(nx0:Key):Es→Bool
 | []=>true
 |(m,v) ::r=>AV.gf m&&AV.Iy m&&AV.lits v&&v.kf&&aqB f v (rX C n ⟨ae f p m,[],aJ,nx0⟩)&&axp C n f p aJ nx0 r
theorem anO{C:cD}(hX:∀ (ρ:Nat→Int) (w0:W0),l9 P aJ w0→Ctx P ρ w0 C){f:Nat}{p:fK}(hp:iH P f=some p){n:Nat}{nx0:Key}(hn:P.globals.size≤nx0.toNat):∀ {es:Es},axp C n f p aJ nx0 es=true→aY P aJ f es
 | [],_=>trivial
 |(m,v) ::r,h=>by
  unfold axp at h
  rw[jj,jj] at h
  exact⟨anN hX hp h.1.1 hn (xC h.1.2),anO hX hp hn h.2⟩
end
end Go.Sx
