/- A part of the proof. No condition. -/
import Derived.Test.YtecbfpngkfdkoaaGreatP38
set_option linter.unusedSimpArgs false
set_option linter.unusedVariables false
set_option linter.unusedSectionVars false
namespace Ln
open Go.Sx Go
theorem _root_.Go.Sx.lU.cut{h h' h2:T ah}{nx nx' n2:Key}{o8 o6:Option Key}(a:lU h nx none h' nx' o8)(b:lU h' nx' none h2 n2 o6):lU h nx none h2 n2 o6:=by
 have n1:=a.n
 refine⟨Nat.le_trans a.n b.n,fun x hx _=>?_,?_⟩
 ·rw[b.g x (by omega) (by simp)];exact a.g x hx (by simp)
 ·rcases b.o with e|⟨y,e,hy⟩
  ·exact .inl e
  ·exact .inr ⟨y,e,by omega⟩
theorem _root_.Go.Sx.Rd.frm{z:Nat}{c:AV}{l:List AV}{len:Nat}{h h':T ah}{nx nx':Key}{ob:Option Key}(g:Rd z c l len h nx)(e:lU h nx none h' nx' ob):Rd z c l len h' nx':=
 g.ext ⟨e.n,fun b hb=>e.g b hb (by simp)⟩
theorem _root_.Go.Sx.Gr.I1{z:Nat}{c:AV}{α:Type}{enc:α→List AV}(F:Flat z enc){us:List α}{h:T ah}{nx:Key}{ob:Option Key}(g:Gr z c (ai enc us) us.length h nx ob)(n:Nat):iD z enc (aY (n+1) c h).1 us∧∀ b:Key,ob≠some b→aa b (aY (n+1) c h).2=aa b h:=by
 rcases g with⟨rfl,e1,e2,_⟩|⟨b,k,rfl,rfl,hb,_,hl,hk⟩|⟨t,rfl,rfl,_⟩
 ·exact⟨.inl ⟨rfl,TW e2⟩,fun _ _=>rfl⟩
 ·rcases hk with rfl|rfl
  ·rw[Fp hb hl (F.HD us)]
   exact⟨.inr rfl,fun x hx=>bZ _ _ _ _ (fun e=>hx (by rw[e]))⟩
  ·rw[GB hb hl (F.HD us)]
   exact⟨.inr rfl,fun x hx=>bZ _ _ _ _ (fun e=>hx (by rw[e]))⟩
 ·exact⟨.inr rfl,fun _ _=>rfl⟩
theorem OY{α:Type}{l:List α}{j:Nat}(hj:j<l.length)(x:α):x∈l.take (j+1)↔x=l[j]∨x∈l.take j:=by
 rw[zqu hj,List.mem_append,List.mem_singleton]
 exact or_comm
variable{C:dm}{X:Kn}(S:Std C X)
def SoI(l:List (Cf St))(c4:AV)(h:T ah)(nx:Key)(m:Nat)(an:T AV)(h':T ah)(nx':Key):Prop:=∃ (j:Nat) (out:List (Cf St)) (c8:AV) (o8:Option Key),m=l.length-j∧j≤l.length∧aa (K 4) an=some c4∧aa (K 8) an=some c8∧aa (K 9) an=some (I j)∧Gr 5 c8 (ai eC out) out.length h' nx' o8∧out.length=j∧out.Pairwise RZ∧(∀ x,x∈out↔x∈l.take j)∧lU h nx none h' nx' o8
include S
theorem apE{l:List (Cf St)}(hl:l.length≤1024)(hn:l.Nodup)(K9:∀ y∈l,y.2.kids.length≤3){c4:AV}{h:T ah}{nx:Key}(R4:Rd 5 c4 (ai eC l) l.length h nx){Q:cX}{m:Nat}{tm:T AV}{h1:T ah}{bM:Key}(A:SoI l c4 h nx m tm h1 bM)
  (cH:∀ an h' nx' (out:List (Cf St)) c8 o8,aa (K 8) an=some c8→Gr 5 c8 (ai eC out) out.length h' nx' o8→out.Pairwise RZ→(∀ x,x∈out↔x∈l)→lU h nx none h' nx' o8→Q .norm an h' nx') :
  W C (.loop ov) (ak 4 Q) tm h1 bM:=by
 refine W.di (SoI l c4 h nx) A ?_
 rintro m cu h2 aI ⟨j,out,c8,o8,rfl,hj,g4,g8,g9,G8,hol,hpw,gq,F2⟩
 refine W.of ?_
 simp[ov]
 have R4':=R4.frm F2
 by_cases aR:j<l.length
 ·have sB:(j:Int)<l.length:=by omega
  have AZ:=K9 _ (JW aR)
  have aHb:∀ y∈out,y.2.kids.length≤3:=fun y hy=>K9 y (List.mem_of_mem_take ((gq y).1 hy))
  simp[↓R4'.ln,mW,g4,g9,sB]
  simp[↓G8.rd.ln,vt,g8]
  refine apF S (l:=l) (out:=out) (by omega) aHb aR AZ R4' G8.rd (m:=out.length) ⟨out.length,rfl,fe _,by simp[g4],by simp[g8],by simp[g9],by simp,Ext.refl _ _,fun q hq hle=>by omega⟩ ?_
  intro an h3 bu k hk q4 q8 q9 A9 e3 bN TF
  have hxo:l[j]∉out:=by
   rw[gq]
   intro hc
   obtain⟨i,hi,e⟩:=List.getElem_of_mem hc
   rw[List.getElem_take] at e
   rw[zqy] at hi
   have:=(List.getElem_inj hn).1 e
   omega
  have aHc:=azg hk hpw hxo bN TF
  have aDi:∀ x,x∈out.take k++l[j] ::out.drop k↔x∈l.take (j+1):=fun x=>by rw[avD,OY aR,gq]
  have aHd:=R4'.ext e3
  have G83:=G8.ext e3
  have F3:=F2.trans (lU.jk e3 o8)
  have hr8:=gP.rows (out.take k)
  rw[zqy,Nat.min_eq_left hk] at hr8
  obtain⟨c11,h4,mB,o11,ha1,G11,F4⟩:=Un (h:=h3) (nx:=bu) hr8 (by omega)
  have hlk:(out.take k).length=k:=by rw[zqy,Nat.min_eq_left hk]
  have s4:=kTSu mB
  have e5:=E0 h4 mB (.cells (eC l[j]) .fix)
  have R44:=aHd.frm F4
  have aHf:Gr 5 c11 (ai eC (out.take k)) (out.take k).length (av mB (some (.cells (eC l[j]) .fix)) h4) mB.succ o11:=by rw[hlk];exact G11.ext e5
  have F5:=F4.trans (lU.jk e5 o11)
  obtain⟨c12,h6,nx6,o12,KZ,G12,F6'⟩:=aHf.BG gP (by decide) (by decide) (by rw[hlk];omega) l[j]
  have F6:=F5.trans F6'
  have R86:=G83.rd.frm F6
  have hrd:=gP.rows (out.drop k)
  rw[List.length_drop] at hrd
  have aHg:(out.take k ++ [l[j]]).length+(out.length-k)≤1048576:=by rw[zqf,hlk];simp;omega
  obtain⟨c13,h7,nx7,o13,ha3,G13,F7'⟩:=G12.asg (by decide) (by decide) (gP.HD _) hrd aHg (gP.azi _)
  have F7:=F3.cut (F6.trans F7')
  have er:ai eC (out.take k ++ [l[j]])++ai eC (out.drop k)=ai eC (out.take k++l[j] ::out.drop k):=by rw[← mv];simp
  have el:(out.take k ++ [l[j]]).length+(out.length-k)=(out.take k++l[j] ::out.drop k).length:=by simp;omega
  rw[er,el] at G13
  simp
  simp[vu]
  simp[-appendTo,↓G83.rd.aDk gP hk ha1,vw,q8,A9]
  simp[-appendTo,↓R44.ix gP aR,vz,q4,q9,KZ,Ul,Jo,H4,ash,ajv]
  simp[-appendTo,↓R86.aDl gP hk ha3,vA,q8,A9]
  simp[vB,q9]
  rw[au (by omega) (by omega)]
  have hll:(out.take k++l[j] ::out.drop k).length=j+1:=by simp;omega
  exact⟨l.length-(j+1),by omega,j+1,_,c13,o13,rfl,by omega,by simp[q4],by simp,by simp,G13,hll,aHc,aDi,F7⟩
 ·have nS:j=l.length:=by omega
  subst nS
  rw[List.take_length] at gq
  simp[↓R4'.ln,mW,g4,g9]
  refine cH _ _ _ out c8 o8 ?_ G8 hpw gq F2
  simp[g8]
end Ln
/-
 LN: what can be reached: the reference, all of it. No condition.
-/
namespace Ln
open Go.Sx Go
def azT(X:Kn)(i:Nat)(os:List Op)(s0:St)(h:T ah)(nx:Key)(o:Out)(h':T ah)(nx':Key):Prop:=Ext h nx h' nx'∧((bfs (dS X i os) 1025 0 [(0,s0)]=none∧o=.ret (.tuple [.nils,.bool false]))∨
 ∃ (l out:List (Cf St)) (cR:AV),bfs (dS X i os) 1025 0 [(0,s0)]=some l∧Kept (dS X i os) l.length l∧l[0]?=some (0,s0)∧(∀ x∈l,gM i x.2)∧out.Pairwise RZ∧(∀ x,x∈out↔x∈l)∧iD 5 eC cR out∧o=.ret (.tuple [cR,.bool true]))
variable{C:dm}{X:Kn}(S:Std C X)
include S
theorem ase{i:Nat}(hi:i<3){os:List Op}(pU:lg i os=0)(ho:os.length≤16){cO:AV}(hc:iD 10 eO cO os){s0:St}(hs:gM i s0){h:T ah}{nx bj:Key}(hb:aa bj h=some (.cells (wB X i cO s0) .fix))(C3:bj.toNat<nx.toNat) :
  aO C iL [.ptr bj 0] h nx (azT X i os s0 h nx):=by
 have s1:=kTSu nx
 refine S.zH.call ?_
 simp[wz]
 simp[xu]
 have ac:=(bc s0.kids).1
 simp[xw,hb,wB,ac]
 have ec:[I 0,I s0.k,I s0.n,.str 0 0,aB s0.kids]=eC (0,s0):=rfl
 rw[ec]
 simp[xy]
 have e1:=E0 h nx (.cells (eC (0,s0)) .fix)
 have G1:Gr 5 (.slice nx 0 1 5) (ai eC [(0,s0)]) [((0,s0):Cf St)].length (av nx (some (.cells (eC (0,s0)) .fix)) h) nx.succ (some nx):=.inr (.inl ⟨nx,.fix,rfl,rfl,by simp[ou],by omega,rfl,.inr rfl⟩)
 have F1:lU h nx none (av nx (some (.cells (eC (0,s0)) .fix)) h) nx.succ (some nx):=⟨by omega,fun b hb _=>e1.g b hb,.inr ⟨nx,rfl,fe _⟩⟩
 refine apu S hi pU ho hc (s0:=s0) (c0:=(0,s0)) (h:=h) (nx:=nx) (bj:=bj) hb C3 (m:=1024) ⟨0,[(0,s0)],.slice nx 0 1 5,some nx,by simp,by simp,by simp,by simp,by simp,G1,Kept.start (by omega),rfl,rfl,by simpa using hs,F1⟩ ?_ ?_
 ·intro an h' nx' jw q2 q3 og F
  simp[q2,q3]
  exact⟨⟨F.n,fun b hb=>F.g b hb (by simp)⟩,.inl ⟨og,rfl⟩⟩
 ·intro an h' nx' l c4 jw q4 G og kp h0 K9 F
  simp
  simp[vK]
  simp[vL]
  refine apE S kp.len kp.nodup (fun y hy=>T7 (K9 y hy)) G.rd (m:=l.length) ⟨0,[],.nils,none,by simp,by omega,by simp[q4],by simp,by simp,Gr.nil _ _ _,rfl,by simp,by simp,lU.refl _ _ _⟩ ?_
  intro tm2 h2 aI out c8 o8 q8 G8 hpw gq F2
  have fr:=G8.I1 gP 9998
  have FF:=F2.n
  have FN:=F.n
  simp
  simp[vN,q8]
  refine⟨⟨by omega,fun b hb=>?_⟩,.inr ⟨l,out,_,og,kp,h0,K9,hpw,gq,fr.1,rfl⟩⟩
  have bI:o8≠some b:=F2.ne (by omega) (by simp)
  rw[fr.2 b bI,F2.g b (by omega) (by simp),F.g b hb (by simp)]
end Ln
/-
 LN: the first way to an end: the reference, one call. No condition.
-/
namespace Ln
open Go.Sx Go
theorem alX:∀ n d:Nat,pop n d≤n
 |0,_=>fe _
 |n+1,d=>by
  unfold pop
  have:=alX n d
  split<;>omega
theorem _root_.Go.Sx.Rd.app{z:Nat}{c:AV}{α:Type}{enc:α→List AV}{us:List α}{h:T ah}{nx:Key}(F:Flat z enc)(g:Rd z c (ai enc us) us.length h nx){C:dm}{Q:cX}{L:List J}{tm:T AV}{n2 k1 k3 d:Key}{s c':AV}{h':T ah}{n':Key}(ha:appendTo z s (ai enc us) us.length h n2=.val c' h' n')
  (h1:aa k1 tm=some c) (h3:aa k3 tm=some s):mF C Q (⟨some d,.append z (.t k3) (.t k1),none⟩ ::L) tm h n2=mF C Q L (av d (some c') tm) h' n':=by
 have hr:=F.rows us
 have CU:List.take (us.length*z) (ai enc us)=ai enc us:=P8 (by omega)
 have hz:cn (aY 9999) (ai enc us) h=(ai enc us,h):=du (F.HD _)
 rcases g with⟨rfl,e1,e2⟩|⟨f,rfl⟩|⟨b,kk,rfl,hb,_,_⟩
 ·have e0:us=[]:=TW e2
  subst e0
  simp[-appendTo] at ha
  simp[-appendTo,h1,h3,ha]
 ·simp[-appendTo,h1,h3,ha]
 ·simp[-appendTo,h1,h3,hb,hr,CU,hz,ha]
theorem _root_.Go.Sx.Gr.own{z:Nat}{c:AV}{l:List AV}{len:Nat}{h:T ah}{nx:Key}{ob:Option Key}(g:Gr z c l len h nx ob){b:Key}{o n z':Nat}(e:c=.slice b o n z'):ob=some b:=by
 rcases g with⟨rfl,_⟩|⟨b',k,rfl,rfl,_⟩|⟨t,rfl,rfl,_⟩
 ·cases e
 ·cases e;rfl
 ·cases e
theorem _root_.Go.Sx.Gr.aKW{z:Nat}{c:AV}{l:List AV}{len:Nat}{h h':T ah}{nx nx':Key}{ob o':Option Key}(g:Gr z c l len h nx ob)(F:lU h nx none h' nx' o'):Gr z c l len h' nx' ob:=
 g.kN F.n fun b hb=>F.g b (g.lt b hb) (by simp)
def Apt(c:AV)(ob:Option Key):Prop:=∀ b o n z',c=.slice b o n z'→ob≠some b
theorem _root_.Go.Sx.Rd.aEW{z:Nat}{c:AV}{l:List AV}{len:Nat}{h h':T ah}{nx nx':Key}{ob jw:Option Key}(g:Rd z c l len h nx)(a:Apt c ob)(F:lU h nx ob h' nx' jw):Rd z c l len h' nx'∧Apt c jw:=by
 rcases g with⟨rfl,e1,e2⟩|⟨f,rfl⟩|⟨b,k,rfl,hb,bN,hl⟩
 ·exact⟨.inl ⟨rfl,e1,e2⟩,fun _ _ _ _ e=>by cases e⟩
 ·exact⟨.inr (.inl ⟨f,rfl⟩),fun _ _ _ _ e=>by cases e⟩
 ·have hn:=a b _ _ _ rfl
  refine⟨.inr (.inr ⟨b,k,rfl,by rw[F.g b bN hn];exact hb,by have:=F.n;omega,hl⟩),fun b' o n z' e=>?_⟩
  cases e
  exact F.ne bN hn
structure Cls(X:Kn)(i:Nat)(os:List Op)(L:List (Cf St)):Prop where
 closed:∀ c∈L,∀ x∈(dS X i os).steps c,x.2∈L
 len:L.length≤1024
 lt:∀ c∈L,c.1<2^os.length
 ok:∀ c∈L,gM i c.2
def OX(p:List Nat):List Int:=p.map fun k:Nat=>(k:Int)
structure aw5(X:Kn)(i:Nat)(os:List Op)(L:List (Cf St))(c:Cf St)(ord:List Int)(bad:List (Cf St))(c2:AV)(ob:Option Key)(h:T ah)(nx:Key)(o:Out)(h':T ah)(nx':Key):Prop where
 ex:∃ (Db:List (Cf St)) (cB:AV) (jw:Option Key),zB (dS X i os) L Db∧Gr 5 cB (ai eC Db) Db.length h' nx' jw∧(∃ t,Db=bad++t∧∀ x∈t,c.1≤x.1)∧lU h nx ob h' nx' jw∧
  ((∃ (p:List Nat) (cR:AV),Path (dS X i os) c p∧(ord++OX p).length≤16∧Rd 1 cR (ai eI (ord++OX p)) (ord++OX p).length h' nx'∧(∀ b o n z',cR=.slice b o n z'→nx.toNat≤b.toNat∨cR=c2)∧o=.ret (.tuple [cR,cB,.bool true]))∨(¬ Good (dS X i os) c∧o=.ret (.tuple [.nils,cB,.bool false])))
structure azf(X:Kn)(i:Nat)(os:List Op)(cO:AV)(s0:St)(L:List (Cf St))(bj:Key)(c:Cf St)(ord:List Int)(bad:List (Cf St))(c2 c3:AV)(ob:Option Key)(h:T ah)(nx:Key):Prop where
 hb:aa bj h=some (.cells (wB X i cO s0) .fix)
 bn:bj.toNat<nx.toNat
 bo:ob≠some bj
 mem:c∈L
 len:ord.length≤pop os.length c.1
 rd:Rd 1 c2 (ai eI ord) ord.length h nx
 apt:Apt c2 ob
 bok:zB (dS X i os) L bad
 gr:Gr 5 c3 (ai eC bad) bad.length h nx ob
def aEX(X:Kn)(i:Nat)(os:List Op)(L:List (Cf St))(bj:Key)(c:Cf St)(ord:List Int)(bad:List (Cf St))(c2:AV)(ob:Option Key)(nx0:Key)(h:T ah)(nx:Key)(m:Nat)(an:T AV)(h':T ah)(nx':Key):Prop:=∃ (j:Nat) (Db:List (Cf St)) (cB:AV) (jw:Option Key),m=os.length-j∧j≤os.length∧aa (K 0) an=some (.ptr bj 0)∧aa (K 2) an=some c2∧aa (K 5) an=some (.ptr nx0 0)∧aa (K 11) an=some (I j)∧aa (K 3) an=some cB∧
 Gr 5 cB (ai eC Db) Db.length h' nx' jw∧zB (dS X i os) L Db∧(∃ t,Db=bad++t∧∀ x∈t,c.1<x.1)∧(∀ x∈(dS X i os).fy c j,¬ Good (dS X i os) x.2)∧lU h nx ob h' nx' jw
variable{C:dm}{X:Kn}(S:Std C X)
include S
theorem asf{i:Nat}(hi:i<3){os:List Op}(pU:lg i os=0)(ho:os.length≤16){cO:AV}(hc:iD 10 eO cO os){s0:St}{L:List (Cf St)}(hL:Cls X i os L){bj:Key}:∀ (M:Nat) {c:Cf St} {ord:List Int} {bad:List (Cf St)} {c2 c3:AV} {ob:Option Key} {h:T ah} {nx:Key},2^os.length-c.1≤M→azf X i os cO s0 L bj c ord bad c2 c3 ob h nx→
  aO C ep [.ptr bj 0,.agg (eC c),c2,c3] h nx (aw5 X i os L c ord bad c2 ob h nx):=by
 have rA:C.raw fY=false:=S.nr (by decide)
 have rH:C.raw jK=true:=S.rw (by decide)
 have rO:C.raw fp=false:=S.nr (by decide)
 have rT:C.raw dG=false:=S.nr (by decide)
 have rB:C.raw fT=false:=S.nr (by decide)
 have rF:C.raw ep=true:=S.rw (by decide)
 have hSo:=amo X i os
 have h16:2^os.length≤65536:=tS ho
 intro M
 induction M with
 |zero=>
  intro c ord bad c2 c3 ob h nx hM A
  have:=hL.lt c A.mem
  omega
 |succ M ih=>
  intro c ord bad c2 c3 ob h nx hM A
  obtain⟨hb,C3,hbo,gq,hlen,hrd,aKX,aqD,hgr⟩:=A
  have avh:=hL.lt c gq
  have hd:c.1<65536:=by omega
  have hs:=hL.ok c gq
  have aRj:=alX os.length c.1
  have s1:=kTSu nx
  have hbl:=aqD.len
  have hLl:=hL.len
  have hkb:∀ y∈bad,y.2.kids.length≤3:=fun y hy=>T7 (hL.ok y (aqD.sub y hy))
  have e0:=E0 h nx (.cells (eC c) .fix)
  have F0:=lU.jk e0 ob
  have bj1:aa bj (av nx (some (.cells (eC c) .fix)) h)=some (.cells (wB X i cO s0) .fix):=by rw[e0.g bj C3];exact hb
  have bc1:aa nx (av nx (some (.cells (eC c) .fix)) h)=some (.cells (eC c) .fix):=by simp
  have gr1:=hgr.ext e0
  have aEY:ob≠some nx:=fun e=>by have:=hgr.lt nx e;omega
  obtain⟨rd1,aKZ⟩:=hrd.aEW aKX F0
  refine S.z7.call ?_
  simp[wG]
  simp[xV,Ul,Jo]
  generalize av nx (some (.cells (eC c) .fix)) h=h1 at *
  simp[xW,bc1,eC,rA]
  refine(alY S ho hc hd bj1).mono ?_
  rintro o pT aRk ⟨rfl,rfl,rfl⟩
  cases aBb:aiz os c.1 with
  |true=>
   simp
   simp[xX]
   refine⟨bad,c3,ob,aqD,gr1,⟨[],by simp,by simp⟩,F0,.inl ⟨[],c2,.now aBb,?_,?_,fun _ _ _ _ _=>.inr rfl,rfl⟩⟩
   ·simp[OX];omega
   ·simpa[OX] using rd1
  |false=>
   simp
   simp[xY,bc1,H4,Jo,rH]
   refine(amC S (by omega) hkb (T7 hs) gr1.rd).mono ?_
   rintro o h2 aI ⟨rfl,e2⟩
   have n2:=e2.n
   have F2:=F0.trans (lU.jk e2 ob)
   have gr2:=gr1.ext e2
   have rd2:=rd1.ext e2
   have bc2:aa nx h2=some (.cells (eC c) .fix):=by rw[e2.g nx (by omega)];exact bc1
   have Lf:aa bj h2=some (.cells (wB X i cO s0) .fix):=by rw[e2.g bj (by omega)];exact bj1
   by_cases TE:c∈bad
   ·simp[TE]
    simp[xZ]
    exact⟨bad,c3,ob,aqD,gr2,⟨[],by simp,by simp⟩,F2,.inr ⟨aqD.no c TE,rfl⟩⟩
   ·simp[TE]
    simp[x0]
    refine W.di (n:=os.length) (aEX X i os L bj c ord bad c2 ob nx h2 aI) ⟨0,bad,c3,ob,by simp,by omega,by simp,by simp,by simp,by simp,by simp,gr2,aqD,⟨[],by simp,by simp⟩,by simp[Sys.fy],lU.refl _ _ _⟩ ?_
    rintro m cu h3 bu ⟨j,Db,cB,jw,rfl,hj,g0,g2,g5,g11,g3,G,BO,⟨t,et,ht⟩,sE,F⟩
    have n3:=F.n
    have Oj:aa bj h3=some (.cells (wB X i cO s0) .fix):=by rw[F.g bj (by omega) hbo];exact Lf
    have bc3:aa nx h3=some (.cells (eC c) .fix):=by rw[F.g nx (by omega) aEY];exact bc2
    obtain⟨rd3,aRn⟩:=rd2.aEW aKZ F
    have Rx:jw≠some bj:=F.ne (by omega) hbo
    have hn3:jw≠some nx:=F.ne (by omega) aEY
    refine W.of ?_
    simp[x4]
    by_cases aR:j<os.length
    ·have sB:(j:Int)<os.length:=by omega
     have fi:cO=.sl (ai eO os) os.length 10 .any:=by
      rcases hc with⟨_,rfl⟩|e
      ·simp at aR
      ·exact e
     subst fi
     have af:∀ n H,aY n (aB c.2.kids) H=(aB c.2.kids,H):=dB _
     have Oi:=FI hi pU (Fo aR)
     have dQ:=th (dS X i os) c j
     have TB:=Qo X i os c j
     rw[w4 aR] at TB
     simp[kq,g0,g11,Oj,wB,sB]
     simp[x5,g0,g5,g11,bc3,eC,rO]
     refine(Us S ho hc aR hd Oj (by omega)).mono ?_
     rintro o h4 mB ⟨rfl,e4⟩
     have n4:=e4.n
     have TA:aa bj h4=some (.cells (wB X i (.sl (ai eO os) os.length 10 .any) s0) .fix):=by rw[e4.g bj (by omega)];exact Oj
     have bc4:aa nx h4=some (.cells (eC c) .fix):=by rw[e4.g nx (by omega)];exact bc3
     have G4:=G.ext e4
     have F4:=F.trans (lU.jk e4 jw)
     have rd4:=rd3.ext e4
     -- a call ay6 leads aGp
     have next:∀ (tm2:T AV) (h5:T ah) (zA:Key) (bd:List (Cf St)) (cC:AV) (ob5:Option Key),aa (K 0) tm2=some (.ptr bj 0)→aa (K 2) tm2=some c2→aa (K 5) tm2=some (.ptr nx 0)→aa (K 11) tm2=some (I j)→aa (K 3) tm2=some cC→Gr 5 cC (ai eC bd) bd.length h5 zA ob5→zB (dS X i os) L bd→(∃ t,bd=bad++t∧∀ x∈t,c.1<x.1)→(∀ x∈(dS X i os).fy c (j+1),¬ Good (dS X i os) x.2)→lU h2 aI ob h5 zA ob5→
       mF C (aq (fun tm h' nx'=>∃ m,m<os.length-j∧aEX X i os L bj c ord bad c2 ob nx h2 aI m tm h' nx') (ak 0 (aq (dz C (.seq (.ops js) .ret) (Jw [.tmp (K 8),.tmp (K 9),.tmp (K 10)] (aw5 X i os L c ord bad c2 ob h nx))) (Jw [.tmp (K 8),.tmp (K 9),.tmp (K 10)] (aw5 X i os L c ord bad c2 ob h nx))))) nA tm2 h5 zA:=by
      intro tm2 h5 zA bd cC ob5 q0 q2 q5 DL q3 G5 BO5 ht5 aK1 F5
      simp[nA,DL]
      rw[au (by omega) (by omega)]
      exact⟨os.length-(j+1),by omega,j+1,bd,cC,ob5,rfl,by omega,by simp[q0],by simp[q2],by simp[q5],by simp,by simp[q3],G5,BO5,ht5,aK1,F5⟩
     cases jx:A0 os j c.1 with
     |false=>
      rw[jx] at TB
      simp
      refine next _ _ _ Db cB jw ?_ ?_ ?_ ?_ ?_ G4 BO ⟨t,et,ht⟩ (by rw[dQ,TB];simpa using sE) F4<;>simp[g0,g2,g5,g11,g3]
     |true=>
      rw[jx,if_pos rfl] at TB
      simp
      simp[x6,g0,g5,g11,bc4,eC,rT,af]
      refine(Ld S hc Oi hs TA (by omega)).mono ?_
      rintro out h5 zA ⟨⟨u,rfl,hu⟩,e5⟩
      have s5:=kTSu zA
      have n5:=e5.n
      simp[xm,lenS,GH]
      have e6:=E0 h5 zA (.cells (eS u) .fix)
      have e56:=e5.trans e6
      have bj6:aa bj (av zA (some (.cells (eS u) .fix)) h5)=some (.cells (wB X i (.sl (ai eO os) os.length 10 .any) s0) .fix):=by rw[e56.g bj (by omega)];exact TA
      have bc6:aa nx (av zA (some (.cells (eS u) .fix)) h5)=some (.cells (eC c) .fix):=by rw[e56.g nx (by omega)];exact bc4
      have bu6:aa zA (av zA (some (.cells (eS u) .fix)) h5)=some (.cells (eS u) .fix):=by simp
      have G6:=G4.ext e56
      have F6:=F4.trans (lU.jk e56 jw)
      have rd6:=rd4.ext e56
      generalize av zA (some (.cells (eS u) .fix)) h5=h6 at *
      cases CU:X.take (cm i os[j]) os[j] c.2 with
      |none=>
       rw[CU] at TB
       simp
       simp[pA]
       refine next _ _ _ Db cB jw ?_ ?_ ?_ ?_ ?_ G6 BO ⟨t,et,ht⟩ (by rw[dQ,TB];simpa using sE) F6<;>simp[g0,g2,g5,g11,g3]
      |some u'=>
       rw[CU] at TB
       have:=hu u' CU
       subst this
       simp
       simp[pA]
       simp[vW]
       obtain⟨c14,h7,nx7,o14,ha7,G14,F7⟩:=Un (h:=h6) (nx:=zA.succ) (sF.rows ord) (by omega)
       simp[-appendTo,↓rd6.app sF ha7,vX,g2]
       have hp:0<2^j∧2^j≤65536:=⟨Nat.two_pow_pos j,tS (by omega)⟩
       have aBc:(dS X i os).step c j=some (j,(c.1+2^j,u)):=TB
       have sC:(j,((c.1+2^j,u):Cf St))∈(dS X i os).steps c:=List.mem_filterMap.2 ⟨j,List.mem_range.2 aR,aBc⟩
       have ayD:=hL.closed c gq _ sC
       have aEZ:=LN hSo sC avh
       obtain⟨bq',esp⟩:=alZ (dS X i os) c aR aBc
       have aBd:pop os.length (c.1+2^j)=pop os.length c.1+1:=aEZ
       have nR:=alX os.length (c.1+2^j)
       rw[aBc] at dQ
       generalize Qz:2^j=p at hp sC ayD aBd nR esp dQ
       have s7:=kTSu nx7
       have n7:=F7.n
       have e8:=E0 h7 nx7 (.cells [I j] .fix)
       obtain⟨c15,h9,nx9,o15,ha9,G15,F9⟩:=(G14.ext e8).BG sF (by decide) (by decide) (by omega) (j:Int)
       have FF:=(F7.trans (lU.jk e8 o14)).trans F9
       have bj9:aa bj h9=some (.cells (wB X i (.sl (ai eO os) os.length 10 .any) s0) .fix):=by rw[FF.g bj (by omega) (by simp)];exact bj6
       have bc9:aa nx h9=some (.cells (eC c) .fix):=by rw[FF.g nx (by omega) (by simp)];exact bc6
       have bu9:aa zA h9=some (.cells (eS u) .fix):=by rw[FF.g zA (by omega) (by simp)];exact bu6
       have bc7:aa nx h7=some (.cells (eC c) .fix):=by rw[F7.g nx (by omega) (by simp)];exact bc6
       have bu7:aa zA h7=some (.cells (eS u) .fix):=by rw[F7.g zA (by omega) (by simp)];exact bu6
       have bc8:aa nx (av nx7 (some (.cells [I j] .fix)) h7)=some (.cells (eC c) .fix):=by rw[e8.g nx (by omega)];exact bc7
       have bu8:aa zA (av nx7 (some (.cells [I j] .fix)) h7)=some (.cells (eS u) .fix):=by rw[e8.g zA (by omega)];exact bu7
       have G9:=G6.aKW FF
       have Fm:lU h6 zA.succ jw h9 nx9 jw:=⟨FF.n,fun b hb _=>FF.g b hb (by simp),.inl rfl⟩
       have F69:=F2.trans (F6.trans Fm)
       have aK6:Apt c15 jw:=by
        intro b o n z' e hob
        have at4:=G15.own e
        have bN:=G6.lt b hob
        rcases FF.o with e'|⟨y,e',hy⟩
        ·rw[at4] at e';cases e'
        ·rw[at4] at e';cases e';omega
       have hw:bV .i64 ((c.1:Int)+(p:Int))=(c.1:Int)+(p:Int):=au (by omega) (by omega)
       have afu:∀ n H,aY n (aB u.kids) H=(aB u.kids,H):=dB _
       have q1:AV.beq (I c.1) (I c.1)=true:=beq_refl _ rfl
       have q2:=aDo u
       have hej:eI (j:Int)=[I j]:=rfl
       rw[hej] at ha9
       simp[eS] at q2
       simp[-appendTo,vY,g0,g3,g5,g11,bc7,bu7,eC,eS,rB]
       refine(ajx S (by omega)).mono ?_
       rintro o hx nxx ⟨rfl,ex,exn⟩
       rw[ex,exn,Qz]
       simp[-appendTo,hw,bc7,bu7,bc9,bu9,eC,eS,afu,ha9,q1,q2,rF]
       have hA:azf X i os (.sl (ai eO os) os.length 10 .any) s0 L bj (c.1+p,u) (ord ++ [(j:Int)]) Db c15 cB jw h9 nx9:=⟨bj9,by have:=FF.n;omega,Rx,ayD,by rw[zqf];simp;omega,G15.rd,aK6,BO,G9⟩
       have MO:=ih (c:=(c.1+p,u)) (by show 2^os.length-(c.1+p)≤M;omega) hA
       simp[eC] at MO
       refine MO.mono ?_
       rintro o h10 aRA ⟨aBe,cB2,ob2,BO2,G10,⟨t2,et2,ht2⟩,F10,MP⟩
       have aBf:=F69.trans F10
       have ht3:∀ x∈t++t2,c.1<x.1:=by
        intro x hx
        rcases List.mem_append.1 hx with hx|hx
        ·exact ht x hx
        ·have h1:c.1+p≤x.1:=ht2 x hx
         omega
       have et3:aBe=bad++(t++t2):=by rw[et2,et,List.append_assoc]
       rcases MP with⟨q,cR,hq,hql,hqr,hqn,rfl⟩|⟨hng,rfl⟩
       ·simp
        simp[nB]
        simp[nC]
        simp[vZ]
        have el:ord ++ [(j:Int)]++OX q=ord++OX (j ::q):=by simp[OX]
        rw[el] at hql hqr
        refine⟨aBe,cB2,ob2,BO2,G10,⟨t++t2,et3,fun x hx=>Nat.le_of_lt (ht3 x hx)⟩,aBf,.inl ⟨j ::q,cR,Path.step aBb esp sE hq,hql,hqr,fun b o n z' e=>.inl ?_,rfl⟩⟩
        have nFF:=FF.n
        rcases hqn b o n z' e with e'|e'
        ·omega
        ·rw[e'] at e
         have at4:=G15.own e
         rcases FF.o with e''|⟨y,e'',hy⟩
         ·rw[at4] at e'';cases e''
         ·rw[at4] at e'';cases e'';omega
       ·simp
        simp[nB]
        simp[nC]
        have aK7:∀ x∈(dS X i os).fy c (j+1),¬ Good (dS X i os) x.2:=by
         rw[dQ]
         intro x hx
         rcases List.mem_append.1 hx with hx|hx
         ·exact sE x hx
         ·simp at hx;subst hx;exact hng
        refine next _ _ _ aBe cB2 ob2 ?_ ?_ ?_ ?_ ?_ G10 BO2 ⟨t++t2,et3,ht3⟩ aK7 (F.trans ((lU.jk (e4.trans e56) jw).trans (Fm.trans F10)))<;>simp[g0,g2,g5,g11]
    ·have nS:j=os.length:=by omega
     subst nS
     have hng:¬ Good (dS X i os) c:=at5 aBb sE
     have aK8:c∉Db:=by
      rw[et]
      intro hx
      rcases List.mem_append.1 hx with hx|hx
      ·exact TE hx
      ·have:=ht c hx;omega
     have BO2:=BO.add gq aK8 hng
     have aRD:=BO.len
     have s3:=kTSu bu
     have e4:=E0 h3 bu (.cells (eC c) .fix)
     obtain⟨cC,h5,zA,o5,ha5,G5,F5⟩:=(G.ext e4).BG gP (by decide) (by decide) (by omega) c
     have aBf:=F2.trans (F.trans ((lU.jk e4 jw).trans F5))
     have fin:∀ (tm2:T AV),aa (K 3) tm2=some cB→aa (K 5) tm2=some (.ptr nx 0)→dz C (.seq (.ops js) .ret) (Jw [.tmp (K 8),.tmp (K 9),.tmp (K 10)] (aw5 X i os L c ord bad c2 ob h nx)) tm2 h3 bu:=by
      intro tm2 q3 q5
      simp
      simp[-appendTo,js,q3,q5,bc3,Ul,Jo,H4,ash,ajv,ha5]
      exact⟨Db ++ [c],cC,o5,BO2,G5,⟨t ++ [c],by rw[et,List.append_assoc],fun x hx=>by
       rcases List.mem_append.1 hx with hx|hx
       ·exact Nat.le_of_lt (ht x hx)
       ·simp at hx;subst hx;exact fe _⟩,aBf,.inr ⟨hng,rfl⟩⟩
     simp only[aL,aQ] at fin
     rcases id hc with⟨Lu,H0⟩|Lu
     ·have:(os.length:Int)=0:=by rw[H0];rfl
      simp[kq,g0,g11,Oj,wB,Lu,this]
      refine fin _ ?_ ?_<;>simp[g3,g5]
     ·simp[kq,g0,g11,Oj,wB,Lu]
      refine fin _ ?_ ?_<;>simp[g3,g5]
end Ln
/-
 LN: Find: the reference. No condition.
-/
namespace Ln
open Go.Sx Go
theorem _root_.Go.Sx.aze{n:Nat}{b:Key}{len sz:Nat}{l:List AV}{H:T ah}(hg:aa b H=some (.cells l .ro))(hl:l.length=len*sz)(hs:∀ x∈l,Rm x):aY (n+1) (.slice b 0 len sz) H=(.sl l len sz .any,H):=by
 simp only[aY,Jp,hg,List.drop_zero]
 rw[if_pos (by omega),P8 (by omega),du hs]
theorem _root_.Go.Sx.Rd.I1{z:Nat}{c:AV}{α:Type}{enc:α→List AV}(F:Flat z enc){us:List α}{h:T ah}{nx n0:Key}(g:Rd z c (ai enc us) us.length h nx)(hn:∀ b o n z',c=.slice b o n z'→n0.toNat≤b.toNat)(n:Nat) :
  iD z enc (aY (n+1) c h).1 us∧∀ b:Key,b.toNat<n0.toNat→aa b (aY (n+1) c h).2=aa b h:=by
 rcases g with⟨rfl,e1,e2⟩|⟨f,rfl⟩|⟨b,k,rfl,hb,_,hl⟩
 ·exact⟨.inl ⟨rfl,TW e2⟩,fun _ _=>rfl⟩
 ·exact⟨.inr rfl,fun _ _=>rfl⟩
 ·have h0:=hn b _ _ _ rfl
  cases k with
  |part=>
   rw[Fp hb hl (F.HD us)]
   exact⟨.inr rfl,fun x hx=>az (by omega)⟩
  |fix=>
   rw[GB hb hl (F.HD us)]
   exact⟨.inr rfl,fun x hx=>az (by omega)⟩
  |ro=>
   rw[aze hb hl (F.HD us)]
   exact⟨.inr rfl,fun x hx=>rfl⟩
abbrev asb(X:Kn)(i:Nat)(l:List Ev):Sys St:=dS X i (cv 0 l)
def asc(X:Kn)(i:Nat)(l:List Ev)(h:T ah)(nx:Key)(o:Out)(h':T ah)(nx':Key):Prop:=Ext h nx h' nx'∧
 ((mu i l≠0∧o=.ret (.tuple [.nils,.nils,I (mu i l)]))∨
  (mu i l=0∧((bfs (asb X i l) 1025 0 [(0,bL i)]=none∧o=.ret (.tuple [.nils,.nils,I 4]))∨
   ∃ L,bfs (asb X i l) 1025 0 [(0,bL i)]=some L∧((∃ p cR,Path (asb X i l) (0,bL i) p∧(OX p).length≤16∧iD 1 eI cR (OX p)∧o=.ret (.tuple [cR,.nils,I 0]))∨
    (¬ Good (asb X i l) (0,bL i)∧∃ out cR,out.Pairwise RZ∧(∀ x,x∈out↔x∈L)∧iD 5 eC cR out∧o=.ret (.tuple [.nils,cR,I 0]))))))
variable{C:dm}{X:Kn}(S:Std C X)
include S
theorem asd{i:Nat}(hi:i<3){ev:AV}{l:List Ev}(hv:iD 8 eE ev l)(hl:Tu l){h:T ah}{nx:Key} :
  aO C mV [X.m,dE i,ev,jG] h nx (asc X i l h nx):=by
 have s1:=kTSu nx
 have s2:=kTSu nx.succ
 have rb:C.raw gy=false:=S.nr (by decide)
 have rR:C.raw iL=false:=S.nr (by decide)
 have rF:C.raw ep=true:=S.rw (by decide)
 have hz:∀ H,aY 9999 ev H=(ev,H):=fun H=>hv.Fl _ _
 have tG:(cv 0 l).length≤16:=by have:=qg l 0;have:=hl.len;omega
 refine S.GC.call ?_
 simp[EI]
 simp[DE,Kn.m,jG]
 have e2:=(E0 h nx (.cells [.sl X.rows 7 45 .any] .fix)).trans (E0 _ nx.succ (.cells [I 200,I 50] .fix))
 have Qh:aa nx (av nx.succ (some (.cells [I 200,I 50] .fix)) (av nx (some (.cells [.sl X.rows 7 45 .any] .fix)) h))=some (.cells [.sl X.rows 7 45 .any] .fix):=by rw[az (by omega)];simp
 have bl2:aa nx.succ (av nx.succ (some (.cells [I 200,I 50] .fix)) (av nx (some (.cells [.sl X.rows 7 45 .any] .fix)) h))=some (.cells [I 200,I 50] .fix):=by simp
 generalize av nx.succ (some (.cells [I 200,I 50] .fix)) (av nx (some (.cells [.sl X.rows 7 45 .any] .fix)) h)=h2 at *
 simp[DF,Qh,bl2,rb,hz]
 refine(Um S hi hv hl).mono ?_
 rintro o h3 bu ⟨e3,hR⟩
 have H5:=e2.trans e3
 have n3:=e3.n
 rcases hR with⟨bI,rfl⟩|⟨kV,bj,cO,rfl,Oj,hc,bj0,bjn⟩
 ·simp
  simp[wk,bq bI]
  simp[DG]
  exact⟨H5,.inl ⟨bI,rfl⟩⟩
 ·obtain⟨Qb,pU⟩:=BQ kV
  simp
  simp[wk]
  simp[DH,rR]
  refine(ase S hi pU tG hc (R0 hi) Oj bjn).mono ?_
  rintro o h4 mB ⟨e4,hR⟩
  have Da:=H5.trans e4
  have n4:=e4.n
  have TA:aa bj h4=some (.cells (wB X i cO (bL i)) .fix):=by rw[e4.g bj bjn];exact Oj
  rcases hR with⟨og,rfl⟩|⟨L,out,cR,og,kp,h0,K9,hpw,gq,hcR,rfl⟩
  ·simp
   simp[wm]
   simp[DI]
   exact⟨Da,.inr ⟨kV,.inl ⟨og,rfl⟩⟩⟩
  ·simp
   simp[wm]
   have Qi:=(bc (bL i).kids).1
   have wh:Whole (asb X i l) L (0,bL i):=⟨kp,h0⟩
   have hL:Cls X i (cv 0 l) L:=⟨fun c hc=>wh.closed hc,kp.len,kp.lt,K9⟩
   have hA:azf X i (cv 0 l) cO (bL i) L bj (0,bL i) [] [] .nils .nils none h4 mB:=⟨TA,by omega,by simp,List.mem_of_getElem? h0,by simp,.inl ⟨rfl,rfl,rfl⟩,(fun _ _ _ _ e=>by cases e),zB.nil _ _,Gr.nil _ _ _⟩
   have MO:=asf S hi pU tG hc hL (2^(cv 0 l).length) (Nat.sub_le _ _) hA
   simp[eC] at MO
   simp[DJ,TA,wB,Qi,rF]
   refine MO.mono ?_
   rintro o h5 zA ⟨Db,cB,jw,BO,G,_,F,MP⟩
   have n5:=F.n
   have e5:Ext h4 mB h5 zA:=⟨F.n,fun b hb=>F.g b hb (by simp)⟩
   have e25:=Da.trans e5
   rcases MP with⟨p,c8,hp,nR,hrd,aju,rfl⟩|⟨hng,rfl⟩
   ·simp
    simp[wo]
    have fr:=hrd.I1 sF (n0:=mB) (fun b o n z' e=>by
     rcases aju b o n z' e with h|h
     ·exact h
     ·rw[h] at e;cases e) 9998
    simp[DK]
    refine⟨⟨by have:=e25.n;omega,fun b hb=>?_⟩,.inr ⟨kV,.inr ⟨L,og,.inl ⟨p,_,hp,nR,fr.1,rfl⟩⟩⟩⟩
    have n24:=Da.n
    rw[fr.2 b (by omega)];exact e25.g b hb
   ·simp
    simp[wo]
    have hcz:∀ n H,aY n cR H=(cR,H):=fun n H=>hcR.Fl n H
    simp[BR,hcz]
    exact⟨e25,.inr ⟨kV,.inr ⟨L,og,.inr ⟨hng,out,cR,hpw,gq,hcR,rfl⟩⟩⟩⟩
end Ln
/-
 LN: numbers, names, limits; events of the program. No condition.
-/
namespace Ln
open Go.Sx Go
def td(n:Int):Prop:=-9223372036854775808≤n∧n<9223372036854775808
def aro(n:Int)(m:Nat):Nat:=(if n<0 then -(n+1) else n).toNat%m
theorem Se{m:Nat}(h:0<m)(n:Int):aro n m<m:=Nat.mod_lt _ h
def nmI(n:Int):Nat:=aro n 3
variable{C:dm}{X:Kn}(S:Std C X)
include S
theorem CY{n:Int}(hn:td n){m:Nat}(hm:0<m)(On:m≤1000000){h:T ah}{nx:Key}:aO C cM [I n,I m] h nx (fun o h' nx'=>o=.ret (I (aro n m))∧h'=h∧nx'=nx):=by
 obtain⟨h1,h2⟩:=hn
 have Lc:((m:Int)==0)=false:=bq (by omega)
 refine S.B7.call ?_
 simp[yS]
 simp[zK]
 have fin:∀ (tm2:T AV) (k:Nat),(k:Int)<9223372036854775808→aro n m=k%m→aa (K 0) tm2=some (I k)→aa (K 1) tm2=some (I m)→dz C (.seq (.ops qW) .ret) (bb [.tmp (K 4)] fun o h' nx'=>o=.ret (I (aro n m))∧h'=h∧nx'=nx) tm2 h nx:=by
  intro tm2 k hk e q0 q1
  have bN:k%m<m:=Nat.mod_lt _ hm
  have ht:Int.tmod (k:Int) (m:Int)=((k%m:Nat):Int):=rfl
  have hw:bV .i64 ((k%m:Nat):Int)=((k%m:Nat):Int):=au (by omega) (by omega)
  rw[e]
  simp
  simp[-Int.natCast_emod,qW,q0,q1,Lc,ht,hw]
  exact Int.natCast_emod k m
 simp only[aL,aQ] at fin
 by_cases bN:n<0
 ·obtain⟨k,hk⟩:=Int.eq_ofNat_of_zero_le (a:=-(n+1)) (by omega)
  have e:aro n m=k%m:=by unfold aro;rw[if_pos bN,hk];rfl
  have w1:bV .i64 (n+1)=n+1:=au (by omega) (by omega)
  have w2:bV .i64 (-(n+1))=k:=by rw[au (by omega) (by omega),hk]
  simp[qX,bN]
  simp[zL,w1,w2]
  refine fin _ k (by omega) e ?_ ?_<;>simp
 ·obtain⟨k,hk⟩:=Int.eq_ofNat_of_zero_le (a:=n) (by omega)
  have e:aro n m=k%m:=by unfold aro;rw[if_neg bN,hk];rfl
  simp[qX,bN]
  refine fin _ k (by omega) e ?_ ?_
  ·simp[hk]
  ·simp
theorem ap9{h:T ah}{nx:Key}:aO C jQ [] h nx (fun o h' nx'=>o=.ret (.sl [dE 0,dE 1,dE 2] 3 1 .any)∧Ext h nx h' nx'):=by
 have s1:=kTSu nx
 refine S.B8.call ?_
 simp[yT]
 simp[zM]
 have fz:=fun(H:T ah) (hg:aa nx H=some (ah.cells [dE 0,dE 1,dE 2] CK.fix))=>GB (n:=9998) (len:=3) (sz:=1) hg rfl (by intro x hx;simp at hx;rcases hx with rfl|rfl|rfl<;>exact sZ _ _)
 simp[jg] at fz
 simp[zN,fz,jg]
 exact E0 _ _ _
theorem CW{n:Int}(hn:td n){h:T ah}{nx:Key}:aO C de [I n] h nx (fun o h' nx'=>o=.ret (dE (nmI n))∧Ext h nx h' nx'):=by
 have rM:C.raw jQ=false:=S.nr (by decide)
 have rA:C.raw cM=false:=S.nr (by decide)
 refine S.GP.call ?_
 simp[EU]
 simp[DU]
 simp[DV,rM]
 refine(ap9 S).mono ?_
 rintro o h1 bM ⟨rfl,e1⟩
 simp[rA]
 refine(CY S hn (m:=3) (by omega) (by omega)).mono ?_
 rintro o h2 aI ⟨rfl,rfl,rfl⟩
 have bN:=Se (m:=3) (by omega) n
 have hi:nmI n=aro n 3:=rfl
 rw[hi]
 generalize aro n 3=k at *
 have hk:k=0∨k=1∨k=2:=by omega
 rcases hk with rfl|rfl|rfl<;>simp<;>exact e1
theorem xf{h:T ah}{nx:Key}:aO C cJ [] h nx (fun o h' nx'=>o=.ret jG∧Ext h nx h' nx'):=by
 refine S.B9.call ?_
 simp[yU]
 simp[zO]
 simp[zP,jG]
 exact E0 _ _ _
theorem tF(n:Int){h:T ah}{nx:Key}:aO C fj [I n] h nx (fun o h' nx'=>o=.ret (.agg (eU ⟨0,n⟩))∧Ext h nx h' nx'):=by
 refine S.Ca.call ?_
 simp[yV]
 simp[zQ]
 simp[zR,eU]
 exact E0 _ _ _
end Ln
/-
 LN: events of the program. No condition.
-/
namespace Ln
open Go.Sx Go
variable{C:dm}{X:Kn}(S:Std C X)
def EvI(l:List Ev)(c0:AV)(h:T ah)(nx:Key)(m:Nat)(an:T AV)(h':T ah)(nx':Key):Prop:=∃ (j:Nat) (c3:AV),m=l.length-j∧j≤l.length∧aa (K 0) an=some c0∧aa (K 3) an=some c3∧aa (K 4) an=some (I j)∧App c3 (ai eE (l.take j)) (l.take j).length 8 h' nx' nx∧Ext h nx h' nx'
include S
theorem Qj{l:List Ev}(hl:l.length≤1000){c0:AV}(hc:iD 8 eE c0 l){h:T ah}{nx:Key}:aO C fm [c0] h nx (fun o h' nx'=>∃ cR,o=.ret cR∧iD 8 eE cR l∧Ext h nx h' nx'):=by
 refine S.Co.call ?_
 simp[y8]
 simp[As]
 simp[Au]
 simp[Av]
 refine W.di (n:=l.length) (EvI l c0 h nx) ⟨0,.nils,by simp,by omega,by simp,by simp,by simp,App.nil _,Ext.refl _ _⟩ ?_
 rintro m cu h1 bM ⟨j,c3,rfl,hj,g0,g3,g4,hA,e1⟩
 refine W.of ?_
 simp[Aw]
 have hR:Rd 8 c0 (ai eE l) l.length h1 bM:=hc.rd _ _
 by_cases aR:j<l.length
 ·have sB:(j:Int)<l.length:=by omega
  have fi:c0=.sl (ai eE l) l.length 8 .any:=by
   rcases hc with⟨_,rfl⟩|e
   ·simp at aR
   ·exact e
  subst fi
  have ec:=ew.at aR
  have hr:=ew.rows l
  have tx:8≤l.length*8-j*8:=by omega
  have n1:=e1.n
  have s1:=kTSu bM
  have Qi:=bc l[j].args
  have e2:=E0 h1 bM (.cells (eE l[j]) .fix)
  have bN:(l.take j).length=j:=by rw[zqy,Nat.min_eq_left (by omega)]
  obtain⟨c6,h6,nx6,ha,hA6,n6,k6,_⟩:=(hA.ext e2).BG ew (by omega) (by omega) l[j]
  have ee:eE l[j]=[I l[j].kind,I l[j].client,.str l[j].name.1 l[j].name.2,aB l[j].args,I l[j].res.k,I l[j].res.n,.str 0 0,.nils]:=rfl
  have af:∀ n H,aY n (aB l[j].args) H=(aB l[j].args,H):=dB _
  rw[← zqu aR] at hA6
  rw[ee] at ec ha e2 k6
  simp[si,g0,g4,sB]
  simp[-appendTo,Ax,g0,g3,g4,aR,hr,tx,ec,Qi.1,Qi.2,af,ha]
  simp[Ay,g4]
  rw[au (by omega) (by omega)]
  exact⟨l.length-(j+1),by omega,j+1,c6,rfl,by omega,by simp[g0],by simp,by simp,hA6,by omega,fun b hb=>by rw[k6 b hb,e2.g b (by omega)];exact e1.g b hb⟩
 ·have nS:j=l.length:=by omega
  subst nS
  rw[List.take_length] at hA
  have fr:=hA.I1 ew 9998
  simp[↓hR.ln,si,g0,g4]
  simp[Az,g3]
  exact⟨fr.1,e1.n,fun b hb=>by rw[fr.2 b hb];exact e1.g b hb⟩
end Ln
/-
 LN: the generator of histories: its data. No condition.
-/
namespace Ln
open Go.Sx Go
def QR(c:AV)(len:Nat)(h:T ah)(nx:Key)(oQ:Option Key):Prop:=(c=.nils∧len=0∧oQ=none)∨
 (∃ (b:Key) (off:Nat) (q:List Int),oQ=some b∧c=.slice b off len 1∧aa b h=some (.cells (ai eI q) .part)∧q.length=off+len∧b.toNat<nx.toNat)∨
 (∃ (t:Key) (q:List Int),oQ=some t∧c=.sl (ai eI q) len 1 (.tok t)∧q.length=len∧aa t h=some .tok∧t.toNat<nx.toNat)
section
variable{c:AV}{len:Nat}{h h':T ah}{nx nx':Key}{oQ:Option Key}
theorem QR.lt(g:QR c len h nx oQ):∀ b,oQ=some b→b.toNat<nx.toNat:=by
 intro b hb
 rcases g with⟨_,_,e⟩|⟨b',off,q,e,_,_,_,h4⟩|⟨t,q,e,_,_,_,h4⟩
 ·rw[hb] at e;cases e
 ·rw[hb] at e;cases e;exact h4
 ·rw[hb] at e;cases e;exact h4
theorem QR.kN(g:QR c len h nx oQ)(hn:nx.toNat≤nx'.toNat)(hk:∀ b,oQ=some b→aa b h'=aa b h):QR c len h' nx' oQ:=by
 rcases g with g|⟨b,off,q,e,h1,h2,h3,h4⟩|⟨t,q,e,h1,h2,h3,h4⟩
 ·exact .inl g
 ·exact .inr (.inl ⟨b,off,q,e,h1,by rw[hk b e];exact h2,h3,by omega⟩)
 ·exact .inr (.inr ⟨t,q,e,h1,h2,by rw[hk t e];exact h3,by omega⟩)
theorem QR.ext(g:QR c len h nx oQ)(e:Ext h nx h' nx'):QR c len h' nx' oQ:=g.kN e.n fun b hb=>e.g b (g.lt b hb)
theorem QR.add(g:QR c len h nx oQ)(hl:len+1≤1048576)(x:Int):∃ c' h' nx' o',appendTo 1 c [I x] 1 h nx=.val c' h' nx'∧QR c' (len+1) h' nx' o'∧lU h nx oQ h' nx' o'∧c'.aK=true∧c'.cells=[c']:=by
 have s1:=kTSu nx
 have hw:BD 1=false:=rfl
 rcases g with⟨rfl,rfl,rfl⟩|⟨b,off,q,rfl,rfl,h2,h3,h4⟩|⟨t,q,rfl,rfl,h2,h3,h4⟩
 ·exact⟨.slice nx 0 1 1,av nx (some (.cells (ai eI [x]) .part)) h,nx.succ,some nx,by simp[ai,eI],.inr (.inl ⟨nx,0,[x],rfl,rfl,by simp,rfl,by omega⟩),⟨by omega,fun b hb _=>az hb,.inr ⟨nx,rfl,fe _⟩⟩,rfl,rfl⟩
 ·have hr:(ai eI q).length=off+len:=by rw[bU,h3]
  have hd:List.drop off (ai eI q)=ai eI (q.drop off):=by have:=sF.drop q off;simpa using this
  refine⟨.sl (ai eI (q.drop off ++ [x])) (len+1) 1 (.tok nx),av nx (some .tok) (av b none h),nx.succ,some nx,?_,.inr (.inr ⟨nx,_,rfl,rfl,by simp;omega,by simp,by omega⟩),⟨by omega,fun y hy hk=>?_,.inr ⟨nx,rfl,fe _⟩⟩,rfl,rfl⟩
  ·simp[hl,h2,hr,hd,hw,mv,ou,eI]
  ·rw[az hy,bZ]
   rintro rfl
   exact hk rfl
 ·refine⟨.sl (ai eI (q ++ [x])) (len+1) 1 (.tok nx),av nx (some .tok) (av t none h),nx.succ,some nx,?_,.inr (.inr ⟨nx,_,rfl,rfl,by simp;omega,by simp,by omega⟩),⟨by omega,fun y hy hk=>?_,.inr ⟨nx,rfl,fe _⟩⟩,rfl,rfl⟩
  ·simp[hl,h3,mv,ou,eI]
  ·rw[az hy,bZ]
   rintro rfl
   exact hk rfl
theorem QR.ln(g:QR c len h nx oQ){C:dm}{Q:cX}{L:List J}{tm:T AV}{h2:T ah}{n2 k1 d1:Key}(h1:aa k1 tm=some c):mF C Q (⟨some d1,.lenL (.t k1),none⟩ ::L) tm h2 n2=mF C Q L (av d1 (some (I len)) tm) h2 n2:=by
 rcases g with⟨rfl,rfl,_⟩|⟨b,off,q,_,rfl,_⟩|⟨t,q,_,rfl,_⟩<;>simp[h1]
theorem QR.head(g:QR c len h nx oQ)(hl:0<len):∃ (z:Int) (v:AV),∀ {C:dm} {Q:cX} {L:List J} {tm:T AV} {n2 k1 d1 d2:Key},aa k1 tm=some c→mF C Q (⟨some d1,.indexL 1 (.t k1) (.v (.int .i64 (.lit 0))),none⟩ ::⟨some d2,.load false 1 (.t d1),none⟩ ::L) tm h n2=mF C Q L (av d2 (some (I z)) (av d1 (some v) tm)) h n2:=by
 rcases g with⟨rfl,rfl,_⟩|⟨b,off,q,_,rfl,h2,h3,_⟩|⟨t,q,_,rfl,h2,_⟩
 ·omega
 ·have hr:off<q.length:=by omega
  have hg:=xd hr
  refine⟨q[off],.ptr b off,fun h1=>?_⟩
  simp[h1,hl,h2,hr,bU]
 ·have hr:0<q.length:=by omega
  have hd:=jb hr
  have Ty:(ai eI q).length=q.length:=bU _
  refine⟨q[0],.cref [I q[0]],fun h1=>?_⟩
  simp at hd
  have tl:1≤q.length:=hr
  simp[h1,hl,Ty,hd,tl]
theorem QR.tail(g:QR c len h nx oQ)(hl:0<len):∃ c',QR c' (len-1) h nx oQ∧c'.aK=true∧c'.cells=[c']∧∀ {C:dm} {Q:cX} {L:List J} {tm:T AV} {h2:T ah} {n2 k1 d1:Key},aa k1 tm=some c→mF C Q (⟨some d1,.sliceL 1 (.t k1) (some (.v (.int .i64 (.lit 1)))) none,none⟩ ::L) tm h2 n2=mF C Q L (av d1 (some c') tm) h2 n2:=by
 rcases g with⟨rfl,rfl,_⟩|⟨b,off,q,rfl,rfl,h2,h3,h4⟩|⟨t,q,rfl,rfl,h2,h3,h4⟩
 ·omega
 ·refine⟨.slice b (off+1) (len-1) 1,.inr (.inl ⟨b,off+1,q,rfl,rfl,h2,by omega,h4⟩),rfl,rfl,fun h1=>?_⟩
  have hl1:1≤len:=hl
  simp[h1,hl1]
 ·have hd:List.drop 1 (ai eI q)=ai eI q.tail:=by have:=sF.drop q 1;simpa using this
  have hl1:1≤len:=hl
  have hql:q.tail.length=len-1:=by rw[List.length_tail,h2]
  refine⟨.sl (ai eI q.tail) (len-1) 1 (.tok t),.inr (.inr ⟨t,q.tail,rfl,rfl,hql,h3,h4⟩),rfl,rfl,fun h1=>?_⟩
  have mq:(ai eI q.tail).length=len-1:=by rw[bU,hql]
  have ht:List.take (len-1) (ai eI q.tail)=ai eI q.tail:=P8 (by omega)
  have hr0:len≤(ai eI q.tail).length+1:=by omega
  simp[h1,hl1,hd,hr0,ht]
end
end Ln
/-
 LN: the generator of histories: a call takes place. No condition.
-/
namespace Ln
open Go.Sx Go
structure GS where
 n:Int
 d:Nat→Int
 o:Nat→Bool
 lt:Nat→Bool
 a:Nat→Int
 s:Nat→Nat×Nat
def oi{α:Type}(f:Nat→α)(c:Nat)(v:α):Nat→α:=fun i=>if i=c then v else f i
@[simp] theorem aCH{α:Type}(f:Nat→α)(c:Nat)(v:α):oi f c v c=v:=by simp[oi]
@[simp] theorem aGz{α:Type}(f:Nat→α){c i:Nat}(v:α)(h:i≠c):oi f c v i=f i:=by simp[oi,h]
def gB(m:Nat×Nat)(cL cQ:AV)(g:GS):List AV:=[cL,.str m.1 m.2,I g.n,cQ,I (g.d 0),I (g.d 1),I (g.d 2),I (g.d 3),.bool (g.o 0),.bool (g.o 1),.bool (g.o 2),.bool (g.o 3),.bool (g.lt 0),.bool (g.lt 1),.bool (g.lt 2),.bool (g.lt 3),I (g.a 0),I (g.a 1),I (g.a 2),I (g.a 3),.str (g.s 0).1 (g.s 0).2,.str (g.s 1).1 (g.s 1).2,.str (g.s 2).1 (g.s 2).2,.str (g.s 3).1 (g.s 3).2]
structure tE(bg n0:Key)(m:Nat×Nat)(l:List Ev)(g:GS)(k:Nat)(cL cQ:AV)(oL oQ:Option Key)(h:T ah)(nx:Key):Prop where
 nM:aa bg h=some (.cells (gB m cL cQ g) .fix)
 L:Gr 8 cL (ai eE l) l.length h nx oL
 Q:∃ len,len≤k∧QR cQ len h nx oQ
 b0:n0.toNat≤bg.toNat
 bn:bg.toNat<nx.toNat
 lo:∀ b,oL=some b→n0.toNat≤b.toNat∧b≠bg∧oQ≠some b
 qo:∀ b,oQ=some b→n0.toNat≤b.toNat∧b≠bg
structure Old(n0:Key)(h:T ah)(nx:Key)(h':T ah)(nx':Key):Prop where
 n:nx.toNat≤nx'.toNat
 g:∀ b:Key,b.toNat<n0.toNat→aa b h'=aa b h
theorem Old.trans{n0 nx nx' n2:Key}{h h' h2:T ah}(a:Old n0 h nx h' nx')(b:Old n0 h' nx' h2 n2):Old n0 h nx h2 n2:=⟨Nat.le_trans a.n b.n,fun x hx=>(b.g x hx).trans (a.g x hx)⟩
theorem _root_.Go.Sx.Gr.cell{z:Nat}{c:AV}{l:List AV}{len:Nat}{h:T ah}{nx:Key}{ob:Option Key}(g:Gr z c l len h nx ob):c.aK=true∧c.cells=[c]:=by
 rcases g with⟨rfl,_⟩|⟨b,k,_,rfl,_⟩|⟨t,_,rfl,_⟩<;>exact⟨rfl,rfl⟩
theorem QR.cell{c:AV}{len:Nat}{h:T ah}{nx:Key}{oQ:Option Key}(g:QR c len h nx oQ):c.aK=true∧c.cells=[c]:=by
 rcases g with⟨rfl,_⟩|⟨b,off,q,_,rfl,_⟩|⟨t,q,_,rfl,_⟩<;>exact⟨rfl,rfl⟩
theorem tE.put{bg n0:Key}{m:Nat×Nat}{l:List Ev}{g g':GS}{k:Nat}{cL cQ:AV}{oL oQ:Option Key}{h:T ah}{nx:Key}(G:tE bg n0 m l g k cL cQ oL oQ h nx):tE bg n0 m l g' k cL cQ oL oQ (av bg (some (.cells (gB m cL cQ g') .fix)) h) nx∧Old n0 h nx (av bg (some (.cells (gB m cL cQ g') .fix)) h) nx:=by
 obtain⟨len,hlen,hQ⟩:=G.Q
 refine⟨⟨by simp,G.L.kN (fe _) fun b hb=>bZ _ _ _ _ (G.lo b hb).2.1,⟨len,hlen,hQ.kN (fe _) fun b hb=>bZ _ _ _ _ (G.qo b hb).2⟩,G.b0,G.bn,G.lo,G.qo⟩,fe _,fun b hb=>bZ _ _ _ _ fun e=>?_⟩
 have:=G.b0
 rw[e] at hb
 omega
theorem tE.aFf{bg n0:Key}{m:Nat×Nat}{l:List Ev}{g g':GS}{k k' len:Nat}{cL cQ A7:AV}{oL oQ o':Option Key}{h h':T ah}{nx nx':Key}(G:tE bg n0 m l g k cL cQ oL oQ h nx)(hn:n0.toNat≤nx.toNat)(F:lU h nx oQ h' nx' o')(hQ:QR A7 len h' nx' o')(hlen:len≤k'):tE bg n0 m l g' k' cL A7 oL o' (av bg (some (.cells (gB m cL A7 g') .fix)) h') nx'∧Old n0 h nx (av bg (some (.cells (gB m cL A7 g') .fix)) h') nx':=by
 have n1:=F.n
 have b0:=G.b0
 have bn:=G.bn
 have ho:∀ b,o'=some b→n0.toNat≤b.toNat∧b≠bg:=by
  intro b hb
  rcases F.o with e|⟨y,e,hy⟩
  ·exact G.qo b (e ▸ hb)
  ·rw[hb] at e
   cases e
   exact⟨by omega,fun e=>by rw[e] at hy;omega⟩
 have hoL:∀ b,oL=some b→o'≠some b:=fun b hb=>F.ne (G.L.lt b hb) (G.lo b hb).2.2
 refine⟨⟨by simp,G.L.kN n1 fun b hb=>?_,⟨len,hlen,hQ.kN (fe _) fun b hb=>bZ _ _ _ _ (ho b hb).2⟩,b0,by omega,fun b hb=>⟨(G.lo b hb).1,(G.lo b hb).2.1,hoL b hb⟩,ho⟩,n1,fun b hb=>?_⟩
 ·rw[bZ _ _ _ _ (G.lo b hb).2.1]
  exact F.g b (G.L.lt b hb) (G.lo b hb).2.2
 ·rw[bZ _ _ _ _ (fun e=>by rw[e] at hb;omega)]
  exact F.g b (by omega) (fun e=>by have:=(G.qo b e).1;omega)
variable{C:dm}{X:Kn}(S:Std C X)
def ApR(bg n0:Key)(m:Nat×Nat)(l:List Ev)(g:GS)(k:Nat)(cL:AV)(oL:Option Key)(h:T ah)(nx:Key)(o:Out)(h':T ah)(nx':Key):Prop:=o=.ret (.tuple [])∧∃ g' A7 EG,tE bg n0 m l g' (k+1) cL A7 oL EG h' nx'∧g'.o=g.o∧Old n0 h nx h' nx'
include S
theorem NP{bg n0:Key}{m:Nat×Nat}{l:List Ev}{g:GS}{k:Nat}{cL cQ:AV}{oL oQ:Option Key}{h:T ah}{nx:Key}(G:tE bg n0 m l g k cL cQ oL oQ h nx)(hk:k≤100)(hn:n0.toNat≤nx.toNat){tm:T AV}{x:Int}{nm:Nat×Nat}(q0:aa (K 0) tm=some (.ptr bg 0))(q4:aa (K 4) tm=some (I 0))(q5:aa (K 5) tm=some (I x))(q17:aa (K 17) tm=some (.str nm.1 nm.2)){Q:cX}
  (fin:∀ (tm2:T AV) (h2:T ah) (aI:Key) (g':GS) (A7:AV) (EG:Option Key) (r:Int),aa (K 0) tm2=some (.ptr bg 0)→aa (K 1) tm2=aa (K 1) tm→aa (K 4) tm2=some (I r)→tE bg n0 m l g' (k+1) cL A7 oL EG h2 aI→g'.o=g.o→Old n0 h nx h2 aI→Q .norm tm2 h2 aI) :
  mF C (aq (dz C (.cond (.t (K 18)) (.ops pM) (.seq (.ops kx) (.cond (.t (K 30)) (.seq (.ops ky) (.cond (.t (K 37)) (.seq (.ops pN) (.ops pO)) .skip)) (.seq (.ops kz) (.cond (.t (K 52)) (.seq (.ops nE) (.ops nG)) (.seq (.ops jt) (.cond (.t (K 65)) (.seq (.ops nH) (.ops nI)) (.seq (.ops ju) (.cond (.t (K 80)) (.ops nJ) (.seq (.ops jv) (.cond (.t (K 86)) (.ops nK) .skip))))))))))) (ak 0 Q)) (ak 0 Q)) gY tm h nx:=by
 have s1:=kTSu nx
 obtain⟨len,hlen,hQ⟩:=G.Q
 have hb:=G.nM
 have bn:=G.bn
 have cc:=hQ.cell
 by_cases h1:nm.1=3∧nm.2=7632240
 ·have e1:=E0 h nx (.cells [I x] .fix)
  obtain⟨c',h2,aI,o',ha,hQ2,F,cc2⟩:=(hQ.ext e1).add (by omega) x
  have F2:=(lU.jk e1 oQ).trans F
  have A8:aa bg h2=some (.cells (gB m cL cQ g) .fix):=by rw[F2.g bg bn (fun e=>(G.qo bg e).2 rfl)];exact hb
  obtain⟨G3,O3⟩:=G.aFf (g':=g) (k':=k+1) hn F2 hQ2 (by omega)
  simp[gB] at G3 O3
  simp[gY,q17,h1]
  simp[-appendTo,pM,q0,q5,hb,A8,gB,cc.1,cc.2,cc2.1,cc2.2,ha]
  refine fin _ _ _ g c' o' 0 ?_ ?_ ?_ G3 rfl O3<;>simp[q0,q4]
 ·by_cases h2:nm.1=3∧nm.2=7628135
  ·simp[gY,q17,h1]
   simp[kx,q17,h2]
   by_cases hl:0<len
   ·have hli:(0:Int)<len:=by omega
    obtain⟨z,v,hz⟩:=hQ.head hl
    obtain⟨c',hQ2,cc1,cc2,ht⟩:=hQ.tail hl
    obtain⟨G3,O3⟩:=G.aFf (g':=g) (k':=k+1) hn (lU.refl h nx oQ) hQ2 (by omega)
    simp[gB] at G3 O3
    simp[↓hQ.ln,ky,q0,hb,gB,hl]
    simp[↓hz,pN,q0,hb,gB]
    simp[↓ht,pO,q0,hb,gB,cc1,cc2]
    refine fin _ _ _ g c' oQ z ?_ ?_ ?_ G3 rfl O3<;>simp[q0]
   ·have hl0:len=0:=by omega
    simp[↓hQ.ln,ky,q0,hb,gB,hl0]
    refine fin _ _ _ g cQ oQ 0 ?_ ?_ ?_ ⟨hb,G.L,⟨len,by omega,hQ⟩,G.b0,bn,G.lo,G.qo⟩ rfl ⟨fe _,fun _ _=>rfl⟩<;>simp[q0,q4]
  ·have kN:tE bg n0 m l g (k+1) cL cQ oL oQ h nx:=⟨hb,G.L,⟨len,by omega,hQ⟩,G.b0,bn,G.lo,G.qo⟩
   have wr:∀ n':Int,tE bg n0 m l {g with n:=n'} (k+1) cL cQ oL oQ (av bg (some (.cells (gB m cL cQ {g with n:=n'}) .fix)) h) nx∧Old n0 h nx (av bg (some (.cells (gB m cL cQ {g with n:=n'}) .fix)) h) nx:=fun n'=>kN.put
   simp[gB] at wr
   simp[gY,q17,h1]
   simp[kx,q17,h2]
   by_cases h3:nm.1=3∧nm.2=6516329
   ·simp[kz,q17,h3]
    simp[nE,q0,hb,gB]
    simp[nG,q0]
    obtain⟨G3,O3⟩:=wr (bV .i64 (g.n+1))
    refine fin _ _ _ _ cQ oQ (bV .i64 (g.n+1)) ?_ ?_ ?_ G3 rfl O3<;>simp[q0]
   ·simp[kz,q17,h3]
    by_cases h4:nm.1=3∧nm.2=6579297
    ·simp[jt,q17,h4]
     simp[nH,q0,q5,hb,gB]
     simp[nI,q0]
     obtain⟨G3,O3⟩:=wr (bV .i64 (g.n+x))
     refine fin _ _ _ _ cQ oQ (bV .i64 (g.n+x)) ?_ ?_ ?_ G3 rfl O3<;>simp[q0]
    ·simp[jt,q17,h4]
     by_cases h5:nm.1=5∧nm.2=435744764535
     ·simp[ju,q17,h5]
      simp[nJ,q0,q5,hb,gB]
      obtain⟨G3,O3⟩:=wr x
      refine fin _ _ _ _ cQ oQ 0 ?_ ?_ ?_ G3 rfl O3<;>simp[q0,q4]
     ·simp[ju,q17,h5]
      by_cases h6:nm.1=4∧nm.2=1684104562
      ·simp[jv,q17,h6]
       simp[nK,q0,hb,gB]
       refine fin _ _ _ g cQ oQ g.n ?_ ?_ ?_ kN rfl ⟨fe _,fun _ _=>rfl⟩<;>simp[q0]
      ·simp[jv,q17,h6]
       refine fin _ _ _ g cQ oQ 0 ?_ ?_ ?_ kN rfl ⟨fe _,fun _ _=>rfl⟩<;>simp[q0,q4]
theorem w8{bg n0:Key}{m:Nat×Nat}{l:List Ev}{g:GS}{k:Nat}{cL cQ:AV}{oL oQ:Option Key}{h:T ah}{nx:Key}(G:tE bg n0 m l g k cL cQ oL oQ h nx)(hk:k≤100)(hn:n0.toNat≤nx.toNat){c:Nat}(hc:c=0∨c=1∨c=2) :
  aO C en [.ptr bg 0,I c] h nx (ApR bg n0 m l g k cL oL h nx):=by
 have s1:=kTSu nx
 obtain⟨len,hlen,hQ⟩:=G.Q
 have hb:=G.nM
 have bn:=G.bn
 have cc:=hQ.cell
 refine S.z5.call ?_
 rcases hc with rfl|rfl|rfl
 ·simp[lA]
  simp[kA]
  simp[kB,hb,gB]
  simp[kC,hb,gB]
  have fin:∀ (tm2:T AV) (h2:T ah) (aI:Key) (g':GS) (A7:AV) (EG:Option Key) (r:Int),aa (K 0) tm2=some (.ptr bg 0)→aa (K 1) tm2=some (I 0)→aa (K 4) tm2=some (I r)→tE bg n0 m l g' (k+1) cL A7 oL EG h2 aI→g'.o=g.o→Old n0 h nx h2 aI→
    mF C (bb [] (ApR bg n0 m l g k cL oL h nx)) dL tm2 h2 aI:=by
   intro tm2 h2 aI g' A7 EG r q0 q1 q4 G2 e2 O2
   have A8:=G2.nM
   obtain⟨G3,O3⟩:=G2.put (g':={g' with d:=oi g'.d 0 r})
   simp[gB] at G3 O3
   simp[dL,q0,q1,q4,A8,gB]
   exact⟨rfl,_,_,_,G3,e2,O2.trans O3⟩
  refine NP S G hk hn (x:=g.a 0) (nm:=g.s 0) ?_ ?_ ?_ ?_ (fun tm2 h2 aI g' A7 EG r p0 p1 p4 G2 e2 O2=>fin tm2 h2 aI g' A7 EG r p0 (by rw[p1];simp) p4 G2 e2 O2)<;>simp
 ·simp[lA]
  simp[kA]
  simp[kB,hb,gB]
  simp[kC,hb,gB]
  have fin:∀ (tm2:T AV) (h2:T ah) (aI:Key) (g':GS) (A7:AV) (EG:Option Key) (r:Int),aa (K 0) tm2=some (.ptr bg 0)→aa (K 1) tm2=some (I 1)→aa (K 4) tm2=some (I r)→tE bg n0 m l g' (k+1) cL A7 oL EG h2 aI→g'.o=g.o→Old n0 h nx h2 aI→
    mF C (bb [] (ApR bg n0 m l g k cL oL h nx)) dL tm2 h2 aI:=by
   intro tm2 h2 aI g' A7 EG r q0 q1 q4 G2 e2 O2
   have A8:=G2.nM
   obtain⟨G3,O3⟩:=G2.put (g':={g' with d:=oi g'.d 1 r})
   simp[gB] at G3 O3
   simp[dL,q0,q1,q4,A8,gB]
   exact⟨rfl,_,_,_,G3,e2,O2.trans O3⟩
  refine NP S G hk hn (x:=g.a 1) (nm:=g.s 1) ?_ ?_ ?_ ?_ (fun tm2 h2 aI g' A7 EG r p0 p1 p4 G2 e2 O2=>fin tm2 h2 aI g' A7 EG r p0 (by rw[p1];simp) p4 G2 e2 O2)<;>simp
 ·simp[lA]
  simp[kA]
  simp[kB,hb,gB]
  simp[kC,hb,gB]
  have fin:∀ (tm2:T AV) (h2:T ah) (aI:Key) (g':GS) (A7:AV) (EG:Option Key) (r:Int),aa (K 0) tm2=some (.ptr bg 0)→aa (K 1) tm2=some (I 2)→aa (K 4) tm2=some (I r)→tE bg n0 m l g' (k+1) cL A7 oL EG h2 aI→g'.o=g.o→Old n0 h nx h2 aI→
    mF C (bb [] (ApR bg n0 m l g k cL oL h nx)) dL tm2 h2 aI:=by
   intro tm2 h2 aI g' A7 EG r q0 q1 q4 G2 e2 O2
   have A8:=G2.nM
   obtain⟨G3,O3⟩:=G2.put (g':={g' with d:=oi g'.d 2 r})
   simp[gB] at G3 O3
   simp[dL,q0,q1,q4,A8,gB]
   exact⟨rfl,_,_,_,G3,e2,O2.trans O3⟩
  refine NP S G hk hn (x:=g.a 2) (nm:=g.s 2) ?_ ?_ ?_ ?_ (fun tm2 h2 aI g' A7 EG r p0 p1 p4 G2 e2 O2=>fin tm2 h2 aI g' A7 EG r p0 (by rw[p1];simp) p4 G2 e2 O2)<;>simp
end Ln
/-
 LN: the generator of histories: a call ends, or is lost. No condition.
-/
namespace Ln
open Go.Sx Go
theorem _root_.Go.Sx.Gr.lits{z:Nat}{α:Type}{enc:α→List AV}(F:Flat z enc){c:AV}{us:List α}{len:Nat}{h:T ah}{nx:Key}{ob:Option Key}(g:Gr z c (ai enc us) len h nx ob):AV.beq c c=true:=by
 rcases g with⟨rfl,_⟩|⟨b,k,_,rfl,_⟩|⟨t,_,rfl,_⟩
 ·exact beq_refl _ rfl
 ·exact beq_refl _ rfl
 ·exact beq_refl _ (by simp only[AV.lits];exact F.arK _)
theorem tE.ajm{bg n0:Key}{m:Nat×Nat}{l l':List Ev}{g g':GS}{k:Nat}{cL cL' cQ:AV}{oL oL' oQ:Option Key}{h h':T ah}{nx nx':Key}(G:tE bg n0 m l g k cL cQ oL oQ h nx)(hn:n0.toNat≤nx.toNat)(F:lU h nx oL h' nx' oL')(hL:Gr 8 cL' (ai eE l') l'.length h' nx' oL'):tE bg n0 m l' g' k cL' cQ oL' oQ (av bg (some (.cells (gB m cL' cQ g') .fix)) h') nx'∧Old n0 h nx (av bg (some (.cells (gB m cL' cQ g') .fix)) h') nx':=by
 have n1:=F.n
 have b0:=G.b0
 have bn:=G.bn
 obtain⟨len,hlen,hQ⟩:=G.Q
 have ho:∀ b,oL'=some b→n0.toNat≤b.toNat∧b≠bg∧oQ≠some b:=by
  intro b hb
  rcases F.o with e|⟨y,e,hy⟩
  ·exact G.lo b (e ▸ hb)
  ·rw[hb] at e
   cases e
   exact⟨by omega,fun e=>by rw[e] at hy;omega,fun e=>by have:=hQ.lt _ e;omega⟩
 have hq:∀ b,oQ=some b→oL≠some b:=fun b hb e=>(G.lo b e).2.2 hb
 refine⟨⟨by simp,hL.kN (fe _) fun b hb=>bZ _ _ _ _ (ho b hb).2.1,⟨len,hlen,hQ.kN n1 fun b hb=>?_⟩,b0,by omega,ho,G.qo⟩,n1,fun b hb=>?_⟩
 ·rw[bZ _ _ _ _ (G.qo b hb).2]
  exact F.g b (hQ.lt b hb) (hq b hb)
 ·rw[bZ _ _ _ _ (fun e=>by rw[e] at hb;omega)]
  exact F.g b (by omega) (fun e=>by have:=(G.lo b e).1;omega)
theorem tE.up{bg n0:Key}{m:Nat×Nat}{l:List Ev}{g:GS}{k:Nat}{cL cQ:AV}{oL oQ:Option Key}{h h':T ah}{nx nx':Key}(G:tE bg n0 m l g k cL cQ oL oQ h nx)(e:Ext h nx h' nx'):tE bg n0 m l g k cL cQ oL oQ h' nx':=by
 obtain⟨len,hlen,hQ⟩:=G.Q
 exact⟨by rw[e.g bg G.bn];exact G.nM,G.L.ext e,⟨len,hlen,hQ.ext e⟩,G.b0,LO G.bn e.n,G.lo,G.qo⟩
theorem tE.more{bg n0:Key}{m:Nat×Nat}{l:List Ev}{g:GS}{k:Nat}{cL cQ:AV}{oL oQ:Option Key}{h:T ah}{nx:Key}(G:tE bg n0 m l g k cL cQ oL oQ h nx):tE bg n0 m l g (k+1) cL cQ oL oQ h nx:=by
 obtain⟨len,hlen,hQ⟩:=G.Q
 exact⟨G.nM,G.L,⟨len,by omega,hQ⟩,G.b0,G.bn,G.lo,G.qo⟩
theorem Old.jk{n0 nx nx':Key}{h h':T ah}(e:Ext h nx h' nx')(hn:n0.toNat≤nx.toNat):Old n0 h nx h' nx':=⟨e.n,fun b hb=>e.g b (by omega)⟩
theorem Old.refl(n0:Key)(h:T ah)(nx:Key):Old n0 h nx h nx:=⟨fe _,fun _ _=>rfl⟩
inductive amu(mi:Nat)(g:GS)(x:Ev)(g':GS):Prop
 |lost (h:x=⟨2,0,(0,0),[],⟨0,0⟩⟩) (ho:g'.o=fun _=>false)
 |ends (c:Nat) (r:Int) (hc:c<3) (ho:g.o c=true) (h:x=⟨1,c,(0,0),[],⟨0,r⟩⟩) (Rj:g'.o=oi g.o c false)
 |begins (c:Nat) (cmd:gE) (aZZ:List U) (hc:c<3) (ho:g.o c=false) (hm:cmd∈aw mi) (ha:aZZ.length=cmd.ar) (hk:∀ u∈aZZ,u.k=0) (h:x=⟨0,c,cmd.name,aZZ,⟨0,0⟩⟩) (Rj:g'.o=oi g.o c true)
def Tz(bg n0:Key)(mi:Nat)(l:List Ev)(g:GS)(k:Nat)(h:T ah)(nx:Key)(o:Out)(h':T ah)(nx':Key):Prop:=o=.ret (.tuple [])∧∃ x g' cL' A7 oL' EG,tE bg n0 (jg mi) (l ++ [x]) g' (k+1) cL' A7 oL' EG h' nx'∧Old n0 h nx h' nx'∧amu mi g x g'
variable{C:dm}{X:Kn}(S:Std C X)
include S
theorem apA{bg n0:Key}{mi:Nat}{l:List Ev}{g:GS}{k:Nat}{cL cQ:AV}{oL oQ:Option Key}{h:T ah}{nx:Key}(G:tE bg n0 (jg mi) l g k cL cQ oL oQ h nx)(hl:l.length≤100)(hn:n0.toNat≤nx.toNat){tm:T AV}(q0:aa (K 0) tm=some (.ptr bg 0)){Q:cX}(hQ':∀ an h' nx',bb [] (Tz bg n0 mi l g k h nx) .ret an h' nx'→Q .ret an h' nx') :
  dz C (.seq (.ops qL) (.seq (.ops qM) .ret)) Q tm h nx:=by
 have s1:=kTSu nx
 have hb:=G.nM
 have bn:=G.bn
 have cq:=(show ∃ len,QR cQ len h nx oQ from G.Q.elim fun len p=>⟨len,p.2⟩)
 obtain⟨len,hQ⟩:=cq
 have cc:=hQ.cell
 have cl:=G.L.cell
 have e1:=E0 h nx (.cells (eE ⟨2,0,(0,0),[],⟨0,0⟩⟩) .fix)
 have ee:eE ⟨2,0,(0,0),[],⟨0,0⟩⟩=[I 2,I 0,.str 0 0,.nils,I 0,I 0,.str 0 0,.nils]:=rfl
 obtain⟨c',h2,aI,o',ha,hL2,F⟩:=(G.L.ext e1).BG ew (by decide) (by decide) (by omega) ⟨2,0,(0,0),[],⟨0,0⟩⟩
 have F2:=(lU.jk e1 oL).trans F
 have OB:=hL2.cell
 have A8:aa bg h2=some (.cells (gB (jg mi) cL cQ g) .fix):=by rw[F2.g bg bn (fun e=>(G.lo bg e).2.1 rfl)];exact hb
 obtain⟨G3,O3⟩:=G.ajm (g':={g with o:=fun _=>false}) hn F2 hL2
 rw[ee] at ha
 simp[gB] at G3 O3
 simp
 simp[-appendTo,qL,q0,hb,A8,gB,cl.1,cl.2,OB.1,OB.2,ha]
 simp[qM,q0,gB]
 refine hQ' _ _ _ ?_
 simp
 exact⟨rfl,_,_,_,_,_,_,G3.more,O3,.lost rfl rfl⟩
theorem apB{bg n0:Key}{mi:Nat}{l:List Ev}{g:GS}{k:Nat}{cL cQ:AV}{oL oQ:Option Key}{h:T ah}{nx:Key}(G:tE bg n0 (jg mi) l g k cL cQ oL oQ h nx)(hl:l.length≤100)(hk:k≤100)(hn:n0.toNat≤nx.toNat){tm:T AV}{kk c:Nat}(qq:kk<1000000)(hc:c=0∨c=1∨c=2)(ho:g.o c=true)(q0:aa (K 0) tm=some (.ptr bg 0))(q1:aa (K 1) tm=some (I kk))(q4:aa (K 4) tm=some (I c)){Q:cX}
  (hQ:∀ an h' nx',bb [] (Tz bg n0 mi l g k h nx) .ret an h' nx'→Q .ret an h' nx') :
  dz C (.seq (.seq (.ops db) (.cond (.t (K 40)) (.ops fJ) .skip)) (.seq (.ops dc) (.seq (.seq (.ops bP) (.cond (.t (K 53)) (.ops dd) .skip)) (.seq (.staged bD ⟨[K 56,K 57,K 58,K 59,K 60,K 61,K 62,K 63,K 64,K 65,K 66,K 67,K 68],[]⟩) (.seq (.ops bE) .ret))))) Q tm h nx:=by
 have rA:C.raw en=false:=S.nr (by decide)
 have rN:C.raw fj=false:=S.nr (by decide)
 have hb:=G.nM
 have bn:=G.bn
 have Ug:Int.tdiv (kk:Int) 51=((kk / 51:Nat):Int):=rfl
 have Uh:bV .i64 ((kk / 51:Nat):Int)=((kk / 51:Nat):Int):=au (by omega) (by omega)
 have hm9:Int.tmod ((kk / 51:Nat):Int) 9=((kk / 51%9:Nat):Int):=rfl
 have hw9:bV .i64 ((kk / 51%9:Nat):Int)=((kk / 51%9:Nat):Int):=au (by omega) (by omega)
 generalize kk / 51%9=e9 at *
 generalize kk / 51=e51 at *
 rcases hc with rfl|rfl|rfl
 ·have last:∀ (tm2:T AV) (h2:T ah) (aI:Key) (g2:GS) (I2:AV) (LV:Option Key) (r:Int),aa (K 0) tm2=some (.ptr bg 0)→aa (K 4) tm2=some (I 0)→aa (K 5) tm2=some (I r)→tE bg n0 (jg mi) l g2 (k+1) cL I2 oL LV h2 aI→g2.o=g.o→Old n0 h nx h2 aI→
    dz C (.seq (.staged bD ⟨[K 56,K 57,K 58,K 59,K 60,K 61,K 62,K 63,K 64,K 65,K 66,K 67,K 68],[]⟩) (.seq (.ops bE) .ret)) Q tm2 h2 aI:=by
   intro tm2 h2 aI g2 I2 LV r p0 p4 p5 G2 e2 O2
   have A8:=G2.nM
   have bn2:=G2.bn
   have n2:=O2.n
   obtain⟨len,_,hQ2⟩:=G2.Q
   have cc:=hQ2.cell
   have cl:=G2.L.cell
   have lb:=G2.L.lits ew
   simp
   simp[-appendTo,bD,p0,p4,p5,A8,gB,rN]
   refine(tF S r).mono ?_
   rintro o h3 bu ⟨rfl,e3⟩
   have n3:=e3.n
   have s3:=kTSu bu
   have G3:=G2.up e3
   have Rx:=G3.nM
   have e4:=E0 h3 bu (.cells (eE ⟨1,0,(0,0),[],⟨0,r⟩⟩) .fix)
   have ee:eE ⟨1,0,(0,0),[],⟨0,r⟩⟩=[I 1,I 0,.str 0 0,.nils,I 0,I r,.str 0 0,.nils]:=rfl
   obtain⟨c',h5,zA,o',ha,Ui,F⟩:=(G3.L.ext e4).BG ew (by decide) (by decide) (by omega) ⟨1,0,(0,0),[],⟨0,r⟩⟩
   have F2:=(lU.jk e4 oL).trans F
   have OB:=Ui.cell
   have hb5:aa bg h5=some (.cells (gB (jg mi) cL I2 g2) .fix):=by rw[F2.g bg (by omega) (fun e=>(G3.lo bg e).2.1 rfl)];exact Rx
   obtain⟨G6,O6⟩:=G3.ajm (g':={g2 with o:=oi g2.o 0 false}) (by omega) F2 Ui
   rw[ee] at ha
   simp[gB] at G6 O6
   simp[-appendTo,Rx,hb5,gB,eU,cl.1,cl.2,OB.1,OB.2,lb,ha]
   simp[bE,p0,p4,gB]
   refine hQ _ _ _ ?_
   simp
   exact⟨rfl,_,_,_,_,_,_,G6,(O2.trans (Old.jk e3 (by omega))).trans O6,.ends 0 r (by omega) ho rfl (by rw[← e2])⟩
  simp only[aL,aM,aQ] at last
  have mid:∀ (tm2:T AV) (h2:T ah) (aI:Key) (g2:GS) (I2:AV) (LV:Option Key),aa (K 0) tm2=some (.ptr bg 0)→aa (K 1) tm2=some (I kk)→aa (K 4) tm2=some (I 0)→tE bg n0 (jg mi) l g2 (k+1) cL I2 oL LV h2 aI→g2.o=g.o→Old n0 h nx h2 aI→
    dz C (.seq (.ops dc) (.seq (.seq (.ops bP) (.cond (.t (K 53)) (.ops dd) .skip)) (.seq (.staged bD ⟨[K 56,K 57,K 58,K 59,K 60,K 61,K 62,K 63,K 64,K 65,K 66,K 67,K 68],[]⟩) (.seq (.ops bE) .ret)))) Q tm2 h2 aI:=by
   intro tm2 h2 aI g2 I2 LV p0 p1 p4 G2 e2 O2
   have A8:=G2.nM
   simp
   simp[dc,p0,p4,A8,gB]
   by_cases h8:e9=8
   ·have h8i:((e9:Int)==8)=true:=bt (by omega)
    simp[bP,p1,Ug,Uh,hm9,hw9,h8i]
    simp[dd]
    refine last _ _ _ g2 I2 LV (bV .i64 (g2.d 0+1)) ?_ ?_ ?_ G2 e2 O2<;>simp[p0,p4]
   ·have h8i:((e9:Int)==8)=false:=bq (by omega)
    simp[bP,p1,Ug,Uh,hm9,hw9,h8i]
    refine last _ _ _ g2 I2 LV (g2.d 0) ?_ ?_ ?_ G2 e2 O2<;>simp[p0,p4]
  simp only[aL,aM,aQ,dF] at mid
  simp
  cases bN:g.lt 0 with
  |true=>
   simp[db,q0,q4,hb,gB,bN]
   simp[fJ,q0,q4,rA]
   refine(w8 S G hk hn (c:=0) (by simp)).mono ?_
   rintro o h2 aI ⟨rfl,g',A7,EG,G2,e2,O2⟩
   simp
   refine mid _ _ _ g' A7 EG ?_ ?_ ?_ G2 e2 O2<;>simp[q0,q1,q4]
  |false=>
   simp[db,q0,q4,hb,gB,bN]
   refine mid _ _ _ g cQ oQ ?_ ?_ ?_ G.more rfl (Old.refl _ _ _)<;>simp[q0,q1,q4]
 ·have last:∀ (tm2:T AV) (h2:T ah) (aI:Key) (g2:GS) (I2:AV) (LV:Option Key) (r:Int),aa (K 0) tm2=some (.ptr bg 0)→aa (K 4) tm2=some (I 1)→aa (K 5) tm2=some (I r)→tE bg n0 (jg mi) l g2 (k+1) cL I2 oL LV h2 aI→g2.o=g.o→Old n0 h nx h2 aI→
    dz C (.seq (.staged bD ⟨[K 56,K 57,K 58,K 59,K 60,K 61,K 62,K 63,K 64,K 65,K 66,K 67,K 68],[]⟩) (.seq (.ops bE) .ret)) Q tm2 h2 aI:=by
   intro tm2 h2 aI g2 I2 LV r p0 p4 p5 G2 e2 O2
   have A8:=G2.nM
   have bn2:=G2.bn
   have n2:=O2.n
   obtain⟨len,_,hQ2⟩:=G2.Q
   have cc:=hQ2.cell
   have cl:=G2.L.cell
   have lb:=G2.L.lits ew
   simp
   simp[-appendTo,bD,p0,p4,p5,A8,gB,rN]
   refine(tF S r).mono ?_
   rintro o h3 bu ⟨rfl,e3⟩
   have n3:=e3.n
   have s3:=kTSu bu
   have G3:=G2.up e3
   have Rx:=G3.nM
   have e4:=E0 h3 bu (.cells (eE ⟨1,1,(0,0),[],⟨0,r⟩⟩) .fix)
   have ee:eE ⟨1,1,(0,0),[],⟨0,r⟩⟩=[I 1,I 1,.str 0 0,.nils,I 0,I r,.str 0 0,.nils]:=rfl
   obtain⟨c',h5,zA,o',ha,Ui,F⟩:=(G3.L.ext e4).BG ew (by decide) (by decide) (by omega) ⟨1,1,(0,0),[],⟨0,r⟩⟩
   have F2:=(lU.jk e4 oL).trans F
   have OB:=Ui.cell
   have hb5:aa bg h5=some (.cells (gB (jg mi) cL I2 g2) .fix):=by rw[F2.g bg (by omega) (fun e=>(G3.lo bg e).2.1 rfl)];exact Rx
   obtain⟨G6,O6⟩:=G3.ajm (g':={g2 with o:=oi g2.o 1 false}) (by omega) F2 Ui
   rw[ee] at ha
   simp[gB] at G6 O6
   simp[-appendTo,Rx,hb5,gB,eU,cl.1,cl.2,OB.1,OB.2,lb,ha]
   simp[bE,p0,p4,gB]
   refine hQ _ _ _ ?_
   simp
   exact⟨rfl,_,_,_,_,_,_,G6,(O2.trans (Old.jk e3 (by omega))).trans O6,.ends 1 r (by omega) ho rfl (by rw[← e2])⟩
  simp only[aL,aM,aQ] at last
  have mid:∀ (tm2:T AV) (h2:T ah) (aI:Key) (g2:GS) (I2:AV) (LV:Option Key),aa (K 0) tm2=some (.ptr bg 0)→aa (K 1) tm2=some (I kk)→aa (K 4) tm2=some (I 1)→tE bg n0 (jg mi) l g2 (k+1) cL I2 oL LV h2 aI→g2.o=g.o→Old n0 h nx h2 aI→
    dz C (.seq (.ops dc) (.seq (.seq (.ops bP) (.cond (.t (K 53)) (.ops dd) .skip)) (.seq (.staged bD ⟨[K 56,K 57,K 58,K 59,K 60,K 61,K 62,K 63,K 64,K 65,K 66,K 67,K 68],[]⟩) (.seq (.ops bE) .ret)))) Q tm2 h2 aI:=by
   intro tm2 h2 aI g2 I2 LV p0 p1 p4 G2 e2 O2
   have A8:=G2.nM
   simp
   simp[dc,p0,p4,A8,gB]
   by_cases h8:e9=8
   ·have h8i:((e9:Int)==8)=true:=bt (by omega)
    simp[bP,p1,Ug,Uh,hm9,hw9,h8i]
    simp[dd]
    refine last _ _ _ g2 I2 LV (bV .i64 (g2.d 1+1)) ?_ ?_ ?_ G2 e2 O2<;>simp[p0,p4]
   ·have h8i:((e9:Int)==8)=false:=bq (by omega)
    simp[bP,p1,Ug,Uh,hm9,hw9,h8i]
    refine last _ _ _ g2 I2 LV (g2.d 1) ?_ ?_ ?_ G2 e2 O2<;>simp[p0,p4]
  simp only[aL,aM,aQ,dF] at mid
  simp
  cases bN:g.lt 1 with
  |true=>
   simp[db,q0,q4,hb,gB,bN]
   simp[fJ,q0,q4,rA]
   refine(w8 S G hk hn (c:=1) (by simp)).mono ?_
   rintro o h2 aI ⟨rfl,g',A7,EG,G2,e2,O2⟩
   simp
   refine mid _ _ _ g' A7 EG ?_ ?_ ?_ G2 e2 O2<;>simp[q0,q1,q4]
  |false=>
   simp[db,q0,q4,hb,gB,bN]
   refine mid _ _ _ g cQ oQ ?_ ?_ ?_ G.more rfl (Old.refl _ _ _)<;>simp[q0,q1,q4]
 ·have last:∀ (tm2:T AV) (h2:T ah) (aI:Key) (g2:GS) (I2:AV) (LV:Option Key) (r:Int),aa (K 0) tm2=some (.ptr bg 0)→aa (K 4) tm2=some (I 2)→aa (K 5) tm2=some (I r)→tE bg n0 (jg mi) l g2 (k+1) cL I2 oL LV h2 aI→g2.o=g.o→Old n0 h nx h2 aI→
    dz C (.seq (.staged bD ⟨[K 56,K 57,K 58,K 59,K 60,K 61,K 62,K 63,K 64,K 65,K 66,K 67,K 68],[]⟩) (.seq (.ops bE) .ret)) Q tm2 h2 aI:=by
   intro tm2 h2 aI g2 I2 LV r p0 p4 p5 G2 e2 O2
   have A8:=G2.nM
   have bn2:=G2.bn
   have n2:=O2.n
   obtain⟨len,_,hQ2⟩:=G2.Q
   have cc:=hQ2.cell
   have cl:=G2.L.cell
   have lb:=G2.L.lits ew
   simp
   simp[-appendTo,bD,p0,p4,p5,A8,gB,rN]
   refine(tF S r).mono ?_
   rintro o h3 bu ⟨rfl,e3⟩
   have n3:=e3.n
   have s3:=kTSu bu
   have G3:=G2.up e3
   have Rx:=G3.nM
   have e4:=E0 h3 bu (.cells (eE ⟨1,2,(0,0),[],⟨0,r⟩⟩) .fix)
   have ee:eE ⟨1,2,(0,0),[],⟨0,r⟩⟩=[I 1,I 2,.str 0 0,.nils,I 0,I r,.str 0 0,.nils]:=rfl
   obtain⟨c',h5,zA,o',ha,Ui,F⟩:=(G3.L.ext e4).BG ew (by decide) (by decide) (by omega) ⟨1,2,(0,0),[],⟨0,r⟩⟩
   have F2:=(lU.jk e4 oL).trans F
   have OB:=Ui.cell
   have hb5:aa bg h5=some (.cells (gB (jg mi) cL I2 g2) .fix):=by rw[F2.g bg (by omega) (fun e=>(G3.lo bg e).2.1 rfl)];exact Rx
   obtain⟨G6,O6⟩:=G3.ajm (g':={g2 with o:=oi g2.o 2 false}) (by omega) F2 Ui
   rw[ee] at ha
   simp[gB] at G6 O6
   simp[-appendTo,Rx,hb5,gB,eU,cl.1,cl.2,OB.1,OB.2,lb,ha]
   simp[bE,p0,p4,gB]
   refine hQ _ _ _ ?_
   simp
   exact⟨rfl,_,_,_,_,_,_,G6,(O2.trans (Old.jk e3 (by omega))).trans O6,.ends 2 r (by omega) ho rfl (by rw[← e2])⟩
  simp only[aL,aM,aQ] at last
  have mid:∀ (tm2:T AV) (h2:T ah) (aI:Key) (g2:GS) (I2:AV) (LV:Option Key),aa (K 0) tm2=some (.ptr bg 0)→aa (K 1) tm2=some (I kk)→aa (K 4) tm2=some (I 2)→tE bg n0 (jg mi) l g2 (k+1) cL I2 oL LV h2 aI→g2.o=g.o→Old n0 h nx h2 aI→
    dz C (.seq (.ops dc) (.seq (.seq (.ops bP) (.cond (.t (K 53)) (.ops dd) .skip)) (.seq (.staged bD ⟨[K 56,K 57,K 58,K 59,K 60,K 61,K 62,K 63,K 64,K 65,K 66,K 67,K 68],[]⟩) (.seq (.ops bE) .ret)))) Q tm2 h2 aI:=by
   intro tm2 h2 aI g2 I2 LV p0 p1 p4 G2 e2 O2
   have A8:=G2.nM
   simp
   simp[dc,p0,p4,A8,gB]
   by_cases h8:e9=8
   ·have h8i:((e9:Int)==8)=true:=bt (by omega)
    simp[bP,p1,Ug,Uh,hm9,hw9,h8i]
    simp[dd]
    refine last _ _ _ g2 I2 LV (bV .i64 (g2.d 2+1)) ?_ ?_ ?_ G2 e2 O2<;>simp[p0,p4]
   ·have h8i:((e9:Int)==8)=false:=bq (by omega)
    simp[bP,p1,Ug,Uh,hm9,hw9,h8i]
    refine last _ _ _ g2 I2 LV (g2.d 2) ?_ ?_ ?_ G2 e2 O2<;>simp[p0,p4]
  simp only[aL,aM,aQ,dF] at mid
  simp
  cases bN:g.lt 2 with
  |true=>
   simp[db,q0,q4,hb,gB,bN]
   simp[fJ,q0,q4,rA]
   refine(w8 S G hk hn (c:=2) (by simp)).mono ?_
   rintro o h2 aI ⟨rfl,g',A7,EG,G2,e2,O2⟩
   simp
   refine mid _ _ _ g' A7 EG ?_ ?_ ?_ G2 e2 O2<;>simp[q0,q1,q4]
  |false=>
   simp[db,q0,q4,hb,gB,bN]
   refine mid _ _ _ g cQ oQ ?_ ?_ ?_ G.more rfl (Old.refl _ _ _)<;>simp[q0,q1,q4]
end Ln
/-
 LN: the generator of histories: a call begins, its end. No condition.
-/
namespace Ln
open Go.Sx Go
def aun(cA:AV)(aZZ:List U)(h:T ah)(n0 nx b8:Key):Prop:=(cA=.nils∧aZZ=[])∨∃ (ba:Key) (u:U),cA=.slice ba 0 1 4∧aZZ=[u]∧aa ba h=some (.cells (eU u) .fix)∧n0.toNat≤ba.toNat∧ba.toNat<nx.toNat∧ba≠b8
theorem aun.ajV{cA:AV}{aZZ:List U}{h:T ah}{n0 nx b8:Key}(a:aun cA aZZ h n0 nx b8)(B:ah):∃ H1,aY 9999 cA (av nx (some B) h)=(aB aZZ,H1)∧∀ b:Key,b.toNat<n0.toNat→n0.toNat≤nx.toNat→aa b H1=aa b h:=by
 rcases a with⟨rfl,rfl⟩|⟨ba,u,rfl,rfl,h1,h2,h3,_⟩
 ·exact⟨_,rfl,fun b hb hn=>az (by omega)⟩
 ·have hg:aa ba (av nx (some B) h)=some (.cells (eU u) .fix):=by rw[az h3];exact h1
  refine⟨_,GB (n:=9998) hg rfl (zt.Fl u),fun b hb hn=>?_⟩
  rw[az (by omega),az (by omega)]
theorem aun.cell{cA:AV}{aZZ:List U}{h:T ah}{n0 nx b8:Key}(a:aun cA aZZ h n0 nx b8):cA.aK=true∧cA.cells=[cA]:=by
 rcases a with⟨rfl,rfl⟩|⟨ba,u,rfl,_⟩<;>exact⟨rfl,rfl⟩
def Kg(c:Nat)(cmd:gE)(cA:AV):List AV:=[I 0,I c,.str cmd.name.1 cmd.name.2,cA,I 0,I 0,.str 0 0,.nils]
variable{C:dm}{X:Kn}(S:Std C X)
include S
theorem Qx{bg n0:Key}{mi:Nat}{l:List Ev}{g g0:GS}{hB:T ah}{nxB:Key}{k:Nat}{cL cQ:AV}{oL oQ:Option Key}{h:T ah}{nx nx0 b8:Key}(G:tE bg n0 (jg mi) l g k cL cQ oL oQ h nx0)(hg:g.o=g0.o)(O:Old n0 hB nxB h nx)(hx:nx0.toNat≤nx.toNat)(hl:l.length≤100)(hk:k≤100)(hn:n0.toNat≤nx0.toNat){tm:T AV}{c n6:Nat}{cmd:gE}{cA:AV}{aZZ:List U}(hA:aun cA aZZ h nx0 nx b8)(h8:aa b8 h=some (.cells (Kg c cmd cA) .fix))(h80:nx0.toNat≤b8.toNat)(h8n:b8.toNat<nx.toNat)
  (hm:cmd∈aw mi) (has:aZZ.length=cmd.ar) (hk0:∀ u∈aZZ,u.k=0) (hc:c=0∨c=1∨c=2) (ho:g.o c=false) (q0:aa (K 0) tm=some (.ptr bg 0)) (q4:aa (K 4) tm=some (I c)) (q6:aa (K 6) tm=some (I n6)) (q8:aa (K 8) tm=some (.ptr b8 0)) :
  dz C (.seq (.staged aU ⟨[K 134,K 135,K 136,K 137,K 138,K 139,K 140,K 141,K 142,K 143],[]⟩) (.seq (.ops aV) (.seq (.ops aW) (.seq (.ops aJ) (.cond (.t (K 162)) (.ops aX) .skip))))) (bb [] (Tz bg n0 mi l g0 k hB nxB)) tm h nx:=by
 have rA:C.raw en=false:=S.nr (by decide)
 have s1:=kTSu nx
 have hb:=G.nM
 have bn:=G.bn
 obtain⟨len,_,hQ⟩:=G.Q
 have cc:=hQ.cell
 have cl:=G.L.cell
 have cA1:=hA.cell
 have ca:=bc aZZ
 obtain⟨H1,Ol,hH⟩:=hA.ajV (.cells (Kg c cmd cA) .fix)
 have e:Ext h nx0 H1 nx.succ:=⟨by omega,fun b hb=>hH b hb hx⟩
 have G1:=G.up e
 have hb8:aa b8 h=some (.cells [I 0,I c,.str cmd.name.1 cmd.name.2,cA,I 0,I 0,.str 0 0,.nils] .fix):=h8
 have ho0:g0.o c=false:=hg ▸ ho
 rcases hc with rfl|rfl|rfl
 ·simp[Kg] at Ol
  simp
  simp[-appendTo,aU,q0,q4,q8,hb,hb8,gB,Ol,cl.1,cl.2,cA1.1,cA1.2,ca.1,ca.2]
  have O1:Old n0 h nx H1 nx.succ:=⟨by omega,fun b hb=>e.g b (by omega)⟩
  obtain⟨c',h5,zA,o',ha,Ui,F⟩:=G1.L.BG ew (by decide) (by decide) (by omega) ⟨0,0,cmd.name,aZZ,⟨0,0⟩⟩
  have ee:eE ⟨0,0,cmd.name,aZZ,⟨0,0⟩⟩=[I 0,I 0,.str cmd.name.1 cmd.name.2,aB aZZ,I 0,I 0,.str 0 0,.nils]:=rfl
  have OB:=Ui.cell
  have hb5:aa bg h5=some (.cells (gB (jg mi) cL cQ g) .fix):=by rw[F.g bg G1.bn (fun e=>(G1.lo bg e).2.1 rfl)];exact G1.nM
  obtain⟨G6,O6⟩:=G1.ajm (g':={g with o:=oi g.o 0 true,lt:=oi g.lt 0 (!decide ((n6:Int)<3))}) (by omega) F Ui
  have n5:=O6.n
  rw[ee] at ha
  simp[gB] at G6 O6
  simp[-appendTo,hb5,gB,OB.1,OB.2,ha]
  simp[aV,q0,q4,gB]
  simp[aW,q0,q4,q6,gB]
  have hb6:=G6.nM
  by_cases h3:(n6:Int)<3
  rotate_left
  ·simp[h3] at G6 O6
   simp[aJ,q0,q4,h3,gB]
   exact⟨rfl,_,_,_,_,_,_,G6.more,(O.trans O1).trans O6,.begins 0 cmd aZZ (by omega) ho0 hm has hk0 rfl (by rw[← hg])⟩
  ·simp[h3] at G6 O6
   simp[aJ,q0,q4,h3,gB]
   simp[aX,q0,q4,rA]
   refine(w8 S G6 hk (by omega) (c:=0) (by simp)).mono ?_
   rintro o h7 nx7 ⟨rfl,g',A7,EG,G7,e7,O7⟩
   simp
   exact⟨rfl,_,_,_,_,_,_,G7,((O.trans O1).trans O6).trans O7,.begins 0 cmd aZZ (by omega) ho0 hm has hk0 rfl (by rw[← hg];exact e7)⟩
 ·simp[Kg] at Ol
  simp
  simp[-appendTo,aU,q0,q4,q8,hb,hb8,gB,Ol,cl.1,cl.2,cA1.1,cA1.2,ca.1,ca.2]
  have O1:Old n0 h nx H1 nx.succ:=⟨by omega,fun b hb=>e.g b (by omega)⟩
  obtain⟨c',h5,zA,o',ha,Ui,F⟩:=G1.L.BG ew (by decide) (by decide) (by omega) ⟨0,1,cmd.name,aZZ,⟨0,0⟩⟩
  have ee:eE ⟨0,1,cmd.name,aZZ,⟨0,0⟩⟩=[I 0,I 1,.str cmd.name.1 cmd.name.2,aB aZZ,I 0,I 0,.str 0 0,.nils]:=rfl
  have OB:=Ui.cell
  have hb5:aa bg h5=some (.cells (gB (jg mi) cL cQ g) .fix):=by rw[F.g bg G1.bn (fun e=>(G1.lo bg e).2.1 rfl)];exact G1.nM
  obtain⟨G6,O6⟩:=G1.ajm (g':={g with o:=oi g.o 1 true,lt:=oi g.lt 1 (!decide ((n6:Int)<3))}) (by omega) F Ui
  have n5:=O6.n
  rw[ee] at ha
  simp[gB] at G6 O6
  simp[-appendTo,hb5,gB,OB.1,OB.2,ha]
  simp[aV,q0,q4,gB]
  simp[aW,q0,q4,q6,gB]
  have hb6:=G6.nM
  by_cases h3:(n6:Int)<3
  rotate_left
  ·simp[h3] at G6 O6
   simp[aJ,q0,q4,h3,gB]
   exact⟨rfl,_,_,_,_,_,_,G6.more,(O.trans O1).trans O6,.begins 1 cmd aZZ (by omega) ho0 hm has hk0 rfl (by rw[← hg])⟩
  ·simp[h3] at G6 O6
   simp[aJ,q0,q4,h3,gB]
   simp[aX,q0,q4,rA]
   refine(w8 S G6 hk (by omega) (c:=1) (by simp)).mono ?_
   rintro o h7 nx7 ⟨rfl,g',A7,EG,G7,e7,O7⟩
   simp
   exact⟨rfl,_,_,_,_,_,_,G7,((O.trans O1).trans O6).trans O7,.begins 1 cmd aZZ (by omega) ho0 hm has hk0 rfl (by rw[← hg];exact e7)⟩
 ·simp[Kg] at Ol
  simp
  simp[-appendTo,aU,q0,q4,q8,hb,hb8,gB,Ol,cl.1,cl.2,cA1.1,cA1.2,ca.1,ca.2]
  have O1:Old n0 h nx H1 nx.succ:=⟨by omega,fun b hb=>e.g b (by omega)⟩
  obtain⟨c',h5,zA,o',ha,Ui,F⟩:=G1.L.BG ew (by decide) (by decide) (by omega) ⟨0,2,cmd.name,aZZ,⟨0,0⟩⟩
  have ee:eE ⟨0,2,cmd.name,aZZ,⟨0,0⟩⟩=[I 0,I 2,.str cmd.name.1 cmd.name.2,aB aZZ,I 0,I 0,.str 0 0,.nils]:=rfl
  have OB:=Ui.cell
  have hb5:aa bg h5=some (.cells (gB (jg mi) cL cQ g) .fix):=by rw[F.g bg G1.bn (fun e=>(G1.lo bg e).2.1 rfl)];exact G1.nM
  obtain⟨G6,O6⟩:=G1.ajm (g':={g with o:=oi g.o 2 true,lt:=oi g.lt 2 (!decide ((n6:Int)<3))}) (by omega) F Ui
  have n5:=O6.n
  rw[ee] at ha
  simp[gB] at G6 O6
  simp[-appendTo,hb5,gB,OB.1,OB.2,ha]
  simp[aV,q0,q4,gB]
  simp[aW,q0,q4,q6,gB]
  have hb6:=G6.nM
  by_cases h3:(n6:Int)<3
  rotate_left
  ·simp[h3] at G6 O6
   simp[aJ,q0,q4,h3,gB]
   exact⟨rfl,_,_,_,_,_,_,G6.more,(O.trans O1).trans O6,.begins 2 cmd aZZ (by omega) ho0 hm has hk0 rfl (by rw[← hg])⟩
  ·simp[h3] at G6 O6
   simp[aJ,q0,q4,h3,gB]
   simp[aX,q0,q4,rA]
   refine(w8 S G6 hk (by omega) (c:=2) (by simp)).mono ?_
   rintro o h7 nx7 ⟨rfl,g',A7,EG,G7,e7,O7⟩
   simp
   exact⟨rfl,_,_,_,_,_,_,G7,((O.trans O1).trans O6).trans O7,.begins 2 cmd aZZ (by omega) ho0 hm has hk0 rfl (by rw[← hg];exact e7)⟩
end Ln
/-
 LN: the generator of histories: a call begins. No condition.
-/
namespace Ln
open Go.Sx Go
def Df(mi t:Nat):gE:=match mi,t with
 |0,1=>.get|0,_=>.put|1,0=>.inc|1,1=>.tP|1,_=>.add|_,0=>.write|_,_=>.qn
theorem M8{mi:Nat}(hi:mi<3){t:Nat}(ht:t<3):Df mi t∈aw mi:=by
 match mi,hi,t,ht with
 |0,_,0,_=>decide
 |0,_,1,_=>decide
 |0,_,2,_=>decide
 |1,_,0,_=>decide
 |1,_,1,_=>decide
 |1,_,2,_=>decide
 |2,_,0,_=>decide
 |2,_,1,_=>decide
 |2,_,2,_=>decide
theorem tE.put0{bg n0:Key}{m:Nat×Nat}{l:List Ev}{g g':GS}{k:Nat}{cL cQ:AV}{oL oQ:Option Key}{h:T ah}{nx nx0 b8:Key}{c:Nat}{cmd:gE}{cA:AV}(G:tE bg n0 m l g k cL cQ oL oQ h nx0)(h8:aa b8 h=some (.cells (Kg c cmd cA) .fix))(h80:nx0.toNat≤b8.toNat):tE bg n0 m l g' k cL cQ oL oQ (av bg (some (.cells (gB m cL cQ g') .fix)) h) nx0∧aa b8 (av bg (some (.cells (gB m cL cQ g') .fix)) h)=some (.cells (Kg c cmd cA) .fix)∧Old n0 h nx (av bg (some (.cells (gB m cL cQ g') .fix)) h) nx:=by
 obtain⟨G1,O1⟩:=G.put (g':=g')
 have bn:=G.bn
 exact⟨G1,by rw[bZ _ _ _ _ (fun e=>by rw[e] at h80;omega)];exact h8,fe _,O1.g⟩
theorem tE.at0{bg n0:Key}{m:Nat×Nat}{l:List Ev}{g:GS}{k:Nat}{cL cQ:AV}{oL oQ:Option Key}{h h':T ah}{nx nx':Key}(G:tE bg n0 m l g k cL cQ oL oQ h nx)(e:Ext h nx h' nx')(_:nx.toNat≤nx'.toNat):tE bg n0 m l g k cL cQ oL oQ h' nx:=by
 obtain⟨len,hlen,hQ⟩:=G.Q
 exact⟨by rw[e.g bg G.bn];exact G.nM,G.L.kN (fe _) fun b hb=>e.g b (G.L.lt b hb),⟨len,hlen,hQ.kN (fe _) fun b hb=>e.g b (hQ.lt b hb)⟩,G.b0,G.bn,G.lo,G.qo⟩
variable{C:dm}{X:Kn}(S:Std C X)
theorem aAD{h:T ah}{nx b8:Key}{tm:T AV}{c:Nat}{cmd:gE}{cA:AV}(h8:aa b8 h=some (.cells (Kg c cmd cA) .fix))(q8:aa (K 8) tm=some (.ptr b8 0)){Q:cX}
  (key:∀ tm2,(∀ k:Key,k=K 0∨k=K 4∨k=K 6∨k=K 8→aa k tm2=aa k tm)→aa (K 124) tm2=some (.bool (cmd.ar==1))→Q .norm tm2 h nx):mF C Q bF tm h nx:=by
 cases cmd
 all_goals
  simp[Kg,gE.name] at h8
  simp[bF,q8,h8]
  refine key _ ?_ ?_
  ·rintro k (rfl|rfl|rfl|rfl)<;>simp
  ·simp[gE.ar]
include S
theorem Ik{bg n0:Key}{mi:Nat}{l:List Ev}{g g0:GS}{hB:T ah}{nxB:Key}{k:Nat}{cL cQ:AV}{oL oQ:Option Key}{h:T ah}{nx nx0 b8:Key}(G:tE bg n0 (jg mi) l g k cL cQ oL oQ h nx0)(hg:g.o=g0.o)(O:Old n0 hB nxB h nx)(hx:nx0.toNat≤nx.toNat)(hl:l.length≤100)(hk:k≤100)(hn:n0.toNat≤nx0.toNat){tm:T AV}{c n6:Nat}{cmd:gE}(h8:aa b8 h=some (.cells (Kg c cmd .nils) .fix))(h80:nx0.toNat≤b8.toNat)(h8n:b8.toNat<nx.toNat)
  (hm:cmd∈aw mi) (hc:c=0∨c=1∨c=2) (ho:g.o c=false) (q0:aa (K 0) tm=some (.ptr bg 0)) (q4:aa (K 4) tm=some (I c)) (q6:aa (K 6) tm=some (I n6)) (q8:aa (K 8) tm=some (.ptr b8 0)) :
  dz C (.seq (.seq (.ops bF) (.cond (.t (K 124)) (.ops br) .skip)) (.seq (.staged aU ⟨[K 134,K 135,K 136,K 137,K 138,K 139,K 140,K 141,K 142,K 143],[]⟩) (.seq (.ops aV) (.seq (.ops aW) (.seq (.ops aJ) (.cond (.t (K 162)) (.ops aX) .skip)))))) (bb [] (Tz bg n0 mi l g0 k hB nxB)) tm h nx:=by
 have rN:C.raw fj=false:=S.nr (by decide)
 have hb:=G.nM
 have bn:=G.bn
 simp
 refine aAD h8 q8 ?_
 intro tm2 q awq
 have p0:=(q (K 0) (by simp)).trans q0
 have p4:=(q (K 4) (by simp)).trans q4
 have p6:=(q (K 6) (by simp)).trans q6
 have p8:=(q (K 8) (by simp)).trans q8
 by_cases Pa:cmd.ar=1
 ·have fin:∀ (Fc:T AV) (h3:T ah) (bu ba:Key) (u:U),u.k=0→aa (K 0) Fc=some (.ptr bg 0)→aa (K 4) Fc=some (I c)→aa (K 6) Fc=some (I n6)→aa (K 8) Fc=some (.ptr b8 0)→tE bg n0 (jg mi) l g k cL cQ oL oQ h3 nx0→nx.toNat≤bu.toNat→Old n0 h nx h3 bu→aa b8 h3=some (.cells (Kg c cmd (.slice ba 0 1 4)) .fix)→aa ba h3=some (.cells (eU u) .fix)→nx.toNat≤ba.toNat→ba.toNat<bu.toNat→
    dz C (.seq (.staged aU ⟨[K 134,K 135,K 136,K 137,K 138,K 139,K 140,K 141,K 142,K 143],[]⟩) (.seq (.ops aV) (.seq (.ops aW) (.seq (.ops aJ) (.cond (.t (K 162)) (.ops aX) .skip))))) (bb [] (Tz bg n0 mi l g0 k hB nxB)) Fc h3 bu:=by
   intro Fc h3 bu ba u hu r0 r4 r6 r8 G3 hx3 O3 hb8 hba aJ9 aKa
   exact Qx S (aZZ:=[u]) G3 hg (O.trans O3) (by omega) hl hk hn (.inr ⟨ba,u,rfl,rfl,hba,by omega,aKa,fun e=>by rw[e] at aJ9;omega⟩) hb8 h80 (by omega) hm (by rw[Pa];rfl) (by simpa using hu) hc ho r0 r4 r6 r8
  simp only[aL,aM,aQ,dF] at fin
  have hb8:aa b8 h=some (.cells [I 0,I c,.str cmd.name.1 cmd.name.2,.nils,I 0,I 0,.str 0 0,.nils] .fix):=h8
  simp[Pa] at awq
  simp[awq]
  rcases hc with rfl|rfl|rfl
  ·simp[br,p0,p4,hb,gB,rN]
   refine(tF S (g.a 0)).mono ?_
   rintro o h3 bu ⟨rfl,e3⟩
   have n3:=e3.n
   have s3:=kTSu bu
   have asT:aa b8 h3=some (.cells [I 0,I 0,.str cmd.name.1 cmd.name.2,.nils,I 0,I 0,.str 0 0,.nils] .fix):=by rw[e3.g b8 h8n];exact hb8
   have e4:=E0 h3 bu (.cells (eU ⟨0,g.a 0⟩) .fix)
   have bI:b8≠bu:=fun e=>by rw[e] at h8n;omega
   have e5:Ext h nx0 (av b8 (some (.cells (Kg 0 cmd (.slice bu 0 1 4)) .fix)) (av bu (some (.cells (eU ⟨0,g.a 0⟩) .fix)) h3)) bu.succ:=⟨by omega,fun b hb=>by rw[az (by omega),az (by omega)];exact e3.g b (by omega)⟩
   simp[p8,az,h8n,asT,eU,bZ _ _ _ _ bI]
   refine fin _ _ _ bu ⟨0,g.a 0⟩ rfl ?_ ?_ ?_ ?_ (G.at0 e5 (by omega)) (by omega) ⟨by omega,fun b hb=>e5.g b (by omega)⟩ ?_ ?_ (by omega) (by omega)
   ·simp[p0]
   ·simp[p4]
   ·simp[p6]
   ·simp[p8]
   ·simp[Kg]
   ·simp[bZ _ _ _ _ (Ne.symm bI),eU]
  ·simp[br,p0,p4,hb,gB,rN]
   refine(tF S (g.a 1)).mono ?_
   rintro o h3 bu ⟨rfl,e3⟩
   have n3:=e3.n
   have s3:=kTSu bu
   have asT:aa b8 h3=some (.cells [I 0,I 1,.str cmd.name.1 cmd.name.2,.nils,I 0,I 0,.str 0 0,.nils] .fix):=by rw[e3.g b8 h8n];exact hb8
   have e4:=E0 h3 bu (.cells (eU ⟨0,g.a 1⟩) .fix)
   have bI:b8≠bu:=fun e=>by rw[e] at h8n;omega
   have e5:Ext h nx0 (av b8 (some (.cells (Kg 1 cmd (.slice bu 0 1 4)) .fix)) (av bu (some (.cells (eU ⟨0,g.a 1⟩) .fix)) h3)) bu.succ:=⟨by omega,fun b hb=>by rw[az (by omega),az (by omega)];exact e3.g b (by omega)⟩
   simp[p8,az,h8n,asT,eU,bZ _ _ _ _ bI]
   refine fin _ _ _ bu ⟨0,g.a 1⟩ rfl ?_ ?_ ?_ ?_ (G.at0 e5 (by omega)) (by omega) ⟨by omega,fun b hb=>e5.g b (by omega)⟩ ?_ ?_ (by omega) (by omega)
   ·simp[p0]
   ·simp[p4]
   ·simp[p6]
   ·simp[p8]
   ·simp[Kg]
   ·simp[bZ _ _ _ _ (Ne.symm bI),eU]
  ·simp[br,p0,p4,hb,gB,rN]
   refine(tF S (g.a 2)).mono ?_
   rintro o h3 bu ⟨rfl,e3⟩
   have n3:=e3.n
   have s3:=kTSu bu
   have asT:aa b8 h3=some (.cells [I 0,I 2,.str cmd.name.1 cmd.name.2,.nils,I 0,I 0,.str 0 0,.nils] .fix):=by rw[e3.g b8 h8n];exact hb8
   have e4:=E0 h3 bu (.cells (eU ⟨0,g.a 2⟩) .fix)
   have bI:b8≠bu:=fun e=>by rw[e] at h8n;omega
   have e5:Ext h nx0 (av b8 (some (.cells (Kg 2 cmd (.slice bu 0 1 4)) .fix)) (av bu (some (.cells (eU ⟨0,g.a 2⟩) .fix)) h3)) bu.succ:=⟨by omega,fun b hb=>by rw[az (by omega),az (by omega)];exact e3.g b (by omega)⟩
   simp[p8,az,h8n,asT,eU,bZ _ _ _ _ bI]
   refine fin _ _ _ bu ⟨0,g.a 2⟩ rfl ?_ ?_ ?_ ?_ (G.at0 e5 (by omega)) (by omega) ⟨by omega,fun b hb=>e5.g b (by omega)⟩ ?_ ?_ (by omega) (by omega)
   ·simp[p0]
   ·simp[p4]
   ·simp[p6]
   ·simp[p8]
   ·simp[Kg]
   ·simp[bZ _ _ _ _ (Ne.symm bI),eU]
 ·have aKb:cmd.ar=0:=by cases cmd<;>simp[gE.ar] at Pa ⊢
  have bI:(cmd.ar==1)=false:=by simpa using Pa
  rw[bI] at awq
  simp[awq]
  have key:=Qx S (aZZ:=[]) (n6:=n6) (tm:=tm2) G hg O hx hl hk hn (.inl ⟨rfl,rfl⟩) h8 h80 h8n hm (by rw[aKb];rfl) (by simp) hc ho p0 p4 p6 p8
  simp only[aL,aM,aQ,dF] at key
  exact key
end Ln
/-
 LN: the generator of histories: one step. No condition.
-/
namespace Ln
open Go.Sx Go
variable{C:dm}{X:Kn}(S:Std C X)
include S
theorem atP{bg n0:Key}{mi:Nat}{l:List Ev}{g g0:GS}{hB:T ah}{nxB:Key}{k:Nat}{cL cQ:AV}{oL oQ:Option Key}{h:T ah}{nx nx0 b8:Key}(G:tE bg n0 (jg mi) l g k cL cQ oL oQ h nx0)(hg:g.o=g0.o)(O:Old n0 hB nxB h nx)(hx:nx0.toNat≤nx.toNat)(hl:l.length≤100)(hk:k≤100)(hn:n0.toNat≤nx0.toNat){tm:T AV}{kk c n6:Nat}(qq:kk<1000000){cmd:gE}(h8:aa b8 h=some (.cells (Kg c cmd .nils) .fix))(h80:nx0.toNat≤b8.toNat)(h8n:b8.toNat<nx.toNat)
  (hm:cmd∈aw mi) (hc:c=0∨c=1∨c=2) (ho:g.o c=false) (q0:aa (K 0) tm=some (.ptr bg 0)) (q1:aa (K 1) tm=some (I kk)) (q4:aa (K 4) tm=some (I c)) (q6:aa (K 6) tm=some (I n6)) (q8:aa (K 8) tm=some (.ptr b8 0)) :
  dz C (.seq (.ops bG) (.seq (.staged bH ⟨[K 105,K 106,K 107,K 108,K 109,K 110,K 111],[]⟩) (.seq (.seq (.ops bF) (.cond (.t (K 124)) (.ops br) .skip)) (.seq (.staged aU ⟨[K 134,K 135,K 136,K 137,K 138,K 139,K 140,K 141,K 142,K 143],[]⟩) (.seq (.ops aV) (.seq (.ops aW) (.seq (.ops aJ) (.cond (.t (K 162)) (.ops aX) .skip)))))))) (bb [] (Tz bg n0 mi l g0 k hB nxB)) tm h nx:=by
 have hb:=G.nM
 have bn:=G.bn
 have hd1:Int.tdiv (kk:Int) 306=((kk / 306:Nat):Int):=rfl
 have hw1:bV .i64 ((kk / 306:Nat):Int)=((kk / 306:Nat):Int):=au (by omega) (by omega)
 have hm1:Int.tmod ((kk / 306:Nat):Int) 3=((kk / 306%3:Nat):Int):=rfl
 have hw2:bV .i64 ((kk / 306%3:Nat):Int)=((kk / 306%3:Nat):Int):=au (by omega) (by omega)
 generalize kk / 306%3=e3 at *
 generalize kk / 306=aQ3 at *
 have hb8:aa b8 h=some (.cells [I 0,I c,.str cmd.name.1 cmd.name.2,.nils,I 0,I 0,.str 0 0,.nils] .fix):=h8
 have bI:b8≠bg:=fun e=>by rw[e] at h80;omega
 simp only[aL,aQ,aM]
 rcases hc with rfl|rfl|rfl
 ·obtain⟨G1,h81,O1⟩:=G.put0 (g':={g with a:=oi g.a 0 e3}) (nx:=nx) h8 h80
  obtain⟨G2,h82,O2⟩:=G1.put0 (g':={g with a:=oi g.a 0 e3,s:=oi g.s 0 cmd.name}) (nx:=nx) h81 h80
  have key:=fun tm2 a b c d=>Ik S (tm:=tm2) (n6:=n6) G2 (g0:=g0) hg ((O.trans O1).trans O2) hx hl hk hn h82 h80 h8n hm (by simp) ho a b c d
  simp only[aL,aQ,aM,dF] at key
  simp[gB,Kg] at key
  simp[bG,q0,q1,q4,hb,gB,hd1,hw1,hm1,hw2]
  simp[bH,q0,q4,q8,hb8,gB,bZ _ _ _ _ bI]
  refine key _ ?_ ?_ ?_ ?_<;>simp[q0,q4,q6,q8]
 ·obtain⟨G1,h81,O1⟩:=G.put0 (g':={g with a:=oi g.a 1 e3}) (nx:=nx) h8 h80
  obtain⟨G2,h82,O2⟩:=G1.put0 (g':={g with a:=oi g.a 1 e3,s:=oi g.s 1 cmd.name}) (nx:=nx) h81 h80
  have key:=fun tm2 a b c d=>Ik S (tm:=tm2) (n6:=n6) G2 (g0:=g0) hg ((O.trans O1).trans O2) hx hl hk hn h82 h80 h8n hm (by simp) ho a b c d
  simp only[aL,aQ,aM,dF] at key
  simp[gB,Kg] at key
  simp[bG,q0,q1,q4,hb,gB,hd1,hw1,hm1,hw2]
  simp[bH,q0,q4,q8,hb8,gB,bZ _ _ _ _ bI]
  refine key _ ?_ ?_ ?_ ?_<;>simp[q0,q4,q6,q8]
 ·obtain⟨G1,h81,O1⟩:=G.put0 (g':={g with a:=oi g.a 2 e3}) (nx:=nx) h8 h80
  obtain⟨G2,h82,O2⟩:=G1.put0 (g':={g with a:=oi g.a 2 e3,s:=oi g.s 2 cmd.name}) (nx:=nx) h81 h80
  have key:=fun tm2 a b c d=>Ik S (tm:=tm2) (n6:=n6) G2 (g0:=g0) hg ((O.trans O1).trans O2) hx hl hk hn h82 h80 h8n hm (by simp) ho a b c d
  simp only[aL,aQ,aM,dF] at key
  simp[gB,Kg] at key
  simp[bG,q0,q1,q4,hb,gB,hd1,hw1,hm1,hw2]
  simp[bH,q0,q4,q8,hb8,gB,bZ _ _ _ _ bI]
  refine key _ ?_ ?_ ?_ ?_<;>simp[q0,q4,q6,q8]
theorem atQ{bg n0:Key}{mi:Nat}{l:List Ev}{g g0:GS}{hB:T ah}{nxB:Key}{k:Nat}{cL cQ:AV}{oL oQ:Option Key}{h:T ah}{nx nx0 b7:Key}(G:tE bg n0 (jg mi) l g k cL cQ oL oQ h nx0)(hg:g.o=g0.o)(O:Old n0 hB nxB h nx)(hx:nx0.toNat≤nx.toNat)(hl:l.length≤100)(hk:k≤100)(hn:n0.toNat≤nx0.toNat){tm:T AV}{kk c n6:Nat}(qq:kk<1000000)(hi:mi<3)(h7:aa b7 h=some (.cells [.str (Df mi 0).name.1 (Df mi 0).name.2,.str (Df mi 1).name.1 (Df mi 1).name.2,.str (Df mi 2).name.1 (Df mi 2).name.2] .fix))(h6:n6<6)(hc:c=0∨c=1∨c=2)(ho:g.o c=false)(q0:aa (K 0) tm=some (.ptr bg 0))(q1:aa (K 1) tm=some (I kk))(q4:aa (K 4) tm=some (I c))(q6:aa (K 6) tm=some (I n6))(q7:aa (K 7) tm=some (.slice b7 0 3 1)) :
  dz C (.seq (.ops ct) (.seq (.ops bG) (.seq (.staged bH ⟨[K 105,K 106,K 107,K 108,K 109,K 110,K 111],[]⟩) (.seq (.seq (.ops bF) (.cond (.t (K 124)) (.ops br) .skip)) (.seq (.staged aU ⟨[K 134,K 135,K 136,K 137,K 138,K 139,K 140,K 141,K 142,K 143],[]⟩) (.seq (.ops aV) (.seq (.ops aW) (.seq (.ops aJ) (.cond (.t (K 162)) (.ops aX) .skip))))))))) (bb [] (Tz bg n0 mi l g0 k hB nxB)) tm h nx:=by
 have s1:=kTSu nx
 have hm1:Int.tmod (n6:Int) 3=((n6%3:Nat):Int):=rfl
 have hw1:bV .i64 ((n6%3:Nat):Int)=((n6%3:Nat):Int):=au (by omega) (by omega)
 have ht:n6%3=0∨n6%3=1∨n6%3=2:=by omega
 generalize n6%3=t at *
 simp only[aL,aQ,aM]
 have key:∀ (cmd:gE),cmd∈aw mi→∀ tm2,aa (K 0) tm2=some (.ptr bg 0)→aa (K 1) tm2=some (I kk)→aa (K 4) tm2=some (I c)→aa (K 6) tm2=some (I n6)→aa (K 8) tm2=some (.ptr nx 0)→
   dz C (.seq (.ops bG) (.seq (.staged bH ⟨[K 105,K 106,K 107,K 108,K 109,K 110,K 111],[]⟩) (.seq (.seq (.ops bF) (.cond (.t (K 124)) (.ops br) .skip)) (.seq (.staged aU ⟨[K 134,K 135,K 136,K 137,K 138,K 139,K 140,K 141,K 142,K 143],[]⟩) (.seq (.ops aV) (.seq (.ops aW) (.seq (.ops aJ) (.cond (.t (K 162)) (.ops aX) .skip)))))))) (bb [] (Tz bg n0 mi l g0 k hB nxB)) tm2 (av nx (some (.cells (Kg c cmd .nils) .fix)) h) nx.succ:=by
  intro cmd hm tm2 p0 p1 p4 p6 p8
  have e1:=E0 h nx (.cells (Kg c cmd .nils) .fix)
  have e2:Ext h nx0 (av nx (some (.cells (Kg c cmd .nils) .fix)) h) nx0:=⟨fe _,fun b hb=>e1.g b (by omega)⟩
  exact atP S (G.at0 e2 (fe _)) hg (O.trans (Old.jk e1 (by omega))) (by omega) hl hk hn qq (by simp) (by omega) (by omega) hm hc ho p0 p1 p4 p6 p8
 simp only[aL,aQ,aM,dF,Kg] at key
 rcases ht with rfl|rfl|rfl
 ·have k0:=key _ (M8 hi (t:=0) (by omega))
  simp[ct,q4,q6,q7,h7,hm1,hw1]
  refine k0 _ ?_ ?_ ?_ ?_ ?_<;>simp[q0,q1,q4,q6]
 ·have k0:=key _ (M8 hi (t:=1) (by omega))
  simp[ct,q4,q6,q7,h7,hm1,hw1]
  refine k0 _ ?_ ?_ ?_ ?_ ?_<;>simp[q0,q1,q4,q6]
 ·have k0:=key _ (M8 hi (t:=2) (by omega))
  simp[ct,q4,q6,q7,h7,hm1,hw1]
  refine k0 _ ?_ ?_ ?_ ?_ ?_<;>simp[q0,q1,q4,q6]
theorem aiq{bg n0:Key}{mi:Nat}{l:List Ev}{g:GS}{k:Nat}{cL cQ:AV}{oL oQ:Option Key}{h:T ah}{nx:Key}(G:tE bg n0 (jg mi) l g k cL cQ oL oQ h nx)(hi:mi<3)(hl:l.length≤100)(hk:k≤100)(hn:n0.toNat≤nx.toNat){tm:T AV}{kk c:Nat}(qq:kk<1000000)(hc:c=0∨c=1∨c=2)(ho:g.o c=false)(q0:aa (K 0) tm=some (.ptr bg 0))(q1:aa (K 1) tm=some (I kk))(q4:aa (K 4) tm=some (I c)) :
  dz C (.seq (.ops eT) (.seq (.ops eV) (.seq (.seq (.ops dw) (.cond (.t (K 82)) (.ops eW) .skip)) (.seq (.seq (.ops dx) (.cond (.t (K 88)) (.ops eX) .skip)) (.seq (.ops ct) (.seq (.ops bG) (.seq (.staged bH ⟨[K 105,K 106,K 107,K 108,K 109,K 110,K 111],[]⟩) (.seq (.seq (.ops bF) (.cond (.t (K 124)) (.ops br) .skip)) (.seq (.staged aU ⟨[K 134,K 135,K 136,K 137,K 138,K 139,K 140,K 141,K 142,K 143],[]⟩) (.seq (.ops aV) (.seq (.ops aW) (.seq (.ops aJ) (.cond (.t (K 162)) (.ops aX) .skip))))))))))))) (bb [] (Tz bg n0 mi l g k h nx)) tm h nx:=by
 have s1:=kTSu nx
 have s2:=kTSu nx.succ
 have hb:=G.nM
 have bn:=G.bn
 have Ug:Int.tdiv (kk:Int) 51=((kk / 51:Nat):Int):=rfl
 have Uh:bV .i64 ((kk / 51:Nat):Int)=((kk / 51:Nat):Int):=au (by omega) (by omega)
 have hm6:Int.tmod ((kk / 51:Nat):Int) 6=((kk / 51%6:Nat):Int):=rfl
 have hw6:bV .i64 ((kk / 51%6:Nat):Int)=((kk / 51%6:Nat):Int):=au (by omega) (by omega)
 have h6:kk / 51%6<6:=Nat.mod_lt _ (by omega)
 generalize kk / 51%6=n6 at *
 generalize kk / 51=e51 at *
 have e1:=E0 h nx (.cells [.str 3 7632240,.str 3 7628135,.str 3 7632240] .fix)
 have hb1:aa bg (av nx (some (.cells [.str 3 7632240,.str 3 7628135,.str 3 7632240] .fix)) h)=some (.cells (gB (jg mi) cL cQ g) .fix):=by rw[az bn];exact hb
 simp only[aL,aQ,aM,dF]
 simp[eT,q1,Ug,Uh,hm6,hw6]
 simp[eV]
 have fin:∀ (tm2:T AV) (h2:T ah) (aI b7:Key),Ext h nx h2 aI→aa b7 h2=some (.cells [.str (Df mi 0).name.1 (Df mi 0).name.2,.str (Df mi 1).name.1 (Df mi 1).name.2,.str (Df mi 2).name.1 (Df mi 2).name.2] .fix)→aa (K 0) tm2=some (.ptr bg 0)→aa (K 1) tm2=some (I kk)→aa (K 4) tm2=some (I c)→aa (K 6) tm2=some (I n6)→aa (K 7) tm2=some (.slice b7 0 3 1)→
   dz C (.seq (.ops ct) (.seq (.ops bG) (.seq (.staged bH ⟨[K 105,K 106,K 107,K 108,K 109,K 110,K 111],[]⟩) (.seq (.seq (.ops bF) (.cond (.t (K 124)) (.ops br) .skip)) (.seq (.staged aU ⟨[K 134,K 135,K 136,K 137,K 138,K 139,K 140,K 141,K 142,K 143],[]⟩) (.seq (.ops aV) (.seq (.ops aW) (.seq (.ops aJ) (.cond (.t (K 162)) (.ops aX) .skip))))))))) (bb [] (Tz bg n0 mi l g k h nx)) tm2 h2 aI:=by
  intro tm2 h2 aI b7 e h7 p0 p1 p4 p6 p7
  exact atQ S (G.at0 e e.n) rfl (Old.jk e hn) e.n hl hk hn qq hi h7 h6 hc ho p0 p1 p4 p6 p7
 simp only[aL,aQ,aM,dF] at fin
 have hmi:mi=0∨mi=1∨mi=2:=by omega
 rcases hmi with rfl|rfl|rfl
 ·simp[gB,jg] at hb1
  simp[Df,gE.name] at fin
  simp[dw,q0,hb1]
  simp[dx,q0,hb1]
  refine fin _ _ _ nx e1 ?_ ?_ ?_ ?_ ?_ ?_<;>simp[q0,q1,q4]
 ·simp[gB,jg] at hb1
  simp[Df,gE.name] at fin
  have e2:=e1.trans (E0 _ nx.succ (.cells [.str 3 6516329,.str 4 1684104562,.str 3 6579297] .fix))
  simp[dw,q0,hb1]
  simp[eW]
  have A8:∀ B,aa bg (av nx.succ (some B) (av nx (some (.cells [.str 3 7632240,.str 3 7628135,.str 3 7632240] .fix)) h))=_:=fun B=>(az (by omega)).trans hb1
  simp[dx,q0,A8]
  refine fin _ _ _ nx.succ e2 ?_ ?_ ?_ ?_ ?_ ?_<;>simp[q0,q1,q4]
 ·simp[gB,jg] at hb1
  simp[Df,gE.name] at fin
  have e2:=e1.trans (E0 _ nx.succ (.cells [.str 5 435744764535,.str 4 1684104562,.str 4 1684104562] .fix))
  simp[dw,q0,hb1]
  simp[dx,q0,hb1]
  simp[eX]
  refine fin _ _ _ nx.succ e2 ?_ ?_ ?_ ?_ ?_ ?_<;>simp[q0,q1,q4]
end Ln
