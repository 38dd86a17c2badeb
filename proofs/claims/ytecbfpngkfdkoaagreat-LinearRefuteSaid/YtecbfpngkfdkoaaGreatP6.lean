/- A part of the proof. No condition. -/
import Derived.Test.YtecbfpngkfdkoaaGreatP5
import Derived.Test.YtecbfpngkfdkoaaGreatP4
import Derived.Laws.IdiomRangeMap
set_option linter.unusedSimpArgs false
set_option linter.unusedVariables false
set_option linter.unusedSectionVars false
namespace Go.Sx
open Go.RowKit
def nu(p:List (Nat×Key×ag)):List Nat:=p.map (·.2.1.toNat)
def EY(P:Program)(ρ:Nat→Int)(orc:hU)(nt:Nat)(w0:W0)(cs:List Frame)(K:List Item)(ops:Array Oper)(pl:List J)(bf:List Nat)(fr:Frame)(w:World)(μ:Mu)(G:Key→Option ag)(H:T ag)(nx:Key)(ak:List (Nat×Key×ag)):RS→Prop
 |.fin tm' h' nx'=>∃ dE w' μ' G',Steps P (lone fr cs w) (lone {fr with tmps:=dE,todo:=K} cs w')∧μ.le μ'∧aP P ρ w0 μ' G' nx'.toNat w'∧HSub h' G'∧jQ ρ μ' nt tm' dE∧Ag (nu ak) H h' nx nx' μ μ' G G'
 |.ev r Ff pend' tm' h' nx'=>(∃ n,r=.bad n)∨∃ dE w' μ' G' g' i po o ad os Pr kl jY,
   Steps P (lone fr cs w) (lone {fr with tmps:=dE,todo:=.inRegion ops (i ::jY) ::K} cs w')∧μ.le μ'∧aP P ρ w0 μ' G' nx'.toNat w'∧HSub h' G'∧
   Ff=.H i po ad ::.R os ::kl∧pl[i]?=some po∧Pr.mapM (BL pl)=some kl∧wP ops pl bf (Gl (Gh.L g') i) Pr=true∧hasB g'.L i=false∧(∀ j,j<ops.size→hasB (fc bf i) j=true→hasB g'.L j=true)∧
   (∀ i po,(i,po)∈os→pl[i]?=some po∧BJ ops bf i=true∧pB pl i=0)∧(∀ j,hasB g'.L j=true→fN pl j=true→hasB (fc bf i) j=true∨∃ po,(j,po)∈os)∧
   fO P ρ orc nt ops pl bf μ' G' h' nx' g' (fun i=>fN pl i=true) pend' tm' dE (i ::jY)∧ops[i]?=some o∧JC P nt ops o=some po∧Region.wanted o (yielded ops dE)=true∧
   aOp orc po.op tm' h' nx'=r∧¬ zr r∧Ag (nu ak) H h' nx nx' μ μ' G G'∧(∀ x∈nu pend',x∈nu ak∨nx.toNat≤x)
section
variable{P:Program}{ρ:Nat→Int}{orc:hU}{nt:Nat}{ops:Array Oper}{pl:List J}{bf:List Nat}{w0:W0}{cs:List Frame}{K:List Item}
theorem EY.step{fr:Frame}{w:World}{μ:Mu}{G:Key→Option ag}{H:T ag}{nx:Key}{ak:List (Nat×Key×ag)}{tmps2:Array Value}{rest2:List Nat}{w2:World}{μ2:Mu}{G2:Key→Option ag}{H2:T ag}{aH:Key}{pend2:List (Nat×Key×ag)}{r:RS}
  (dL:Steps P (lone fr cs w) (lone {fr with tmps:=tmps2,todo:=.inRegion ops rest2 ::K} cs w2)) (hle:μ.le μ2) (hk:Ag (nu ak) H H2 nx aH μ μ2 G G2) (hE:∀ x∈nu pend2,x∈nu ak∨nx.toNat≤x)
  (h:EY P ρ orc nt w0 cs K ops pl bf {fr with tmps:=tmps2,todo:=.inRegion ops rest2 ::K} w2 μ2 G2 H2 aH pend2 r):EY P ρ orc nt w0 cs K ops pl bf fr w μ G H nx ak r:=by
 cases r with
 |fin tm' h' nx'=>
  obtain⟨dE,w',μ',G',s1,s2,s3,s4,s5,s6⟩:=h
  exact⟨dE,w',μ',G',dL.trans s1,Mu.le_trans hle s2,s3,s4,s5,hk.trans s6 hE⟩
 |ev rr it pd tm' h' nx'=>
  rcases h with hb|⟨dE,w',μ',G',g',i,po,o,ad,os,Pr,kl,jY,s1,s2,s3,s4,s5,s6,s7,s8,s9,s10,s11,s12,s13,s14,s15,s16,s17,s18,s19,s20⟩
  ·exact .inl hb
  ·refine .inr ⟨dE,w',μ',G',g',i,po,o,ad,os,Pr,kl,jY,dL.trans s1,Mu.le_trans hle s2,s3,s4,s5,s6,s7,s8,s9,s10,s11,s12,s13,s14,s15,s16,s17,s18,hk.trans s19 hE,fun x hx=>?_⟩
   rcases s20 x hx with h|h
   ·exact hE x h
   ·exact .inr (Nat.le_trans hk.n h)
theorem iF{α β:Type}{f:α→Option β}{a:α}{l:List α}{r:List β}(h:(a ::l).mapM f=some r):∃ b r',f a=some b∧l.mapM f=some r'∧r=b ::r':=by
 rw[List.mapM_cons] at h
 cases hf:f a with
 |none=>rw[hf] at h;cases h
 |some b=>
  cases hl:l.mapM f with
  |none=>rw[hf] at h;simp[hl] at h
  |some r'=>rw[hf] at h;simp[hl] at h;exact⟨b,r',rfl,rfl,h.symm⟩
theorem T7(orc:hU)(iK:List (Nat×List Nat))(i:Nat)(o:J)(rest:List aM)(ak:List (Nat×Key×ag))(tm:T AV)(h:T ag)(nx:Key):gA orc iK (.L i o ::rest) ak tm h nx=(match cx o.guard tm with
   |none=>.ev (.bad 31) (.L i o ::rest) ak tm h nx
   |some false=>uB o.dst (some (.tuple [])) tm fun tm=>gA orc iK rest ak tm h nx
   |some true=>match lightOp orc o.op tm (uC (BC i iK) ak h) with
    |some v=>uB o.dst (some v) tm fun tm=>gA orc iK rest ak tm h nx
    |none=>.ev (.bad 32) (.L i o ::rest) ak tm h nx):=rfl
theorem T8(orc:hU)(iK:List (Nat×List Nat))(i:Nat)(o:J)(rest:List aM)(ak:List (Nat×Key×ag))(tm:T AV)(h:T ag)(nx:Key):gA orc iK (.A i o ::rest) ak tm h nx=(match cx o.guard tm with
   |none=>.ev (.bad 33) (.A i o ::rest) ak tm h nx
   |some false=>uB o.dst (some (.tuple [])) tm fun tm=>gA orc iK rest ak tm h nx
   |some true=>match allocOp o.op tm with
    |some (v,b)=>uB o.dst (some (v nx)) tm fun tm=>gA orc iK rest ((i,nx,b) ::ak) tm h nx.succ
    |none=>.ev (.bad 34) (.A i o ::rest) ak tm h nx):=rfl
theorem T9(orc:hU)(iK:List (Nat×List Nat))(i:Nat)(o:J)(l:List Nat)(rest:List aM)(ak:List (Nat×Key×ag))(tm:T AV)(h:T ag)(nx:Key):gA orc iK (.H i o l ::rest) ak tm h nx=(BK l ak h fun ak h=>match cx o.guard tm with
   |none=>.ev (.bad 35) (.H i o l ::rest) ak tm h nx
   |some false=>uB o.dst (some (.tuple [])) tm fun tm=>gA orc iK rest ak tm h nx
   |some true=>match aOp orc o.op tm h nx with
    |.val v h nx=>uB o.dst (some v) tm fun tm=>gA orc iK rest ak tm h nx
    |r=>.ev r (.H i o l ::rest) ak tm h nx):=rfl
theorem Td(orc:hU)(iK:List (Nat×List Nat))(os:List (Nat×J))(rest:List aM)(ak:List (Nat×Key×ag))(tm:T AV)(h:T ag)(nx:Key):gA orc iK (.R os ::rest) ak tm h nx =
  (bif recheck orc iK ak tm h os then gA orc iK rest ak tm h nx else .ev (.bad 36) (.R os ::rest) ak tm h nx):=rfl
theorem au7{os:List Nat}{l:List (Nat×J)}(h:(os.mapM fun i=>(pl[i]?).map fun o=>(i,o))=some l):(∀ i po,(i,po)∈l→i∈os∧pl[i]?=some po)∧(∀ i∈os,∃ po,(i,po)∈l):=by
 induction os generalizing l with
 |nil=>simp at h;subst h;simp
 |cons a os ih=>
  obtain⟨b,r,h1,h2,rfl⟩:=iF h
  obtain⟨po,R9,rfl⟩:=map_some h1
  obtain⟨e1,e2⟩:=ih h2
  refine⟨fun i Pm hm=>?_,fun i hi=>?_⟩
  ·rcases Ga.1 hm with h|h
   ·cases h;exact⟨by simp,R9⟩
   ·exact⟨List.mem_cons_of_mem _ (e1 i Pm h).1,(e1 i Pm h).2⟩
  ·rcases Ga.1 hi with h|h
   ·subst h;exact⟨po,by simp⟩
   ·obtain⟨q,hq⟩:=e2 i h;exact⟨q,List.mem_cons_of_mem _ hq⟩
theorem aCi{μ:Mu}{G:Key→Option ag}{nx:Key}{w:World}(hM:aP P ρ w0 μ G nx.toNat w):G nx=none:=by
 cases h:G nx with
 |none=>rfl
 |some B=>
  obtain⟨l,o,h1,_⟩:=hM.oR nx B h
  exact absurd (hM.new nx l h1) (Nat.lt_irrefl _)
theorem RN{α:Type}{f:α→Nat}:∀ {l:List α},(l.map f).Nodup→∀ x∈l,∀ y∈l,f x=f y→x=y
 | [],_,x,hx,_,_,_=>by cases hx
 |a ::l,h,x,hx,y,hy,e=>by
  simp only[zqx,List.nodup_cons] at h
  rcases Ga.1 hx with HE|HE<;>rcases Ga.1 hy with Tg|Tg
  ·rw[HE,Tg]
  ·exact(h.1 (Fa.2 ⟨y,Tg,by rw[← e,HE]⟩)).elim
  ·exact(h.1 (Fa.2 ⟨x,HE,by rw[e,Tg]⟩)).elim
  ·exact RN h.2 x HE y Tg e
theorem zf{α:Type}{f:α→Nat}(p:α→Bool){l:List α}(h:(l.map f).Nodup):((l.filter p).map f).Nodup:=
 List.Nodup.sublist (List.Sublist.map f List.filter_sublist) h
theorem fO.BK{μ:Mu}{G:Key→Option ag}{H:T ag}{nx:Key}{g:Gh}{ak:List (Nat×Key×ag)}{tm:T AV}{tmps:Array Value}{rest:List Nat}(S:fO P ρ orc nt ops pl bf μ G H nx g (fun _=>False) ak tm tmps rest){l:List Nat}(hl:∀ j∈l,j<ops.size→g.D j=true) :
  fO P ρ orc nt ops pl bf μ G (cM (ak.filter fun x=>memN x.1 l) H) nx g (fun i=>fN pl i=true) (ak.filter fun x=>!(memN x.1 l)) tm tmps rest:=by
 refine⟨S.LZ,S.ord,S.cl,S.sub,S.FB,S.lcl,S.a1,S.a2,S.sz,S.c1,S.c2,?_,?_,zf _ S.nk,zf _ S.ni⟩
 ·intro i hi hD
  cases S.pd i hi hD with
  |skip po lf h1 h2 h3 h4 h5=>exact .skip po lf h1 h2 h3 h4 fun x hx=>h5 x ((List.mem_filter.1 hx).1)
  |light po lf v h1 h2 h3 rq h4 h5 h6=>
   refine .light po lf v h1 h2 h3 rq (fun hu=>?_) h5 fun x hx=>h6 x ((List.mem_filter.1 hx).1)
   obtain⟨V,a1,_⟩:=h4 (fun h=>h)
   refine⟨_,?_,VOk.refl _ _ _ _⟩
   rw[← a1]
   apply H4
   have:fN pl i=Ip po.op:=by simp[fN,h1]
   rw[this] at hu
   simpa using hu
  |alloc po lf f B k h1 h2 h3 rq h4 h5 h6=>
   refine .alloc po lf f B k h1 h2 h3 rq h4 h5 (List.mem_filter.2 ⟨h6,?_⟩)
   show(!(memN i l))=true
   cases hm:memN i l with
   |false=>rfl
   |true=>rw[hl i (H7 hm) (S.FB i hi)] at hD;cases hD
 ·intro x hx
  obtain⟨HE,hx2⟩:=List.mem_filter.1 hx
  obtain⟨p1,p2,p3,p4,p5⟩:=S.pe x HE
  refine⟨p1,p2,p3,wG p4 fun y hy e=>?_,p5⟩
  obtain⟨Tg,hy2⟩:=List.mem_filter.1 hy
  have:=RN S.nk y Tg x HE e
  subst this
  rw[hy2] at hx2;cases hx2
theorem RO{iK:List (Nat×List Nat)}(hor:dq ρ orc){rest:List Nat}{g:Gh}{fr:Frame}{w:World}{μ:Mu}{G:Key→Option ag}{H:T ag}{nx:Key}{tm:T AV}{ak:List (Nat×Key×ag)}(hc:wP ops pl bf g.L []=true)(hM:aP P ρ w0 μ G nx.toNat w)(hH:HSub H G)
  (S:fO P ρ orc nt ops pl bf μ G H nx g (fun _=>False) ak tm fr.tmps rest) (hm:fr.mode=.run) (ht:fr.todo=.inRegion ops rest ::K):EY P ρ orc nt w0 cs K ops pl bf fr w μ G H nx ak (gA orc iK [] ak tm H nx):=by
 have oV:∀ j,j<ops.size→hasB g.L j=true:=by
  intro j hj
  simp only[wP,vV] at hc
  exact hc j (by simpa using hj)
 have dP:gA orc iK [] ak tm H nx=.fin tm (cM ak H) nx:=by
  show Ce ak H (fun h=>RS.fin tm h nx)=_
  rw[Dd]
 rw[dP]
 obtain⟨dE,w',μ',G',D',jY,s1,s2,s3,s4,s5,s6,rfl⟩:=amT (cs:=cs) hM hH hor S oV hm ht
 have hD:∀ j,j<ops.size→D' j=true:=s5.ord
 refine⟨dE,w',μ',G',s1.trans (.one (Ep hm rfl)),s2,s3,FV s4 (fun x hx=>(s5.pe x hx).2.1 (hD _ (s5.FB _ (s5.pe x hx).1))),?_,?_⟩
 ·refine⟨s5.sz,fun k a ha=>?_⟩
  by_cases h:∃ j,lQ ops j=some k.toNat
  ·obtain⟨j,hj⟩:=h
   have bz:=I9 hj
   exact s5.c1 k j a (hD j bz) hj (by rw[← s5.a1 k j (oV j bz) hj];exact ha)
  ·have iI:∀ j,lQ ops j≠some k.toNat:=fun j hj=>h ⟨j,hj⟩
   exact s5.c2 k a (fun j _=>iI j) (by rw[← s5.a2 k (fun j _=>iI j)];exact ha)
 ·refine⟨fun b hb hg hl=>?_,fh _⟩
  have bU:∀ x∈ak,x.2.1.toNat≠b.toNat:=fun x hx e=>hb (Fa.2 ⟨x,hx,e⟩)
  obtain⟨k1,k2⟩:=s6 b (fun x hx e=>bU x hx (by rw[e]))
  exact⟨k1,k2,wG hg bU⟩
theorem UK{iK:List (Nat×List Nat)}(ajw:xD bf iK=true)(hor:dq ρ orc):∀ (n:Nat) (sZ:List IIt) (items:List aM) (rest:List Nat) (g:Gh) (fr:Frame) (w:World) (μ:Mu) (G:Key→Option ag) (H:T ag) (nx:Key) (tm:T AV) (ak:List (Nat×Key×ag)),sZ.length≤n→
  sZ.mapM (BL pl)=some items→wP ops pl bf g.L sZ=true→aP P ρ w0 μ G nx.toNat w→HSub H G→fO P ρ orc nt ops pl bf μ G H nx g (fun _=>False) ak tm fr.tmps rest→fr.mode=.run→fr.todo=.inRegion ops rest ::K→
  EY P ρ orc nt w0 cs K ops pl bf fr w μ G H nx ak (gA orc iK items ak tm H nx):=by
 intro n
 induction n with
 |zero=>
  intro sZ items rest g fr w μ G H nx tm ak hn hf hc hM hH S hm ht
  have:sZ=[]:=zqr (by omega)
  subst this
  simp at hf
  subst hf
  exact RO hor hc hM hH S hm ht
 |succ n ih=>
  intro sZ items rest g fr w μ G H nx tm ak hn hf hc hM hH S hm ht
  cases sZ with
  |nil=>
   simp at hf
   subst hf
   exact RO hor hc hM hH S hm ht
  |cons x sZ=>
   obtain⟨y,Ff,hy,hf',rfl⟩:=iF hf
   have hn':sZ.length≤n:=by simpa using hn
   have hrefl:Steps P (lone fr cs w) (lone {fr with tmps:=fr.tmps,todo:=.inRegion ops rest ::K} cs w):=by rw[← ht];exact Steps.refl _ _
   cases x with
   |L i=>
    obtain⟨po,rK,rfl⟩:=map_some hy
    simp only[wP,jj,bltN_eq,decide_eq_true_eq,Bool.not_eq_true',Du] at hc
    obtain⟨⟨⟨⟨hi,hk⟩,hL⟩,hb⟩,hc⟩:=hc
    have hk:=mU hk
    have hii:hasB (fc bf i) i=false:=by
     cases h:hasB (fc bf i) i with
     |false=>rfl
     |true=>have:=hb i hi h;rw[hL] at this;cases this
    have htm:=S.au4 hi hL hb
    have UG:∀ x∈ak,x.1≠i:=by
     intro x hx e
     have:=(S.pe x hx).1
     rw[e,hL] at this;cases this
    rw[T7]
    cases hw:cx po.guard tm with
    |none=>exact Or.inl ⟨_,rfl⟩
    |some b=>
     cases b with
     |false=>
      simp only[dw]
      have S':=S.add (nx':=nx) (pend':=ak) (v:=.tuple []) rK hL hb (fun _ h=>h) (fun _ h=>.inl h) (.skip po tm rK (vG hii htm) hw (by simp[vU]) UG) (fun y hy hny=>absurd hy hny) (fh _) S.nk S.ni
      exact ih sZ Ff rest _ fr w μ G H nx _ ak hn' hf' hc hM hH S' hm ht
     |true=>
      cases hl:lightOp orc po.op tm (uC (BC i iK) ak H) with
      |none=>exact Or.inl ⟨_,rfl⟩
      |some v=>
       simp only[dw]
       have S':=S.add (nx':=nx) (pend':=ak) (v:=v) rK hL hb (fun _ h=>h) (fun _ h=>.inl h) (.light po tm v rK (vG hii htm) hw hk (fun _=>⟨_,hl,VOk.view ajw _ _ _⟩) (by simp[vU]) UG) (fun y hy hny=>absurd hy hny) (fh _) S.nk S.ni
       exact ih sZ Ff rest _ fr w μ G H nx _ ak hn' hf' hc hM hH S' hm ht
   |A i=>
    obtain⟨po,rK,rfl⟩:=map_some hy
    simp only[wP,jj,bltN_eq,decide_eq_true_eq,Bool.not_eq_true',Du] at hc
    obtain⟨⟨⟨⟨hi,hk⟩,hL⟩,hb⟩,hc⟩:=hc
    have hk:=mU hk
    have hii:hasB (fc bf i) i=false:=by
     cases h:hasB (fc bf i) i with
     |false=>rfl
     |true=>have:=hb i hi h;rw[hL] at this;cases this
    have htm:=S.au4 hi hL hb
    have UG:∀ x∈ak,x.1≠i:=by
     intro x hx e
     have:=(S.pe x hx).1
     rw[e,hL] at this;cases this
    have hss:=kTSu nx
    rw[T8]
    cases hw:cx po.guard tm with
    |none=>exact Or.inl ⟨_,rfl⟩
    |some b=>
     cases b with
     |false=>
      simp only[dw]
      have S':=S.add (nx':=nx) (pend':=ak) (v:=.tuple []) rK hL hb (fun _ h=>h) (fun _ h=>.inl h) (.skip po tm rK (vG hii htm) hw (by simp[vU]) UG) (fun y hy hny=>absurd hy hny) (fh _) S.nk S.ni
      exact ih sZ Ff rest _ fr w μ G H nx _ ak hn' hf' hc hM hH S' hm ht
     |true=>
      cases hl:allocOp po.op tm with
      |none=>exact Or.inl ⟨_,rfl⟩
      |some fB=>
       obtain⟨f,B⟩:=fB
       simp only[dw]
       have hgn:=aCi hM
       have hHn:aa nx H=none:=by
        cases h:aa nx H with
        |none=>rfl
        |some B=>rw[hH nx B h] at hgn;cases hgn
       have S':=S.add (nx':=nx.succ) (pend':=(i,nx,B) ::ak) (v:=f nx) rK hL hb (fun _ h=>List.mem_cons_of_mem _ h) (fun y h=>by rcases Ga.1 h with h|h;exact .inr (by rw[h]);exact .inl h)
        (.alloc po tm f B nx rK (vG hii htm) hw hk hl (by simp[vU]) (by simp))
        (fun y hy hny=>by
         have:y=(i,nx,B):=(Ga.1 hy).resolve_right hny
         subst this
         exact⟨hM.nE,hgn,hHn,by show nx.toNat<nx.succ.toNat;omega⟩) (by omega)
        (by
         simp only[zqx,List.nodup_cons]
         refine⟨fun h=>?_,S.nk⟩
         obtain⟨x,hx,e⟩:=Fa.1 h
         have:=(S.pe x hx).2.2.2.2
         omega)
        (by
         simp only[zqx,List.nodup_cons]
         refine⟨fun h=>?_,S.ni⟩
         obtain⟨x,hx,e⟩:=Fa.1 h
         exact UG x hx e)
       have:=ih sZ Ff rest _ fr w μ G H nx.succ _ ((i,nx,B) ::ak) hn' hf' hc (hM.aEi (by omega)) hH S' hm ht
       refine EY.step (tmps2:=fr.tmps) (rest2:=rest) (w2:=w) (pend2:=(i,nx,B) ::ak) hrefl μ.le_refl ⟨fun b _ hg hl=>⟨rfl,rfl,hg⟩,Nat.le_of_lt (show nx.toNat<nx.succ.toNat by omega)⟩ ?_ (by rw[← ht];exact this)
       intro x hx
       simp only[nu,zqx,Ga] at hx
       rcases hx with h|h
       ·exact .inr (Nat.le_of_eq h.symm)
       ·exact .inl h
   |H i ad=>
    obtain⟨po,rK,rfl⟩:=map_some hy
    cases sZ with
    |nil=>simp[wP] at hc
    |cons x2 Pr=>
    cases x2 with
    |L _=>simp[wP] at hc
    |A _=>simp[wP] at hc
    |H _ _=>simp[wP] at hc
    |R osn=>
    obtain⟨y2,kl,hy2,hf2,rfl⟩:=iF hf'
    obtain⟨os,Uu,rfl⟩:=map_some hy2
    obtain⟨aMl,aMm⟩:=au7 Uu
    have PR:Pr.length≤n:=by simp at hn;omega
    simp only[wP,jj,bltN_eq,decide_eq_true_eq,Bool.not_eq_true',Du] at hc
    obtain⟨⟨⟨⟨⟨⟨⟨⟨hi,hk⟩,hL⟩,hb⟩,ajq⟩,lU⟩,Fb⟩,aMn⟩,hc⟩:=hc
    have hk:=mU hk
    have aFV:∀ j q,(j,q)∈os→pl[j]?=some q∧BJ ops bf j=true∧pB pl j=0:=by
     intro j q hj
     obtain⟨e1,e2⟩:=aMl j q hj
     have:=vV.1 aMn j e1
     simp only[jj] at this
     exact⟨e2,this.2,mU this.1.2⟩
    have azq:∀ j,hasB g.L j=true→fN pl j=true→hasB (fc bf i) j=true∨∃ q,(j,q)∈os:=by
     intro j hj hr
     have:=vV.1 Fb j (by simpa using S.FB j hj)
     simp only[hj,hr,Bool.not_true,Bool.false_or,Bool.or_eq_true] at this
     rcases this with h|h
     ·exact .inl h
     ·exact .inr (aMm j (by simpa using h))
    have aCk:∀ j,j<ops.size→hasB g.L j=true∨j=i∨∃ q,q<ops.size∧hasB (fc bf j) q=true∧hasB g.L q=false:=by
     intro j hj
     have:=vV.1 ajq j (by simpa using hj)
     simp only[Bool.or_eq_true,Bool.not_eq_true'] at this
     rcases this with(h|h)|h
     ·exact .inl h
     ·exact .inr (.inl (mU h))
     ·refine .inr (.inr (Classical.byContradiction fun iI=>?_))
      have:ajT ops.size (fc bf j) g.L=true:=Du.2 fun q hq hbq=>by
       cases hLq:hasB g.L q with
       |true=>rfl
       |false=>exact absurd ⟨q,hq,hbq,hLq⟩ iI
      rw[this] at h;cases h
    obtain⟨H8,w1,μ1,G1,D1,aP0,s1,s2,s3,s4,S1,s6,r1,rfl⟩:=Ue (cs:=cs) hM hH hor S hi hL aCk hm ht
    have aFW:∀ j∈ad,j<ops.size→D1 j=true:=by
     intro j hj bz
     exact S1.ready.2.2 j bz (vV.1 lU j hj)
    have S2:=S1.BK (l:=ad) aFW
    rw[T9,uX]
    generalize hpf:(ak.filter fun x=>!(memN x.1 ad))=pend2 at S2
    generalize hHf:cM (ak.filter fun x=>memN x.1 ad) H=H2 at S2
    have hH2:HSub H2 G1:=by
     rw[← hHf]
     refine FV s4 fun x hx=>?_
     obtain⟨HE,hx2⟩:=List.mem_filter.1 hx
     exact(S1.pe x HE).2.1 (aFW _ (H7 hx2) (S1.FB _ (S1.pe x HE).1))
    have aFX:∀ x∈pend2,x∈ak:=by intro x hx;rw[← hpf] at hx;exact(List.mem_filter.1 hx).1
    have au8:∀ x∈nu pend2,x∈nu ak∨nx.toNat≤x:=by
     intro x hx
     obtain⟨y,hy,e⟩:=Fa.1 hx
     exact .inl (Fa.2 ⟨y,aFX y hy,e⟩)
    have hK2:Ag (nu ak) H H2 nx nx μ μ1 G G1:=by
     refine⟨fun b fL hg bO=>?_,fh _⟩
     have bU:∀ x∈ak,x.2.1.toNat≠b.toNat:=fun x hx e=>fL (Fa.2 ⟨x,hx,e⟩)
     obtain⟨k1,k2⟩:=s6 b (fun x hx e=>bU x hx (by rw[e]))
     rw[← hHf]
     exact⟨k1,k2,wG hg fun x hx=>bU x ((List.mem_filter.1 hx).1)⟩
    obtain⟨o,Pm,Jq,R9,DU⟩:=S.LZ.at hi
    rw[rK] at DU;cases DU
    obtain⟨kb,Sa,zt⟩:=gU R9
    have hsl:=S2.Mf hL hb Jq
    have hE:=Dp (P:=P) (nt:=nt) (o:=o) (fr:={fr with tmps:=H8,todo:=.inRegion ops (i ::r1) ::K}) s3 hsl
    have go:∀ (a:AV) (v:Value) (w3:World) (μ3:Mu) (G3:Key→Option ag) (H3:T ag) (bF:Key),step P (lone {fr with tmps:=H8,todo:=.inRegion ops (i ::r1) ::K} cs w1)=.next (lone {fr with tmps:=DS o.dst v H8,todo:=.inRegion ops r1 ::K} cs w3)→
      aD ρ μ3 a v→μ1.le μ3→aP P ρ w0 μ3 G3 bF.toNat w3→HSub H3 G3→Kept H2 H3 nx bF μ1 μ3 G1 G3→EY P ρ orc nt w0 cs K ops pl bf fr w μ G H nx ak (gA orc iK (.R os ::kl) pend2 (bu po.dst a tm) H3 bF):=by
     intro a v w3 μ3 G3 H3 bF dL hv hle hM3 hH3 hK3
     have S3:=S2.ew hle hK3.n (G':=G3) (H':=H3) (fun x hx=>by
      obtain⟨p1,p2,p3,p4,p5⟩:=S2.pe x hx
      exact⟨hK3.m _ p5,hK3.g _ p4 p5,hK3.h _ p4 p5⟩)
     have S4:=S3.azj rK hL hb Jq hv
     rw[Td]
     cases hrc:recheck orc iK pend2 (bu po.dst a tm) H3 os with
     |false=>exact Or.inl ⟨_,rfl⟩
     |true=>
      simp only[cond_true]
      have S5:=S4.Rj ajw hrc aFV (by
       intro j hj hDj hrj
       have hDj:(D1 j||j==i)=false:=hDj
       rw[Bool.or_eq_false_iff] at hDj
       have bU:j≠i:=by simpa using hDj.2
       have hj:hasB (Gl g.L i) j=true:=hj
       rw[Gx,Bool.or_eq_true,decide_eq_true_eq] at hj
       have hjL:=hj.resolve_right (fun e=>bU e.symm)
       rcases azq j hjL hrj with h|h
       ·have:=S1.ready.2.2 j (S.FB j hjL) h
        have:D1 j=true:=this
        rw[hDj.1] at this;cases this
       ·exact h)
      have hE3:=ih Pr kl r1 _ {fr with tmps:=DS o.dst v H8,todo:=.inRegion ops r1 ::K} w3 μ3 G3 H3 bF _ pend2 PR hf2 hc hM3 hH3 S5 hm rfl
      exact EY.step (s1.trans (.one dL)) (Mu.le_trans s2 hle) (hK2.trans (hK3.toE (nu pend2)) au8) (fun x hx=>(au8 x hx)) hE3
    have evt:∀ r:OR,Region.wanted o (yielded ops H8)=true→aOp orc po.op tm H2 nx=r→¬ zr r→EY P ρ orc nt w0 cs K ops pl bf fr w μ G H nx ak (.ev r (.H i po ad ::.R os ::kl) pend2 tm H2 nx):=by
     intro r mw ha hr
     exact Or.inr ⟨H8,w1,μ1,G1,{g with D:=D1},i,po,o,ad,os,Pr,kl,r1,s1,s2,s3,hH2,rfl,rK,hf2,hc,hL,hb,aFV,azq,S2,Jq,R9,mw,ha,hr,hK2,au8⟩
    show EY P ρ orc nt w0 cs K ops pl bf fr w μ G H nx ak (match cx po.guard tm with
     |none=>.ev (.bad 35) (.H i po ad ::.R os ::kl) pend2 tm H2 nx
     |some false=>uB po.dst (some (.tuple [])) tm fun tm=>gA orc iK (.R os ::kl) pend2 tm H2 nx
     |some true=>match aOp orc po.op tm H2 nx with
      |.val v h nx=>uB po.dst (some v) tm fun tm=>gA orc iK (.R os ::kl) pend2 tm h nx
      |r=>.ev r (.H i po ad ::.R os ::kl) pend2 tm H2 nx)
    cases hw:cx po.guard tm with
    |none=>exact Or.inl ⟨_,rfl⟩
    |some b=>
     have mw:=ym Sa hsl hw
     cases b with
     |false=>
      simp only[dw]
      have dL:=FG (P:=P) (cs:=cs) (w:=w1) (fr:={fr with tmps:=H8,todo:=.inRegion ops (i ::r1) ::K}) hm rfl Jq mw
      rw[cB rfl Jq] at dL
      exact go _ _ w1 μ1 G1 H2 nx dL (.tuple _ _ .nil) μ1.le_refl s3 hH2 (Kept.refl _ _ _ _)
     |true=>
      cases ha:aOp orc po.op tm H2 nx with
      |val a H3 bF=>
       simp only[dw]
       obtain⟨n,w3,μ3,G3,q1,q2,q3,q4,q5,q6⟩:=Rv s3 hH2 hor kb hE ha
       have QQ:fr.roundOf=none∨ek o.op=false:=.inr (tX kb (by rw[ha];intro f l e;cases e) (by rw[ha];intro n e;cases e))
       cases n with
       |value v=>
        have dL:=Me (P:=P) (cs:=cs) (fr:={fr with tmps:=H8,todo:=.inRegion ops (i ::r1) ::K}) hm rfl Jq mw QQ q1
        rw[cB rfl Jq] at dL
        exact go _ _ w3 μ3 G3 H3 bF dL q2 q3 q4 q5 q6
       |skip=>
        have q2:a=.tuple []:=q2
        subst q2
        have dL:=anW (P:=P) (cs:=cs) (fr:={fr with tmps:=H8,todo:=.inRegion ops (i ::r1) ::K}) hm rfl Jq mw QQ q1
        rw[cB rfl Jq] at dL
        exact go _ _ w3 μ3 G3 H3 bF dL (.tuple _ _ .nil) q3 q4 q5 q6
       |_=>exact q2.elim
      |bad n=>exact Or.inl ⟨_,rfl⟩
      |call f args=>exact evt _ mw ha (by rintro(⟨_,_,_,e⟩|⟨_,e⟩)<;>cases e)
      |yld k args=>exact evt _ mw ha (by rintro(⟨_,_,_,e⟩|⟨_,e⟩)<;>cases e)
      |pan v=>exact evt _ mw ha (by rintro(⟨_,_,_,e⟩|⟨_,e⟩)<;>cases e)
      |dfr f args=>exact evt _ mw ha (by rintro(⟨_,_,_,e⟩|⟨_,e⟩)<;>cases e)
      |recover=>exact evt _ mw ha (by rintro(⟨_,_,_,e⟩|⟨_,e⟩)<;>cases e)
      |alt la=>exact evt _ mw ha (by rintro(⟨_,_,_,e⟩|⟨_,e⟩)<;>cases e)
   |R os=>simp[wP] at hc
end
end Go.Sx
/-
 SX: simulation: frames that are entered, finished, left. No condition.
-/
namespace Go.Sx
open Go.RowKit
def Mi(P:Program)(ρ:Nat→Int)(w0:W0)(f:Nat)(l:List AV)(H:T ag)(nx:Key)(a:AV)(H':T ag)(nx':Key):Prop:=∀ (args:Array Value) (w:World) (μ:Mu) (G:Key→Option ag),aP P ρ w0 μ G nx.toNat w→HSub H G→an ρ μ l args.toList→
 Calls P f args w fun e w'=>∃ u μ' G',e=.returned u∧aD ρ μ' a u∧μ.le μ'∧aP P ρ w0 μ' G' nx'.toNat w'∧HSub H' G'∧Kept H H' nx nx' μ μ' G G'
structure Ctx(P:Program)(ρ:Nat→Int)(w0:W0)(C:cD):Prop where
 sum:∀ f l H nx a H' nx',C.sum f l H nx=some (a,H',nx')→Mi P ρ w0 f l H nx a H' nx'
 has : ∀ f l H nx r, C.sum f l H nx = some r → ∃ fn, P.funcs[f]? = some fn ∧ fn.body.isSome = true ∧ fn.name ≠ "runtime.NumGoroutine"
 orc:dq ρ C.orc
 fns:∀ f p,(bif Nat.beq (Key.eH 12 f).toNat f then aa (Key.eH 12 f) C.fns else none)=some p→iH P f=some p
 mix:P.follows .mixedOrders=true
section
variable{P:Program}{ρ:Nat→Int}{orc:hU}{nt:Nat}{w0:W0}{w:World}{μ:Mu}{G:Key→Option ag}{H:T ag}{nx:Key}
theorem amH{id:Nat}{k:List cJ}{K:List Item}(h:lJ P μ nt k K) :
  (∀ k',kQ id k=some k'→∃ K',exitTo id K=some K'∧lJ P μ nt k' K')∧(kQ id k=none→exitTo id K=none):=by
 induction h with
 |nil=>exact⟨fun k' e=>(by cases e),fun _=>rfl⟩
 |cons a x l k h h' ih=>
  cases h with
  |inBlock id'=>
   simp only[kQ,exitTo,beqN_eq]
   by_cases e:id'=id
   ·subst e
    simp only[decide_true,cond_true,beq_self_eq_true,if_true]
    exact⟨fun k' e=>(by cases e;exact⟨_,rfl,h'⟩),fun e=>(by cases e)⟩
   ·have:(id'==id)=false:=by simpa using e
    simp only[e,decide_false,cond_false,this,Ps,if_false]
    exact ih
  |code pc c h=>exact ih
  |inLoop pc c h=>exact ih
  |ops l ops rest h=>exact ih
  |inRF k l r h hr=>exact ih
  |endRF k l r h hr=>exact ih
  |beginRound=>exact ih
  |scope c=>exact ih
noncomputable def fV:List AV→Key→T AV→T AV
 | [],_,tm=>tm
 |v ::l,k,tm=>fV l k.succ (au k (some v) tm)
theorem zq{R:Type}:∀ (l:List AV) (k:Key) (tm:T AV) (c:T AV→R),Ss l k tm c=c (fV l k tm)
 | [],_,_,_=>rfl
 |v ::l,k,tm,c=>by
  show sY k (some v) tm (fun tm=>Ss l k.succ tm c)=_
  rw[sTCe,zq l];rfl
theorem Ks:∀ (l:List AV) (k:Key) (tm:T AV) (q:Key) (a:AV),aa q (fV l k tm)=some a→(k.toNat≤q.toNat∧l[q.toNat-k.toNat]?=some a)∨aa q tm=some a
 | [],_,_,_,_,h=>.inr h
 |v ::l,k,tm,q,a,h=>by
  have hs:=kTSu k
  rcases Ks l k.succ _ q a h with⟨h1,h2⟩|h1
  ·refine .inl ⟨by omega,?_⟩
   have:q.toNat-k.toNat=(q.toNat-k.succ.toNat)+1:=by omega
   rw[this];simpa using h2
  ·by_cases e:q=k
   ·subst e;rw[gTSm] at h1;cases h1;exact .inl ⟨fh _,by simp⟩
   ·rw[bG _ _ _ _ e] at h1;exact .inr h1
theorem amI{args:Array Value}{l:List AV}(h:an ρ μ l args.toList):jQ ρ μ nt (fV l .z .nil) (args++Array.replicate (nt-args.size) undef):=by
 refine⟨by simp;omega,fun q a hq=>?_⟩
 rcases Ks l .z .nil q a hq with⟨_,h2⟩|h2
 ·have h2:l[q.toNat]?=some a:=by simpa[Key.toNat] using h2
  obtain⟨v,hv,hr⟩:=h.get _ _ h2
  refine⟨v,?_,hr⟩
  have bO:q.toNat<args.size:=by
   rcases Dr q.toNat args.size with h'|h'
   ·exact h'
   ·rw[zqo (by simpa using h')] at hv;cases hv
  rw[Array.getElem?_append_left bO]
  simpa using hv
 ·simp at h2
theorem xF {f : Nat} {p : fK} (h : iH P f = some p) : ∃ fn c, P.funcs[f]? = some fn ∧ fn.body = some c ∧ fn.name ≠ "runtime.NumGoroutine" ∧ fZ P fn.ntmps c = some p.body ∧ Pn P fn.ntmps fn.results.toList = some p.res := by
 unfold iH at h
 split at h
 ·cases h
 ·rename_i fn hfn
  split at h
  ·cases h
  ·rename_i c hc
   cases hn : (fn.name == "runtime.NumGoroutine") with
   |true=>rw[hn] at h;cases h
   |false=>
    rw[hn] at h
    simp only[cond_false] at h
    split at h
    ·rename_i b r hb hr
     cases h
     exact⟨fn,c,hfn,hc,by simpa using hn,hb,hr⟩
    ·cases h
theorem tY{f:Nat}{p:fK}(hp:iH P f=some p){l:List AV}{args:Array Value}(hl:an ρ μ l args.toList)(BX:Bool) :
  Cur P ρ orc μ G H nx {fn:=f,tm:=fV l .z .nil,todo:=[.code p.body],dfs:=[],mode:=.run,BX,qZ:=none,res:=p.res} (Frame.enter P f args (if BX then .deferred else .normal)):=by
 obtain⟨fn,c,h1,h2,h3,h4,h5⟩:=xF hp
 refine .run fn.ntmps ⟨rfl,⟨fn,h1,rfl,h5⟩,trivial,rfl,trivial,fun h=>absurd rfl h⟩ rfl rfl ?_
 simp only[Frame.enter,h1,Option.map_some,Option.getD_some,Option.bind_some,h2]
 exact .plain _ _ _ _ (.cons _ _ _ _ (.code _ _ h4) .nil) (amI hl)
theorem jQ.set{tm:T AV}{tmps:Array Value}(h:jQ ρ μ nt tm tmps){k:Key}(bO:k.toNat<nt){a:AV}{v:Value}(hv:aD ρ μ a v):jQ ρ μ nt (au k (some a) tm) (tmps.setIfInBounds k.toNat v):=by
 refine⟨by simp;exact h.1,fun q b hb=>?_⟩
 by_cases hq:q=k
 ·subst hq
  rw[gTSm] at hb;cases hb
  have:q.toNat<tmps.size:=JJ bO h.1
  exact⟨v,by simp[this],hv⟩
 ·rw[bG _ _ _ _ hq] at hb
  obtain⟨u,hu,hr⟩:=h.2 q b hb
  refine⟨u,?_,hr⟩
  rw[zqn]
  ·exact hu
  ·intro e;exact hq (Key.toNat_inj e.symm)
noncomputable def avP:List Key→List AV→T AV→T AV
 |k ::l,v ::m,tm=>avP l m (au k (some v) tm)
 |_,_,tm=>tm
theorem QS{R:Type}:∀ (ks:List Key) (vs:List AV) (tm:T AV) (bad:R) (c:T AV→R),Su ks vs tm bad c=bad∨(ks.length=vs.length∧Su ks vs tm bad c=c (avP ks vs tm))
 | [],[],tm,bad,c=>.inr ⟨rfl,rfl⟩
 | [],_ ::_,tm,bad,c=>.inl rfl
 |_ ::_,[],tm,bad,c=>.inl rfl
 |k ::l,v ::m,tm,bad,c=>by
  have e:Su (k ::l) (v ::m) tm bad c=Su l m (au k (some v) tm) bad c:=by
   show sY k (some v) tm (fun tm=>Su l m tm bad c)=_
   rw[sTCe]
  rw[e]
  rcases QS l m (au k (some v) tm) bad c with h|⟨h1,h2⟩
  ·exact .inl h
  ·exact .inr ⟨by simp[h1],h2⟩
theorem UI:∀ {ks:List Key} {vs:List AV} {us:List Value} {tm:T AV} {tmps:Array Value},(∀ k∈ks,k.toNat<nt)→ks.length=vs.length→an ρ μ vs us→jQ ρ μ nt tm tmps→
  jQ ρ μ nt (avP ks vs tm) (((ks.map Key.toNat).zip us).foldl (fun tmps (x:Nat×Value)=>tmps.setIfInBounds x.1 x.2) tmps)
 | [],[],_,_,_,_,_,.nil,h=>h
 | [],_ ::_,_,_,_,_,hl,_,_=>by cases hl
 |_ ::_,[],_,_,_,_,hl,_,_=>by cases hl
 |k ::ks,v ::vs,_,tm,tmps,hk,hl,.cons _ _ u us h h',ht=>by
  exact UI (ks:=ks) (vs:=vs) (fun q hq=>hk q (by simp[hq])) (by simpa using hl) h' (ht.set (hk k (by simp)) h)
noncomputable def jb:List Key→T AV→T AV
 | [],tm=>tm
 |k ::l,tm=>jb l (au k none tm)
theorem mT{R:Type}:∀ (l:List Key) (tm:T AV) (c:T AV→R),Fe l tm c=c (jb l tm)
 | [],_,_=>rfl
 |k ::l,tm,c=>by
  show sY k none tm (fun tm=>Fe l tm c)=_
  rw[sTCe,mT l];rfl
theorem Oz:∀ (l:List Key) (tm:T AV) (q:Key) (a:AV),aa q (jb l tm)=some a→(∀ k∈l,k≠q)∧aa q tm=some a
 | [],_,_,_,h=>⟨fun _ h=>(by cases h),h⟩
 |k ::l,tm,q,a,h=>by
  obtain⟨h1,h2⟩:=Oz l _ q a h
  have bU:k≠q:=by
   intro e;subst e;rw[gTSm] at h2;cases h2
  rw[bG _ _ _ _ (fun e=>bU e.symm)] at h2
  refine⟨fun x hx=>?_,h2⟩
  rcases Ga.1 hx with e|e
  ·rw[e];exact bU
  ·exact h1 x e
theorem fO.erase{ops:Array Oper}{pl:List J}{bf:List Nat}{g:Gh}{Aq:Nat→Prop}{ak:List (Nat×Key×ag)}{tm:T AV}{tmps:Array Value}{rest:List Nat}(S:fO P ρ orc nt ops pl bf μ G H nx g Aq ak tm tmps rest){ic:List Key}(hd:Iu ops ic) :
  jQ ρ μ nt (jb ic tm) tmps:=by
 refine⟨S.sz,fun q a hq=>?_⟩
 obtain⟨h1,h2⟩:=Oz _ _ _ _ hq
 have iI:∀ j,lQ ops j≠some q.toNat:=by
  intro j hj
  obtain⟨k,hk,e⟩:=hd j _ hj
  exact h1 k hk (Key.toNat_inj e)
 rw[S.a2 q fun j _=>iI j] at h2
 exact S.c2 q a (fun j _=>iI j) h2
theorem Gt.finish{k:List cJ}{tm:T AV}{K:List Item}{tmps:Array Value}(h:Gt P ρ orc μ G H nx nt k tm K tmps){af af':jP}(hk:af.todo=k)(ht:af.tm=tm){fr:Frame}(hK:fr.todo=K)(hT:fr.tmps=tmps){a:AV}{v:Value}(hv:aD ρ μ a v)
  (hf:bD a af=some af'):UJ P ρ orc μ G H nx nt af'.todo af'.tm (fr.finish v).todo (fr.finish v).tmps∧pk af'=pk af∧(∃ ay k2,af'={af with tm:=ay,todo:=k2})∧(∃ tmps2 K2,fr.finish v={fr with tmps:=tmps2,todo:=K2}):=by
 cases h with
 |ops o l ops i rest k K tm tmps hp h ht'=>
  subst ht hT
  simp only[bD,hk,dw,cT] at hf
  subst hf
  have S7:=hp
  simp only[lP] at hp
  split at hp
  ·cases hp
  ·rename_i oo Jq
   split at hp
   ·rename_i Pm l' h1 h2
    simp only[cT,List.cons.injEq] at hp
    obtain⟨rfl,rfl⟩:=hp
    obtain⟨kb,Sa,zt⟩:=gU h1
    rw[cB hK Jq]
    exact⟨.plain _ _ _ _ (.cons _ _ _ _ (.ops _ _ _ h2) h) (ht'.put zt hv),by simp[pk,hk],⟨_,_,rfl⟩,⟨_,_,rfl⟩⟩
   ·cases hp
 |staged ops pl bf g i po ad os sZ items ic ak k K tm tmps rest rK hf' hc hL QO hd h Uu Fb S=>
  subst ht hT
  simp only[bD,hk,dw,cT] at hf
  subst hf
  obtain⟨hi,hDi,uq⟩:=S.ready
  obtain⟨o,Pm,Jq,R9,DU⟩:=S.LZ.at hi
  rw[rK] at DU;cases DU
  rw[cB hK Jq]
  have S4:=S.azj rK hL QO Jq hv
  refine⟨.back ops pl bf _ os sZ items ic ak k K _ _ rest hf' hc hd h Uu ?_ S4,by simp[pk,hk],⟨_,_,rfl⟩,⟨_,_,rfl⟩⟩
  intro j hj hDj hrj
  have hDj:(g.D j||j==i)=false:=hDj
  rw[Bool.or_eq_false_iff] at hDj
  have bU:j≠i:=by simpa using hDj.2
  have hj:hasB (Gl g.L i) j=true:=hj
  rw[Gx,Bool.or_eq_true,decide_eq_true_eq] at hj
  have hjL:=hj.resolve_right (fun e=>bU e.symm)
  rcases Fb j hjL hrj with h|h
  ·have:=uq j (S.FB j hjL) h
   rw[hDj.1] at this;cases this
  ·exact h
 |rf key l k K tm tmps aB2 h ht'=>
  subst ht hT
  simp only[bD,hk,cT] at hf
  subst hf
  have e:fr.finish v={fr with todo:=.endRangeFunc l.c ::K}:=by simp[Frame.finish,hK]
  rw[e]
  exact⟨.plain _ _ _ _ (.cons _ _ _ _ (.endRF _ _ _ aB2 rfl) h) ht',by simp[pk,hk],⟨_,_,rfl⟩,⟨_,_,rfl⟩⟩
def ars(tmps:Array Value):ResultVar→Sem Value
 |.tmp t=>pure (tmps.getD t undef)
 |.cell a t=>do loadVar t (← asAddr (tmps.getD a undef))
theorem Aa(hM:aP P ρ w0 μ G nx.toNat w)(hH:HSub H G){tm:T AV}{tmps:Array Value}(hT:jQ ρ μ nt tm tmps):∀ {rs:List ResultVar} {res:List RV} {l:List AV},Pn P nt rs=some res→resultsA H tm res=some l→
  ∃ vs,(rs.mapM (ars tmps)).run P w=.ok vs w∧an ρ μ l vs
 | [],res,l,hp,hr=>by
  simp only[Pn,cT] at hp;subst hp
  simp only[resultsA,cT] at hr;subst hr
  exact⟨[],by simp[ra],.nil⟩
 |.tmp t ::rs,res,l,hp,hr=>by
  simp only[Pn] at hp
  split at hp
  ·rename_i k r hk hrs
   cases hp
   simp only[resultsA] at hr
   split at hr
   ·rename_i a l' ha Vl
    cases hr
    obtain⟨vs,h1,h2⟩:=Aa hM hH hT hrs Vl
    obtain⟨v,hv,hvr⟩:=hT.2 _ _ ha
    rw[(mO hk).1] at hv
    refine⟨v ::vs,?_,.cons _ _ _ _ hvr h2⟩
    have hg:tmps.getD t undef=v:=by simp[Array.getD_eq_getD_getElem?,hv]
    rw[List.mapM_cons]
    simp only[ars,mA,ra,jH,hg,h1]
   ·cases hr
  ·cases hp
 |.cell a t ::rs,res,l,hp,hr=>by
  simp only[Pn] at hp
  split at hp
  ·rename_i k i r hk hi hrs
   cases hp
   simp only[resultsA] at hr
   split at hr
   ·rename_i b off l' ha Vl
    split at hr
    ·rename_i x hx
     cases hr
     obtain⟨vs,h1,h2⟩:=Aa hM hH hT hrs Vl
     obtain⟨v,hv,hvr⟩:=hT.2 _ _ ha
     rw[(mO hk).1] at hv
     have hg:tmps.getD a undef=v:=by simp[Array.getD_eq_getD_getElem?,hv]
     cases hvr with|ptr _ _ lc ad iP lU=>
     subst lU
     simp only[loadB] at hx
     split at hx
     ·rename_i L ck hL
      obtain⟨ii,d,z,e1,e2,e3,e4,e5,e6⟩:=jr hi
      rw[e5,e6] at hx
      obtain⟨u,hu,hur⟩:=D5 hM (hH _ _ hL) e1 e2 hx iP
      refine⟨u ::vs,?_,.cons _ _ _ _ hur h2⟩
      rw[List.mapM_cons]
      simp only[ars,mA,ra,jH,hg,asAddr,hu,h1]
     ·cases hx
    ·cases hr
   ·cases hr
  ·cases hp
def HD(vs:List Value):Value:=if h:vs.toArray.size=1 then vs.toArray[0] else .tuple vs.toArray
theorem akD{l:List AV}{vs:List Value}(h:an ρ μ l vs):aD ρ μ (lT l) (HD vs):=by
 cases h with
 |nil=>exact .tuple _ _ .nil
 |cons a l v vs h h'=>
  cases h' with
  |nil=>exact h
  |cons b l v2 vs h5 h6=>
   have:HD (v ::v2 ::vs)=.tuple (v ::v2 ::vs).toArray:=by simp[HD]
   rw[this]
   exact .tuple _ _ (.cons _ _ _ _ h (.cons _ _ _ _ h5 h6))
theorem PW(hM:aP P ρ w0 μ G nx.toNat w)(hH:HSub H G){tm:T AV}{tmps:Array Value}(hT:jQ ρ μ nt tm tmps){fn:Func}{res:List RV}{l:List AV}(hp:Pn P nt fn.results.toList=some res)(hr:resultsA H tm res=some l) :
  ∃ vs,(results fn tmps).run P w=.ok (HD vs) w∧an ρ μ l vs:=by
 obtain⟨vs,h1,h2⟩:=Aa hM hH hT hp hr
 have aLR:results fn tmps=(do
   let vs ← fn.results.mapM (ars tmps)
   pure (if h:vs.size=1 then vs[0] else .tuple vs)):=by
  unfold results
  congr 1
 refine⟨vs,?_,h2⟩
 have hm:fn.results.mapM (ars tmps)=Functor.map List.toArray (fn.results.toList.mapM (ars tmps)):=by
  rw[← List.mapM_toArray]
 rw[aLR,hm]
 simp only[map_eq_pure_bind,bind_assoc,pure_bind,mA,h1,jH,ra]
 rfl
end
end Go.Sx
/-
 SX: the next entry of a range over a map. No condition.
-/
namespace Go.Sx
open Go.RowKit
section
variable{P:Program}{ρ:Nat→Int}{w0:W0}{w:World}{μ:Mu}{G:Key→Option ag}{nx:Key}{orc:hU}{nt:Nat}{tm:T AV}{H:T ag}{ev:Operand→Value}
theorem am4(i:Nat):∀ (l:List Nat),avQ i l=l.contains i
 | []=>rfl
 |j ::l=>by
  simp only[avQ,beqN_eq,am4 i l,List.contains_cons]
  by_cases h:i=j
  ·subst h;simp
  ·have:(i==j)=false:=by simpa using h
   simp[h,this]
theorem Mg{seen:List Nat}:∀ {L:List (Nat×AV×AV)} {es:List MapEntry},gV ρ μ L es→gV ρ μ (Gw seen L) (es.filter fun e=>!seen.contains e.born)
 | [],[],_=>trivial
 |(s,k,a) ::l,e ::es,h=>by
  obtain⟨h0,h1,h2,h3⟩:=h
  subst h0
  simp only[Gw,am4,List.filter_cons]
  cases hc:seen.contains e.born with
  |true=>simp only[cond_true,Bool.not_true,Ps,if_false];exact Mg h3
  |false=>simp only[cond_false,Bool.not_false,if_true];exact⟨rfl,h1,h2,Mg h3⟩
 | [],_ ::_,h=>h.elim
 |(_,_,_) ::_,[],h=>h.elim
theorem Mh{n:Nat}:∀ {L:List (Nat×AV×AV)} {es:List MapEntry},gV ρ μ L es→Iv n L=true→∀ e∈es,e.born<n
 | [],[],_,_,e,he=>by cases he
 |(s,k,a) ::l,e ::es,h,hu,x,hx=>by
  obtain⟨h0,h1,h2,h3⟩:=h
  simp only[Iv,jj,bltN_eq,decide_eq_true_eq] at hu
  rcases Ga.1 hx with rfl|hx
  ·omega
  ·exact Mh h3 hu.2 x hx
 | [],_ ::_,h,_,_,_=>h.elim
 |(_,_,_) ::_,[],h,_,_,_=>h.elim
theorem gV.get:∀ {L:List (Nat×AV×AV)} {es:List MapEntry} {t:Nat} {e:MapEntry},gV ρ μ L es→es[t]?=some e→∃ s k a,(s,k,a)∈L∧e.born=s∧aD ρ μ k e.key∧aD ρ μ a e.val
 | [],[],t,e,_,h=>by simp at h
 |(s,k,a) ::l,x ::es,t,e,hp,h=>by
  obtain⟨h0,h1,h2,h3⟩:=hp
  cases t with
  |zero=>simp at h;subst h;exact⟨s,k,a,by simp,h0,h1,h2⟩
  |succ t=>
   obtain⟨s',k',a',q,r⟩:=gV.get h3 (t:=t) (by simpa using h)
   exact⟨s',k',a',by simp[q],r⟩
 | [],_ ::_,_,_,h,_=>h.elim
 |(_,_,_) ::_,[],_,_,h,_=>h.elim
theorem QU{b m:Key}{n:Nat}{seen:List Nat}{s:Nat}{k v:AV}:∀ {L:List (Nat×AV×AV)},(s,k,v)∈L→(AV.tuple [.bool true,k,v],au b (some (.iter m n (seen ++ [s]))) H)∈UL b m n seen H L
 | [],h=>by cases h
 |(s',k',v') ::l,h=>by
  simp only[UL,sTCe]
  rcases Ga.1 h with e|h
  ·cases e;simp
  ·exact List.mem_cons_of_mem _ (QU h)
theorem UM(ty:TypeId){r bm n:Nat}{seen:Array Nat}{es:Array MapEntry}(hi:w.heap[r]?=some (.mapIter (some bm) n seen n))(hb:w.heap[bm]?=some (.map es n))(hold:∀ x∈es.toList,x.born<n) :
  ((leftOf es seen).size=0∧(Instr.next (.pointer (some ⟨r,0,none⟩)) false ty).run P w=.ok (.tuple #[.bool false]) w)∨
  ∃ e∈(leftOf es seen).toList,∃ d:Nat,w.drawn≤d∧(Instr.next (.pointer (some ⟨r,0,none⟩)) false ty).run P w=.ok (.tuple #[.bool true,e.key,e.val]) {w with drawn:=d,heap:=w.heap.setIfInBounds r (.mapIter (some bm) n (seen.push e.born) n)}:=by
 simp only[Instr.next,getObj,mA,Sem.run,hi,hb,Result.andThen,next_test_false seen es n n hold (fh _),Ps,if_false]
 unfold leftOf
 have ej:∀ x∈(Array.filter (fun e=>!seen.contains e.born) es).toList,x.born<n:=fun x hx=>hold x (by simp at hx ⊢;exact hx.1)
 generalize Array.filter (fun e=>!seen.contains e.born) es=L at ej ⊢
 have e1:L.filter (fun x=>decide (x.born<n))=L:=Array.filter_eq_self.2 (fun x hx=>by simpa using ej x (by simpa using hx))
 have e2:L.filter (fun x=>decide (x.born≥n))=#[]:=by
  rw[Array.filter_eq_empty_iff]
  intro x hx
  have:=ej x (by simpa using hx)
  simp
  omega
 simp only[e1,e2,Array.append_empty]
 by_cases h0:L.size=0
 ·left
  have:L=#[]:=Array.eq_empty_of_size_eq_zero h0
  subst this
  refine⟨rfl,?_⟩
  simp[choose,Sem.run,Question.forced]
 ·right
  have bU:L.isEmpty=false:=by simp[Array.isEmpty,h0]
  simp only[bU,Ps,if_false,Array.empty_append,Array.size_map]
  have hch:∃ (j d:Nat),j<L.size∧w.drawn≤d∧(choose (Question.mapNext L.size)).run P w=.ok j {w with drawn:=d}:=by
   by_cases hf:L.size≤1
   ·exact⟨0,w.drawn,by omega,fh _,by simp[choose,Sem.run,Question.forced,hf]⟩
   ·exact⟨_,w.drawn+1,Nat.mod_lt _ (by omega),Nat.le_succ _,by
     simp only[choose,Sem.run,Question.forced,decide_eq_true_eq,hf,if_false,Question.cut]
     rfl⟩
  obtain⟨j,d,hj,hd,dP⟩:=hch
  refine⟨L[j],by simp,d,hd,?_⟩
  simp only[dP,Result.andThen]
  have nv:(L.map some)[j]?=some (some L[j]):=by simp[hj]
  simp only[nv]
  simp[setObj,Sem.run,hi,Result.andThen]
theorem aqj(hM:aP P ρ w0 μ G nx.toNat w)(hH:HSub H G){o:Oper}{op:F9}(hp:gP P nt o=some op)(hE:tM P ρ μ nt o.op.operands.toList tm ev){alts:List (AV×T ag)}(h:aOp orc op tm H nx=.alt alts) :
  ∃ a H' v w' μ' G',(a,H')∈alts∧(Go.execOp ev o).run P w=.ok (.value v) w'∧aD ρ μ' a v∧μ.le μ'∧aP P ρ w0 μ' G' nx.toNat w'∧HSub H' G'∧Kept H H' nx nx μ μ' G G':=by
 have he:=Dq h (by rintro(⟨_,_,_,e⟩|⟨_,e⟩)<;>cases e)
 obtain⟨dst,tZ,ty,pos,after,guard⟩:=o
 cases op<;>first|(cases he;done)|skip
 ·rename_i px
  obtain⟨x,e0,hx⟩:=eN hp
  simp only at e0
  subst e0
  simp only[aOp] at h
  split at h
  ·rename_i b hb
   split at h
   ·rename_i m n seen hit
    split at h
    ·rename_i L c dL
     cases mB:(Nat.beq c n&&Iv n L) with
     |false=>rw[mB] at h;cases h
     |true=>
      rw[mB] at h
      simp only[cond_true] at h
      simp only[jj] at mB
      obtain⟨hcn,hun⟩:=mB
      have hcn:=mU hcn
      subst hcn
      have hv:=hE x (by simp[Op.operands]) px _ hx hb
      generalize iL:ev x=xx at hv
      cases hv with|ptr _ _ l a iP ha=>
      subst ha
      have hg:=hH _ _ hit
      obtain⟨l',o',h1,h2,h3⟩:=hM.oR b _ hg
      rw[iP] at h1;cases h1
      cases h3 with|iter _ _ _ _ lm sa Pg hsa hzero=>
      obtain⟨B,l2,es,hB,k1,k2,dM,aMK,aQB⟩:=zu hM hH dL
      rw[Pg] at k1;cases k1
      subst hsa
      have ayq:(⟨l.c,l.base+0,none⟩:Addr)=⟨l.c,l.base,none⟩:=rfl
      have oU:w0.heap.size≤l.c:=(hM.own b _ l hg iP).resolve_left (by simp[ag.ro])
      have Im:l.c<w.heap.size:=hM.wR b l iP
      have hex:∀ v w',(Instr.next (ev x) false ty).run P w=.ok v w'→(Go.execOp ev ⟨dst,.next x false,ty,pos,after,guard⟩).run P w=.ok (.value v) w':=fun v w' hr=>cS hr
      have UN:=Mg (seen:=sa.toList) dM
      have ta:(leftOf es sa).toList=es.toList.filter fun e=>!sa.toList.contains e.born:=by
       simp[leftOf]
      rw[← ta] at UN
      rcases UM (P:=P) (w:=w) ty h2 k2 (Mh dM hun) with⟨hz,hr⟩|⟨e,ej,d,hd,hr⟩
      ·have aHU:Gw sa.toList L=[]:=by
        have h0:(leftOf es sa).toList=[]:=by simpa using hz
        rw[h0] at UN
        cases hl:Gw sa.toList L with
        |nil=>rfl
        |cons y r=>rw[hl] at UN;obtain⟨_,_,_⟩:=y;exact UN.elim
       rw[aHU] at h
       simp only[OR.alt.injEq] at h
       subst h
       refine⟨.tuple [.bool false],H,.tuple #[.bool false],w,μ,G,by simp,hex _ _ (by rw[iL,hzero];exact hr),.tuple _ _ (.one (.bool _)),μ.le_refl,hM,hH,Kept.refl _ _ _ _⟩
      ·obtain⟨t,ht⟩:=List.getElem?_of_mem ej
       obtain⟨s,k,a,q1,q2,q3,q4⟩:=UN.get ht
       have hal:alts=UL b m c sa.toList H (Gw sa.toList L):=by
        cases hl:Gw sa.toList L with
        |nil=>rw[hl] at q1;cases q1
        |cons y r=>rw[hl] at h;simp only[OR.alt.injEq] at h;exact h.symm
       have hMd:=hM.drawn d hd
       have DF:μ.le (μ.put b l):=Mu.uw (.inr iP)
       obtain⟨g1,g2⟩:=hMd.put (w':={w with drawn:=d,heap:=w.heap.setIfInBounds l.c (.mapIter (some lm.c) c (sa.push e.born) c)}) b (.iter m c (sa.toList ++ [s])) l (.mapIter (some lm.c) c (sa.push e.born) c) (.inr iP)
        ⟨rfl,rfl,rfl,by simp,fun j hj _=>by show(w.heap.setIfInBounds l.c _)[j]?=_;rw[zqn (Ne.symm hj)],fh _⟩
        (by show(w.heap.setIfInBounds l.c _)[l.c]?=_;simp[Im]) (.iter m c _ l lm _ (DF.l _ _ Pg) (by simp[q2]) hzero) (fun b' B' l' g m' ne=>hM.sep b' b B' _ l' l g hg m' iP ne) oU (fh _) (hM.new b l iP) (hM.lo0 hg iP rfl)
       refine⟨.tuple [.bool true,k,a],au b (some (.iter m c (sa.toList ++ [s]))) H,.tuple #[.bool true,e.key,e.val],_,_,_,by rw[hal];exact QU q1,hex _ _ (by rw[iL,hzero];exact hr),.tuple _ _ (.cons _ _ _ _ (.bool _) (.cons _ _ _ _ (q3.mono DF) (.one (q4.mono DF)))),g1,g2,hH.set b _,mV hit iP _ _⟩
    ·cases h
   ·cases h
  ·cases h
 all_goals (simp only[aOp] at h;repeat' (first|(cases h;done)|split at h))
end
end Go.Sx
/-
 SX: simulation: events, regions. No condition.
-/
namespace Go.Sx
open Go.RowKit
def Good(P:Program)(ρ:Nat→Int)(C:cD)(w0:W0)(μ0:Mu)(rest:List Frame)(m:Machine):SR→Prop
 |.next am'=>∃ eY zk w',Steps P m (lone eY (zk++rest) w')∧zo P ρ C.orc w0 μ0 am' eY zk w'
 |.alt l=>∃ am'∈l,∃ eY zk w',Steps P m (lone eY (zk++rest) w')∧zo P ρ C.orc w0 μ0 am' eY zk w'
 |.done f v h nx=>∃ eY w' μ G u,Steps P m (lone eY rest w')∧eY.fn=f∧eY.leaving P w' (.returned u)∧aD ρ μ v u∧μ0.le μ∧aP P ρ w0 μ G nx.toNat w'∧HSub h G
 |_=>True
section
variable{P:Program}{ρ:Nat→Int}{C:cD}{nt:Nat}{w0:W0}{w:World}{μ0 μ:Mu}{G:Key→Option ag}{H:T ag}{nx:Key}{rest cs:List Frame}{fr:Frame}{af:jP}{iJ:List jP}{K:List Item}{k:List cJ}
theorem Good.steps{m m':Machine}{r:SR}(h:Steps P m m')(g:Good P ρ C w0 μ0 rest m' r):Good P ρ C w0 μ0 rest m r:=by
 cases r with
 |next am'=>obtain⟨eY,zk,w',h1,h2⟩:=g;exact⟨eY,zk,w',h.trans h1,h2⟩
 |done f v hh nx=>obtain⟨eY,w',μ,G,u,h1,h2⟩:=g;exact⟨eY,w',μ,G,u,h.trans h1,h2⟩
 |alt l=>obtain⟨am',hm,eY,zk,w',h1,h2⟩:=g;exact⟨am',hm,eY,zk,w',h.trans h1,h2⟩
 |pan v hh nx=>trivial
 |bad n m=>trivial
theorem UE{fr eY:jP}{cs:List jP}{nx:Key}{v:AV}{h:T ag}(hf:bD v fr=some eY):∀ {l:List (AV×T ag)},(v,h)∈l→(⟨eY,cs,h,nx⟩:AM)∈ajZ fr cs nx l
 | [],hm=>by cases hm
 |(v',h') ::l,hm=>by
  simp only[ajZ]
  rcases Ga.1 hm with e|hm
  ·cases e;rw[hf];simp
  ·exact List.mem_cons_of_mem _ (UE hf hm)
theorem UF{fr eY:jP}{v:AV}(hf:bD v fr=some eY)(u:AV):∃ Gb,bD u fr=some Gb:=by
 unfold bD at hf ⊢
 split at hf
 ·exact⟨_,by simp only[dw];rfl⟩
 ·exact⟨_,by simp only[dw];rfl⟩
 ·exact⟨_,rfl⟩
 ·cases hf
theorem xE.todo(h:xE P ρ μ nt af fr)(t:T AV)(k:List cJ)(T:Array Value)(K:List Item):xE P ρ μ nt {af with tm:=t,todo:=k} {fr with tmps:=T,todo:=K}:=
 ⟨h.fn,h.fnr,h.dfs,h.kind,h.qZ,h.rd⟩
theorem ar0{af:jP}(h:lJ P μ nt af.todo K):pk af=[]:=by
 unfold pk
 split
 ·rename_i i d p k' e
  rw[e] at h
  cases h with|cons _ _ _ _ h _=>cases h
 ·rfl
theorem ayl:∀ {iJ:List jP} {cs:List Frame},cX P ρ C.orc μ G H nx iJ cs→∀ x∈br iJ,x<nx.toNat
 | [],[],_,x,hx=>by cases hx
 | [],_ ::_,h,_,_=>h.elim
 |_ ::_,[],h,_,_=>h.elim
 |a ::iJ,f ::cs,h,x,hx=>by
  simp only[br,List.mem_append] at hx
  rcases hx with hx|hx
  ·cases h.1 with
   |wait nt hb h1 h2 h=>
    unfold pk at hx
    split at hx
    ·rename_i i d p k' e
     rw[e] at h
     generalize f.todo=KK at h
     generalize f.tmps=TT at h
     generalize a.tm=tt at h
     cases h with
     |staged ops pl bf g i po ad os sZ items ic ak k K tm tmps rest rK hf hc hL QO hd h Uu Fb S=>
      obtain⟨y,hy,e⟩:=Fa.1 hx
      rw[← e]
      exact(S.pe y hy).2.2.2.2
    ·cases hx
   |unw h hm=>
    cases h with
    |run nt hb h1=>exact absurd h1 hm
    |ret nt hb h1 h2 h3 h=>
     unfold pk at hx
     rcases h3 with h3|⟨k,h3⟩<;>rw[h3] at hx<;>cases hx
    |pan nt hb v u r h1 h2 hv h3 h=>
     unfold pk at hx
     rw[h3] at hx;cases hx
  ·exact ayl h.2 x hx
theorem cX.kept{μ':Mu}{G':Key→Option ag}{H':T ag}{nx':Key}(hm:μ.le μ')(hk:Kept H H' nx nx' μ μ' G G')(h:cX P ρ C.orc μ G H nx iJ cs):cX P ρ C.orc μ' G' H' nx' iJ cs:=
 h.ew hm hk.n fun b _ hg hl=>⟨hk.m b hl,hk.g b hg hl,hk.h b hg hl⟩
theorem cX.aym{E:List Nat}{μ':Mu}{G':Key→Option ag}{H':T ag}{nx':Key}(hm:μ.le μ')(hk:Ag E H H' nx nx' μ μ' G G')(hE:∀ x∈E,x∉br iJ)(h:cX P ρ C.orc μ G H nx iJ cs):cX P ρ C.orc μ' G' H' nx' iJ cs:=
 h.ew hm hk.n fun b hb hg hl=>hk.k b (fun he=>hE _ he hb) hg hl
theorem pC(h0:μ0.le μ)(hM:aP P ρ w0 μ G nx.toNat w)(hH:HSub H G)(hb:xE P ρ μ nt af fr)(h1:af.mode=.run)(h2:fr.mode=.run)(hk:lJ P μ nt af.todo fr.todo)(hT:jQ ρ μ nt af.tm fr.tmps)
  (hS:cX P ρ C.orc μ G H nx iJ cs) (hn:(br iJ).Nodup):zo P ρ C.orc w0 μ0 ⟨af,iJ,H,nx⟩ fr cs w:=
 ⟨μ,G,h0,hM,hH,.run nt hb h1 h2 (.plain _ _ _ _ hk hT),hS,by simp[br,ar0 hk,hn]⟩
theorem Sus.finish{c c':jP}{cf:Frame}(h:Sus P ρ C.orc μ G H nx c cf){a:AV}{v:Value}(hv:aD ρ μ a v)(hf:bD a c=some c'):Cur P ρ C.orc μ G H nx c' (cf.finish v)∧pk c'=pk c:=by
 cases h with
 |wait nt hb h1 h2 h=>
  obtain⟨h3,h4,⟨ay,k2,h5⟩,⟨T2,K2,h6⟩⟩:=h.finish rfl rfl rfl rfl hv hf
  refine⟨?_,h4⟩
  rw[h6] at h3 ⊢
  subst h5
  exact .run nt (hb.todo _ _ _ _) h1 h2 h3
 |unw h hm=>
  cases h with
  |run nt hb h1=>exact absurd h1 hm
  |ret nt hb h1 h2 h3 h=>rcases h3 with h3|⟨k,h3⟩<;>simp[bD,h3] at hf
  |pan nt hb v u r h1 h2 hv h3 h=>simp[bD,h3] at hf
noncomputable def ct(raw:Bool)(l:List AV)(H:T ag):List AV×T ag:=bif raw then(l,H) else bY (aO 9999) l H
theorem ur{R:Type}(raw:Bool)(l:List AV)(H:T ag)(c:List AV→T ag→R):ar1 raw l H c=c (ct raw l H).1 (ct raw l H).2:=by
 cases raw
 ·show It (frz 9999) l H c=_
  rw[tL (BV 9999)];rfl
 ·rfl
theorem Gq(raw:Bool)(hM:aP P ρ w0 μ G nx.toNat w)(hH:HSub H G){l:List AV}{us:List Value}(h:an ρ μ l us):∃ μ' G',hN P ρ w0 w nx μ G H μ' G' (ct raw l H).2∧an ρ μ' (ct raw l H).1 us:=by
 cases raw
 ·exact mS (zp 9999) l us μ G H hM hH h
 ·exact⟨μ,G,hN.refl hM hH,h⟩
theorem BW(X:Ctx P ρ w0 C)(f:Nat)(args:List AV)(BX:Bool)(bad:SR)(c:jP→SR):BY C f args BX bad c=bad∨
  ∃ p,iH P f=some p∧BY C f args BX bad c=c {fn:=f,tm:=fV args .z .nil,todo:=[.code p.body],dfs:=[],mode:=.run,BX,qZ:=none,res:=p.res}:=by
 unfold BY
 split
 ·rename_i p hp
  exact .inr ⟨p,X.fns f p hp,by rw[zq]⟩
 ·exact .inl rfl
theorem aqg{l:Nat}{L:Loop}{args:Array Value}(h:w.heap[l]?=some (.loop L))(hs:args.size=L.params.size) :
  (Instr.yield l args).run P w=.ok (.round l L.fn ((L.params.zip args).foldl (fun tmps (x:Nat×Value)=>tmps.setIfInBounds x.1 x.2) L.tmps) L.assign L.body) w:=by
 simp[Instr.yield,Instr.getLoop,getObj,Sem.run,h,hs]
theorem Gs(hM:aP P ρ w0 μ G nx.toNat w){b:Key}{st:LS}{pd:Option aA}{fn:Nat}{tm:T AV}{res:List RV}{params:List Key}{as bd:aA}{dfs:Key}(hb:G b=some (.loop st pd fn tm res params as bd dfs)) :
  ∃ l L nt ld,μ b=some l∧w.heap[l.c]?=some (.loop L)∧amY st L.state∧(∀ n,QP P n pd L.pending)∧L.fn=fn∧jQ ρ μ nt tm L.tmps∧R7 params L.params.toList∧(∀ k∈params,k.toNat<nt)∧ar2 P nt as L.assign∧ar2 P nt bd L.body∧μ dfs=some ld∧L.defers=ld.c∧ar3 P fn nt res:=by
 obtain⟨l,o,h1,h2,h3⟩:=hM.oR b _ hb
 cases h3 with
 |loop st pd fn nt tm res params as bd dfs ld l L e1 e2 e3 e4 e5 e5' e6 e7 e8 e9 e10=>exact⟨l,L,nt,ld,h1,h2,e1,e2,e3,e4,e5,e5',e6,e7,e8,e9,e10⟩
theorem Mc(X:Ctx P ρ w0 C){ops:Array Oper}{i:Nat}{jY:List Nat}{o:Oper}{po:J}{r:OR}{ay:T AV}(h0:μ0.le μ)(hM:aP P ρ w0 μ G nx.toNat w)(hH:HSub H G)(hb:xE P ρ μ nt af fr)(h1:af.mode=.run)(hm:fr.mode=.run)
  (ht:fr.todo=.inRegion ops (i ::jY) ::K) (ho:ops[i]?=some o) (R9:JC P nt ops o=some po) (hw:Region.wanted o (yielded ops fr.tmps)=true)
  (hE:tM P ρ μ nt o.op.operands.toList af.tm fr.eval) (ha:aOp C.orc po.op af.tm H nx=r) (hr:¬ zr r)
  (hW:Gt P ρ C.orc μ G H nx nt af.todo af.tm fr.todo fr.tmps) (hS:cX P ρ C.orc μ G H nx iJ cs) (hn:(br (af ::iJ)).Nodup) (hT2:jQ ρ μ nt ay fr.tmps) :
  Good P ρ C w0 μ0 rest (lone fr (cs++rest) w) (gh C r af {af with tm:=ay,todo:=[]} iJ H nx):=by
 obtain⟨kb,Sa,zt⟩:=gU R9
 have aqh:Sus P ρ C.orc μ G H nx af fr:=.wait nt hb h1 hm hW
 have UG:(br iJ).Nodup:=(List.nodup_append.1 hn).2.1
 cases r with
 |val a H' nx'=>exact absurd (lR _ _ _) hr
 |bad n=>exact absurd (bV _) hr
 |call f l=>
  have QQ:fr.roundOf=none∨ek o.op=false:=.inr (tX kb (by rw[ha];intro f l e;cases e) (by rw[ha];intro n e;cases e))
  simp only[gh,ur]
  have key : ∀ {fn : Func}, P.funcs[f]? = some fn → fn.body.isSome = true → fn.name ≠ "runtime.NumGoroutine" → ∃ args μ1 G1, step P (lone fr (cs ++ rest) w) = .next (lone (Frame.enter P f args .normal) (fr :: cs ++ rest) w) ∧
    hN P ρ w0 w nx μ G H μ1 G1 (ct (C.raw f) l H).2∧an ρ μ1 (ct (C.raw f) l H).1 args.toList:=by
   intro fn f1 f2 f3
   obtain⟨args,q1,q2⟩:=aj1 (w:=w) kb hE ha f1 f2 f3
   obtain⟨μ1,G1,x1,x2⟩:=Gq (C.raw f) hM hH q2
   exact⟨args,μ1,G1,ar5 (P:=P) (cs:=cs++rest) hm ht ho hw QQ q1,x1,x2⟩
  generalize ct (C.raw f) l H=lh at key
  obtain⟨l1,H1⟩:=lh
  simp only at key ⊢
  split
  ·rename_i v H2 aH ar6
   split
   ·rename_i af' hf
    have hso:=X.sum f l1 H1 nx v H2 aH ar6
    obtain⟨fn,f1,f2,f3⟩:=X.has f l1 H1 nx _ ar6
    obtain⟨args,μ1,G1,dL,x1,x2⟩:=key f1 f2 f3
    obtain⟨e,w',eY,⟨u,μ',G',rfl,y2,y3,y4,y5,y6⟩,azA,hfn,azB⟩:=hso args w μ1 G1 x1.M x1.hs x2 (fr ::cs++rest)
    have hS1:cX P ρ C.orc μ1 G1 H1 nx (af ::iJ) (fr ::cs):=cX.kept x1.le x1.kept ⟨aqh,hS⟩
    have hS2:cX P ρ C.orc μ' G' H2 aH (af ::iJ) (fr ::cs):=cX.kept y3 y6 hS1
    obtain⟨Md,hpk⟩:=hS2.1.finish y2 hf
    refine⟨_,cs,w',Steps.trans (.head dL azA) (.one (step_leave_returned azB)),μ',G',Mu.le_trans h0 (Mu.le_trans x1.le y3),y4,y5,Md,hS2.2,?_⟩
    show(br (af' ::iJ)).Nodup
    simp only[br,hpk] at hn ⊢
    exact hn
   ·trivial
  ·rcases BW X f l1 false (.bad 40 ⟨af,iJ,H1,nx⟩) (fun eY=>.next ⟨eY,af ::iJ,H1,nx⟩) with e|⟨p,hp,e⟩
   ·rw[e];trivial
   ·rw[e]
    obtain⟨fn,c,f1,f2,f3,f4,f5⟩:=xF hp
    obtain⟨args,μ1,G1,dL,x1,x2⟩:=key f1 (by rw[f2];rfl) f3
    refine⟨_,fr ::cs,w,.one dL,μ1,G1,Mu.le_trans h0 x1.le,x1.M,x1.hs,tY hp x2 false,cX.kept x1.le x1.kept ⟨aqh,hS⟩,?_⟩
    show(br (_ ::af ::iJ)).Nodup
    simp only[br,pk,List.nil_append]
    exact hn
 |yld key l=>
  have QQ:fr.roundOf=none∨ek o.op=false:=.inr (tX kb (by rw[ha];intro f l e;cases e) (by rw[ha];intro n e;cases e))
  simp only[gh]
  split
  ·rename_i st pd fn tm res params as bd dfs hk
   rcases QS params l tm (SR.bad 41 ⟨af,iJ,H,nx⟩) (fun tm=>.next ⟨{fn,tm,todo:=[.code as,.beginRound,.code bd],dfs:=[],mode:=.run,BX:=false,qZ:=some key,res},af ::iJ,H,nx⟩) with e|⟨hlen,e⟩
   ·rw[e];trivial
   ·rw[e]
    obtain⟨args,lc,q1,q2,q3⟩:=aqi (w:=w) kb hE ha
    obtain⟨lc',L,ntl,ld,e0,UH,e1,e2,e3,e4,e5,e5',e6,e7,e8,e9,e10⟩:=Gs hM (hH _ _ hk)
    rw[q1] at e0;cases e0
    have uv:args.size=L.params.size:=by
     have a1:=q3.length
     have a2:(params.map Key.toNat).length=L.params.toList.length:=by rw[e5]
     simp at a1 a2
     omega
    rw[aqg UH uv] at q2
    have dL:=ar7 (P:=P) (cs:=cs++rest) hm ht ho hw QQ q2
    refine⟨_,fr ::cs,w,.one dL,μ,G,h0,hM,hH,?_,⟨aqh,hS⟩,?_⟩
    ·refine .run ntl ⟨e3,e10,trivial,rfl,⟨_,q1,rfl⟩,fun _=>rfl⟩ rfl rfl (.plain _ _ _ _ (.cons _ _ _ _ (.code _ _ e6) (.cons _ _ _ _ .beginRound (.cons _ _ _ _ (.code _ _ e7) .nil))) ?_)
     have:=UI (ks:=params) e5' hlen q3 e4
     have hl:(L.params.zip args).foldl (fun tmps (x:Nat×Value)=>tmps.setIfInBounds x.1 x.2) L.tmps=((params.map Key.toNat).zip args.toList).foldl (fun tmps (x:Nat×Value)=>tmps.setIfInBounds x.1 x.2) L.tmps:=by
      rw[e5,← Array.foldl_toList,Array.toList_zip]
     show jQ ρ μ ntl (avP params l tm) ((L.params.zip args).foldl (fun tmps (x:Nat×Value)=>tmps.setIfInBounds x.1 x.2) L.tmps)
     rw[hl];exact this
    ·show(br (_ ::af ::iJ)).Nodup
     simp only[br,pk,List.nil_append]
     exact hn
  ·trivial
 |alt la=>
  have QQ:fr.roundOf=none∨ek o.op=false:=.inr (tX kb (by rw[ha];intro f l e;cases e) (by rw[ha];intro n e;cases e))
  simp only[gh]
  split
  ·trivial
  ·rename_i fr0 hf0
   obtain⟨a,H',v,w',μ',G',ej,q1,q2,q3,q4,q5,q6⟩:=aqj (w:=w) hM hH kb hE ha
   obtain⟨fr1,hf1⟩:=UF hf0 a
   have dL:=Me (P:=P) (cs:=cs++rest) hm ht ho hw QQ q1
   have hS1:cX P ρ C.orc μ' G' H' nx (af ::iJ) (fr ::cs):=cX.kept q3 q6 ⟨aqh,hS⟩
   obtain⟨Md,hpk⟩:=hS1.1.finish q2 hf1
   refine⟨⟨fr1,iJ,H',nx⟩,UE hf1 ej,_,cs,w',.one dL,μ',G',Mu.le_trans h0 q3,q4,q5,Md,hS1.2,?_⟩
   show(br (fr1 ::iJ)).Nodup
   simp only[br,hpk] at hn ⊢
   exact hn
 |pan a=>
  have QQ:fr.roundOf=none∨ek o.op=false:=.inr (tX kb (by rw[ha];intro f l e;cases e) (by rw[ha];intro n e;cases e))
  obtain⟨v,q1,q2⟩:=aqk (w:=w) kb hE ha
  have dL:=ar9 (P:=P) (cs:=cs++rest) hm ht ho hw QQ q1
  refine⟨_,cs,w,.one dL,μ,G,h0,hM,hH,?_,hS,?_⟩
  ·exact .pan nt ⟨hb.fn,hb.fnr,hb.dfs,hb.kind,hb.qZ,hb.rd⟩ a v false rfl rfl q2 rfl hT2
  ·show(br (_ ::iJ)).Nodup
   simp only[br,pk,List.nil_append]
   exact UG
 |dfr f l=>
  simp only[gh]
  split
  ·rename_i hrn
   split
   ·rename_i af' hf
    obtain⟨c,ws,vs,q0,q1,q2,q3⟩:=aql (w:=w) kb hE ha
    have Gu:fr.roundOf=none:=by
     have:=hb.qZ
     rw[hrn] at this
     cases hh:fr.roundOf with
     |none=>rfl
     |some x=>rw[hh] at this;exact this.elim
    have dL:=asa (P:=P) (cs:=cs++rest) hm ht ho hw (.inl Gu) q2
    obtain⟨h3,h4,⟨t2,k2,h5⟩,⟨T2,K2,h6⟩⟩:=hW.finish (fr:=fr) rfl rfl rfl rfl (aD.tuple (ρ:=ρ) (μ:=μ) [] #[] .nil) hf
    have Fc:({fr with defers:=⟨.fn (.func f) ws,vs⟩ ::fr.defers}:Frame).finish undef={fr with defers:=⟨.fn (.func f) ws,vs⟩ ::fr.defers,tmps:=T2,todo:=K2}:=by
     have hf1:=cB ht ho undef
     have hf2:=cB (fr:={fr with defers:=⟨.fn (.func f) ws,vs⟩ ::fr.defers}) ht ho undef
     rw[hf2]
     have h6:fr.finish undef={fr with tmps:=T2,todo:=K2}:=h6
     rw[hf1] at h6
     have e1:=congrArg Frame.tmps h6
     have e2:=congrArg Frame.todo h6
     simp only at e1 e2
     rw[e1,e2]
    rw[Fc] at dL
    have h3:UJ P ρ C.orc μ G H nx nt af'.todo af'.tm (fr.finish undef).todo (fr.finish undef).tmps:=h3
    have h6:fr.finish undef={fr with tmps:=T2,todo:=K2}:=h6
    rw[h6] at h3
    refine⟨_,cs,w,.one dL,μ,G,h0,hM,hH,?_,hS,?_⟩
    ·subst h5
     exact .run nt ⟨hb.fn,hb.fnr,⟨⟨ws,rfl,q3⟩,hb.dfs⟩,hb.kind,hb.qZ,hb.rd⟩ h1 hm h3
    ·have:pk {af' with dfs:=Sb.fn f l ::af'.dfs}=pk af:=by rw[← h4];rfl
     show(br (_ ::iJ)).Nodup
     simp only[br,this]
     exact hn
   ·trivial
  ·trivial
 |recover=>
  simp only[gh]
  split
  ·rename_i c aDK hrn hdf
   have Gu:fr.roundOf=none:=by
    have:=hb.qZ
    rw[hrn] at this
    cases hh:fr.roundOf with
    |none=>rfl
    |some x=>rw[hh] at this;exact this.elim
   have hkd:fr.kind=.deferred:=by rw[hb.kind,hdf];rfl
   have q1:=Pp (P:=P) (w:=w) (ev:=fr.eval) kb ha
   cases cs with
   |nil=>exact hS.elim
   |cons cf zk=>
   split
   ·rename_i v KJ
    split
    ·rename_i af' hf
     cases hS.1 with
     |wait LJ fL Ae=>rw[Ae] at KJ;cases KJ
     |unw Pq bU=>
      cases Pq with
      |run LJ fL Ae=>rw[Ae] at KJ;cases KJ
      |ret LJ fL Ae=>rw[Ae] at KJ;cases KJ
      |pan LJ fL v' u r' Ae QL Sd QM hT'=>
       rw[Ae] at KJ
       simp only[asb.pan.injEq] at KJ
       obtain⟨rfl,rfl⟩:=KJ
       have aj2:tryRecover fr (cf ::(zk++rest))=some (u,{cf with mode:=.panicking [{v:=u,recovered:=true}]} ::(zk++rest)):=by
        simp[tryRecover,hkd,QL]
       have dL:=KL (P:=P) (cs:=cf ::(zk++rest)) hm ht ho hw Gu q1 aj2
       obtain⟨Md,hpk⟩:=aqh.finish Sd hf
       refine⟨_,{cf with mode:=.panicking [{v:=u,recovered:=true}]} ::zk,w,.one dL,μ,G,h0,hM,hH,Md,⟨.unw (.pan LJ ⟨fL.fn,fL.fnr,fL.dfs,fL.kind,fL.qZ,fL.rd⟩ v' u true rfl rfl Sd QM hT') (by intro e;cases e),hS.2⟩,?_⟩
       show(br (_ ::_ ::aDK)).Nodup
       simp only[br,hpk] at hn ⊢
       exact hn
    ·trivial
   ·rename_i KJ
    split
    ·rename_i af' hf
     cases hS.1 with
     |wait LJ fL Ae=>rw[Ae] at KJ;cases KJ
     |unw Pq bU=>
      have aj2:tryRecover fr (cf ::(zk++rest))=none:=by
       cases Pq with
       |run LJ fL Ae=>rw[Ae] at KJ;cases KJ
       |ret LJ fL Ae QL=>simp[tryRecover,hkd,QL]
       |pan LJ fL v' u r' Ae=>rw[Ae] at KJ;cases KJ
      have dL:=KM (P:=P) (cs:=cf ::(zk++rest)) hm ht ho hw Gu q1 aj2
      obtain⟨Md,hpk⟩:=aqh.finish (.nili) hf
      refine⟨_,cf ::zk,w,.one dL,μ,G,h0,hM,hH,Md,hS,?_⟩
      show(br (_ ::_ ::aDK)).Nodup
      simp only[br,hpk] at hn ⊢
      exact hn
    ·trivial
   ·trivial
  ·trivial
theorem asc(X:Ctx P ρ w0 C){l:List J}(h0:μ0.le μ)(hM:aP P ρ w0 μ G nx.toNat w)(hH:HSub H G)(hb:xE P ρ μ nt af fr)(h1:af.mode=.run)(hm:fr.mode=.run)
  {ops:Array Oper} {rs:List Nat} (hp:lP P nt ops rs=some l) (ht:fr.todo=.inRegion ops rs ::K) (hk:lJ P μ nt k K) (hT:jQ ρ μ nt af.tm fr.tmps) (hS:cX P ρ C.orc μ G H nx iJ cs) (hn:(br iJ).Nodup) :
  Good P ρ C w0 μ0 rest (lone fr (cs++rest) w) (match iO C.orc l af.tm H nx with
   |.fin tm h nx=>.next ⟨{af with tm,todo:=k},iJ,h,nx⟩
   |.ev r rest tm h nx=>gh C r {af with tm,todo:=.ops rest ::k} {af with tm,todo:=[]} iJ h nx):=by
 have key:=Gv (P:=P) (ρ:=ρ) (orc:=C.orc) (nt:=nt) (w0:=w0) (cs:=cs++rest) (K:=K) (ops:=ops) X.orc l rs fr w μ G H nx af.tm hp hM hH hT hm ht
 cases KH:iO C.orc l af.tm H nx with
 |fin tm' h' nx'=>
  rw[KH] at key
  obtain⟨dE,w',μ',G',s1,s2,s3,s4,s5,s6⟩:=key
  exact⟨_,cs,w',s1,pC (Mu.le_trans h0 s2) s3 s4 ((hb.mono s2).todo _ _ _ _) h1 hm (hk.mono s2) s5 (hS.kept s2 s6) hn⟩
 |ev r l' tm' h' nx'=>
  rw[KH] at key
  rcases key with⟨n,rfl⟩|⟨dE,w',μ',G',i,jY,po,ll,o,s1,s2,s3,s4,s5,s6,rfl,s8,s9,s10,s11,s12,s13⟩
  ·trivial
  ·have hE:=Dp (P:=P) (nt:=nt) (ops:=ops) (o:=o) (fr:={fr with tmps:=dE,todo:=.inRegion ops (i ::jY) ::K}) s3 (fun k a _ hg=>s5.2 k a hg)
   refine Good.steps s1 ?_
   have hpk:(br ({af with tm:=tm',todo:=.ops (po ::ll) ::k} ::iJ)).Nodup:=by
    simp only[br,pk,List.nil_append];exact hn
   exact Mc (fr:={fr with tmps:=dE,todo:=.inRegion ops (i ::jY) ::K}) (af:={af with tm:=tm',todo:=.ops (po ::ll) ::k}) X (Mu.le_trans h0 s2) s3 s4 ((hb.mono s2).todo _ _ _ _) h1 hm rfl s9 s10 s11 hE s12 s13
    (.ops po ll ops i jY k K tm' dE s8 (hk.mono s2) s5) (hS.kept s2 s6) hpk s5
theorem JG(X:Ctx P ρ w0 C){ops:Array Oper}{pl:List J}{bf:List Nat}{g:Gh}{sZ:List IIt}{items:List aM}{ic:SD}{ak:List (Nat×Key×ag)}{rs:List Nat}(h0:μ0.le μ)(hM:aP P ρ w0 μ G nx.toNat w)(hH:HSub H G)(hb:xE P ρ μ nt af fr)(h1:af.mode=.run)(hm:fr.mode=.run)
  (hf:sZ.mapM (BL pl)=some items) (hc:wP ops pl bf g.L sZ=true) (hd:Iu ops ic.ds∧xD bf ic.iK=true) (ht:fr.todo=.inRegion ops rs ::K) (hk:lJ P μ nt k K)
  (S:fO P ρ C.orc nt ops pl bf μ G H nx g (fun _=>False) ak af.tm fr.tmps rs) (hS:cX P ρ C.orc μ G H nx iJ cs) (hn:(nu ak++br iJ).Nodup) :
  Good P ρ C w0 μ0 rest (lone fr (cs++rest) w) (match gA C.orc ic.iK items ak af.tm H nx with
   |.fin tm h nx=>.next ⟨{af with tm,todo:=k},iJ,h,nx⟩
   |.ev r rest ak tm h nx=>Fe ic.ds tm fun tm'=>gh C r {af with tm,todo:=.staged rest ic ak ::k} {af with tm:=tm',todo:=[]} iJ h nx):=by
 have key:=UK (P:=P) (ρ:=ρ) (orc:=C.orc) (nt:=nt) (w0:=w0) (cs:=cs++rest) (K:=K) (ops:=ops) (pl:=pl) (bf:=bf) hd.2 X.orc sZ.length sZ items rs g fr w μ G H nx af.tm ak (fh _) hf hc hM hH S hm ht
 have azE:∀ x∈nu ak,x∉br iJ:=fun x hx Pf=>(List.nodup_append.1 hn).2.2 x hx x Pf rfl
 have UG:=(List.nodup_append.1 hn).2.1
 cases KH:gA C.orc ic.iK items ak af.tm H nx with
 |fin tm' h' nx'=>
  rw[KH] at key
  obtain⟨dE,w',μ',G',s1,s2,s3,s4,s5,s6⟩:=key
  exact⟨_,cs,w',s1,pC (Mu.le_trans h0 s2) s3 s4 ((hb.mono s2).todo _ _ _ _) h1 hm (hk.mono s2) s5 (hS.aym s2 s6 azE) UG⟩
 |ev r Ff pend' tm' h' nx'=>
  rw[KH] at key
  simp only[mT]
  rcases key with⟨n,rfl⟩|⟨dE,w',μ',G',g',i,po,o,ad,os,Pr,kl,jY,s1,s2,s3,s4,rfl,s6,s7,s8,s9,s10,s11,s12,S',s14,s15,s16,s17,s18,s19,s20⟩
  ·trivial
  ·have hsl:=S'.Mf s9 s10 s14
   have hE:=Dp (P:=P) (nt:=nt) (ops:=ops) (o:=o) (fr:={fr with tmps:=dE,todo:=.inRegion ops (i ::jY) ::K}) s3 hsl
   refine Good.steps s1 ?_
   have hpk:(br ({af with tm:=tm',todo:=.staged (.H i po ad ::.R os ::kl) ic pend' ::k} ::iJ)).Nodup:=by
    simp only[br,pk]
    refine List.nodup_append.2 ⟨S'.nk,UG,?_⟩
    rintro x hx y hy rfl
    rcases s20 x hx with h|h
    ·exact azE x h hy
    ·exact absurd (ayl hS x hy) (by omega)
   exact Mc (fr:={fr with tmps:=dE,todo:=.inRegion ops (i ::jY) ::K}) (af:={af with tm:=tm',todo:=.staged (.H i po ad ::.R os ::kl) ic pend' ::k}) X (Mu.le_trans h0 s2) s3 s4 ((hb.mono s2).todo _ _ _ _) h1 hm rfl s14 s15 s16 hE s17 s18
    (.staged ops pl bf g' i po ad os Pr kl ic pend' k K tm' dE jY s6 s7 s8 s9 s10 hd (hk.mono s2) s11 s12 S') (hS.aym s2 s19 azE) hpk (S'.erase hd.1)
end
end Go.Sx
/-
 SX: simulation: one step of the machine, and its whole run. No condition.
-/
namespace Go.Sx
open Go.RowKit
section
variable{P:Program}{nt:Nat}{ops:Array Oper}
theorem arA{pl:List J}{x:IIt}{y:aM}(h:BL pl x=some y):iOf y=x:=by
 cases x with
 |L i=>obtain⟨a,_,rfl⟩:=map_some h;rfl
 |A i=>obtain⟨a,_,rfl⟩:=map_some h;rfl
 |H i l=>obtain⟨a,_,rfl⟩:=map_some h;rfl
 |R os=>
  obtain⟨l,hl,rfl⟩:=map_some h
  show IIt.R (l.map (·.1))=IIt.R os
  congr 1
  induction os generalizing l with
  |nil=>simp at hl;subst hl;rfl
  |cons i os ih=>
   obtain⟨b,r,e1,e2,rfl⟩:=iF hl
   obtain⟨o,_,rfl⟩:=map_some e1
   simp[ih r e2 (by simp[BL,e2])]
theorem ajy{pl:List J}:∀ {sZ:List IIt} {items:List aM},sZ.mapM (BL pl)=some items→items.map iOf=sZ
 | [],items,h=>by simp at h;subst h;rfl
 |x ::sZ,items,h=>by
  obtain⟨y,r,e1,e2,rfl⟩:=iF h
  simp[arA e1,ajy e2]
theorem Pa:∀ {pl:List J} {po:J} {d:Key},po∈pl→po.dst=some d→d∈dstsOf pl
 | [],_,_,h,_=>by cases h
 |o ::l,po,d,h,hd=>by
  rcases Ga.1 h with e|e
  ·subst e;simp[dstsOf,hd]
  ·have:=Pa e hd
   simp only[dstsOf]
   split
   ·exact List.mem_cons_of_mem _ this
   ·exact this
theorem QB{pc:aA}(h:Gm P nt ops false=some pc):∃ l,lP P nt ops (List.range ops.size)=some l∧pc=.ops l:=by
 unfold Gm at h
 split at h
 ·cases h
 ·rename_i l hl
  simp only[cond_false,cT] at h
  exact⟨l,hl,h.symm⟩
theorem Up{pc:aA}(h:Gm P nt ops true=some pc):∃ pl sZ items iK,pc=.staged items ⟨dstsOf pl,iK⟩∧QV P nt ops pl (np ops)∧sZ.mapM (BL pl)=some items∧wP ops pl (np ops) 0 sZ=true∧Iu ops (dstsOf pl)∧xD (np ops) iK=true:=by
 unfold Gm at h
 split at h
 ·cases h
 ·rename_i l hl
  simp only[cond_true] at h
  split at h
  ·rename_i st dL
   split at h
   ·rename_i st' ax2
    cases mD:(azz ops l (np ops) (st'.map iOf)&&xD (np ops) (Dm (l.zip (np ops)) (l.zip (np ops)) 0)) with
    |false=>rw[mD] at h;cases h
    |true=>
     rw[mD] at h
     simp only[cond_true,cT] at h
     simp only[azz,jj] at mD
     obtain⟨mD,ajw⟩:=mD
     have ava:QV P nt ops l (np ops):=⟨hl,mD.1.1,mD.1.2⟩
     refine⟨l,st'.map iOf,st',_,h.symm,ava,by rw[ajy ax2];exact ax2,mD.2,?_,ajw⟩
     intro j t hj
     obtain⟨o,po,ho,R9,aMy⟩:=ava.at (I9 hj)
     obtain⟨_,_,hd⟩:=gU R9
     have hjd:o.dst=some t:=by simpa[lQ,ho] using hj
     rcases hd with⟨e,_⟩|⟨k,e1,e2,_⟩
     ·rw[e] at hjd;cases hjd
     ·rw[hjd] at e1
      simp only[cT] at e1
      exact⟨k,Pa (List.mem_of_getElem? aMy) e2,e1.symm⟩
   ·cases h
  ·cases h
end
section
variable{P:Program}{ρ:Nat→Int}{C:cD}{nt:Nat}{w0:W0}{w:World}{μ0 μ:Mu}{G:Key→Option ag}{H:T ag}{nx:Key}{rest cs:List Frame}{fr:Frame}{af:jP}{iJ:List jP}{K:List Item}{k:List cJ}
theorem fO.init{ops:Array Oper}{pl:List J}{bf:List Nat}(R:QV P nt ops pl bf){tm:T AV}{tmps:Array Value}(hT:jQ ρ μ nt tm tmps){rs:List Nat}(hv:Lu ops (fun _=>false) rs) :
  fO P ρ C.orc nt ops pl bf μ G H nx {L:=0,D:=fun _=>false,a0:=fun k=>aa k tm,val:=fun _=>none} (fun _=>False) [] tm tmps rs:=by
 refine⟨R,hv,?_,?_,?_,?_,?_,?_,hT.1,?_,?_,?_,?_,?_,?_⟩
 ·intro i o h;cases h
 ·intro i h;cases h
 ·intro i h;rw[show hasB 0 i=false from Dt i] at h;cases h
 ·intro i h;rw[show hasB 0 i=false from Dt i] at h;cases h
 ·intro k j h;rw[show hasB 0 j=false from Dt j] at h;cases h
 ·intro k _;rfl
 ·intro k j a h;cases h
 ·intro k a _ h;exact hT.2 k a h
 ·intro i h;rw[show hasB 0 i=false from Dt i] at h;cases h
 ·intro x h;cases h
 ·exact List.nodup_nil
 ·exact List.nodup_nil
theorem Uq(hM:aP P ρ w0 μ G nx.toNat w){x:Operand}{px:PX}{a:AV}(hp:pX P nt x=some px)(ha:px.at af.tm=some a)(hT:jQ ρ μ nt af.tm fr.tmps):aD ρ μ a (fr.eval x):=
 ap9 hM hp ha fun t k _ hk hg=>by rw[← hk];exact hT.2 k a hg
theorem NF(hM:aP P ρ w0 μ G nx.toNat w)(hH:HSub H G){b:Key}{st st':LS}{pd pd':Option aA}{fn:Nat}{tm:T AV}{res:List RV}{params:List Key}{as bd:aA}{dfs:Key}(hb:aa b H=some (.loop st pd fn tm res params as bd dfs))
  {l:Loc} (hl:μ b=some l) {L:Loop} (hL:w.heap[l.c]?=some (.loop L)) {s:LoopState} {pc:Option Code} (hs:amY st' s) (hpd:(∀ n,QP P n pd L.pending)→∀ n,QP P n pd' pc) :
  let w':={w with heap:=w.heap.setIfInBounds l.c (.loop {L with state:=s,pending:=pc})}
  let B':=ag.loop st' pd' fn tm res params as bd dfs
  ∃ μ' G',μ.le μ'∧aP P ρ w0 μ' G' nx.toNat w'∧HSub (au b (some B') H) G'∧Kept H (au b (some B') H) nx nx μ μ' G G':=by
 intro w' B'
 have hg:=hH _ _ hb
 obtain⟨l',L',ntl,ld,e0,UH,e1,e2,e3,e4,e5,e5',e6,e7,e8,e9,e10⟩:=Gs hM hg
 rw[hl] at e0;cases e0
 rw[hL] at UH;cases UH
 have Im:l.c<w.heap.size:=hM.wR b l hl
 have oU:w0.heap.size≤l.c:=(hM.own b _ l hg hl).resolve_left (by simp[ag.ro])
 have hle:μ.le (μ.put b l):=Mu.uw (.inr hl)
 obtain⟨m1,m2⟩:=hM.put (w':=w') b B' l (.loop {L with state:=s,pending:=pc}) (nx':=nx.toNat) (.inr hl)
  ⟨rfl,rfl,rfl,by simp[w'],fun j hj _=>by show(w.heap.setIfInBounds l.c _)[j]?=_;rw[zqn (Ne.symm hj)],fh _⟩
  (by show(w.heap.setIfInBounds l.c _)[l.c]?=_;simp[Im])
  (.loop st' pd' fn ntl tm res params as bd dfs ld l _ hs (hpd e2) e3 (e4.mono hle) e5 e5' e6 e7 (hle.l _ _ e8) e9 e10)
  (fun b' B' l' g m' ne=>hM.sep b' b B' _ l' l g hg m' hl ne) oU (fh _) (hM.new b l hl) (hM.lo0 hg hl rfl)
 exact⟨_,_,m1,m2,hH.set b (some B'),mV hb hl _ _⟩
inductive ayc(P:Program)(nt:Nat)(fr:Frame):Option aA→Option Code→Prop
 |fin (h:fr.todo=[]):ayc P nt fr none none
 |ret (K:List Item) (h:fr.todo=.code .ret ::K):ayc P nt fr (some .ret) (some .ret)
 |exit (id:Nat) (K:List Item) (h:fr.todo=.code (.exit id) ::K) (he:exitTo id K=none):ayc P nt fr (some (.exit id)) (some (.exit id))
theorem Ur{l:Nat}{L:Loop}(h:w.heap[l]?=some (.loop L))(j:Option Code):(Instr.endRound l j).run P w=.ok (.bool j.isNone) {w with heap:=w.heap.setIfInBounds l (.loop {L with state:=if j.isNone then .ready else .done,pending:=j})}:=by
 simp[Instr.endRound,Instr.getLoop,getObj,setObj,Sem.run,h]
theorem NG{l:Nat}{L:Loop}(h:w.heap[l]?=some (.loop L))(hs:L.state=.ready):(Instr.beginRound l).run P w=.ok () {w with heap:=w.heap.setIfInBounds l (.loop {L with state:=.busy,pending:=L.pending})}:=by
 simp[Instr.beginRound,Instr.getLoop,getObj,setObj,Sem.run,h,hs]
theorem Vq{l:Nat}{L:Loop}(h:w.heap[l]?=some (.loop L))(hs:L.state≠.busy):(Instr.endLoop l).run P w=.ok L.pending {w with heap:=w.heap.setIfInBounds l (.loop {L with state:=.exhausted,pending:=L.pending})}:=by
 simp[Instr.endLoop,Instr.getLoop,getObj,setObj,Sem.run,h,hs]
theorem Fz(X:Ctx P ρ w0 C){j:Option aA}{jc:Option Code}(hj:ayc P nt fr j jc)(h0:μ0.le μ)(hM:aP P ρ w0 μ G nx.toNat w)(hH:HSub H G)(hb:xE P ρ μ nt af fr)(h1:af.mode=.run)(hm:fr.mode=.run)
  (hk:af.todo=[]∨(∃ k,af.todo=.code .ret ::k)∨∃ id k,af.todo=.code (.exit id) ::k) (hjr:j=some .ret→∃ k,af.todo=.code .ret ::k) (hjn:j=none→af.todo=[]) (hT:jQ ρ μ nt af.tm fr.tmps) (hS:cX P ρ C.orc μ G H nx iJ cs) (hn:(br iJ).Nodup) :
  Good P ρ C w0 μ0 rest (lone fr (cs++rest) w) (Fl j af iJ H nx):=by
 unfold Fl
 split
 ·rename_i hrn
  have Gu:fr.roundOf=none:=by
   have:=hb.qZ
   rw[hrn] at this
   cases hh:fr.roundOf with
   |none=>rfl
   |some x=>rw[hh] at this;exact this.elim
  cases hj with
  |fin ht=>
   refine⟨_,cs,w,.one (aBC hm ht Gu),μ,G,h0,hM,hH,.ret nt ⟨hb.fn,hb.fnr,hb.dfs,hb.kind,hb.qZ,hb.rd⟩ rfl rfl (.inl (hjn rfl)) hT,hS,?_⟩
   show(br (_ ::iJ)).Nodup
   simp only[br,pk,hjn rfl,List.nil_append];exact hn
  |ret KK ht=>
   obtain⟨kk,rq⟩:=hjr rfl
   refine⟨_,cs,w,.one (aBD hm ht Gu),μ,G,h0,hM,hH,.ret nt ⟨hb.fn,hb.fnr,hb.dfs,hb.kind,hb.qZ,hb.rd⟩ rfl rfl (.inr ⟨kk,rq⟩) hT,hS,?_⟩
   show(br (_ ::iJ)).Nodup
   simp only[br,pk,rq,List.nil_append];exact hn
  |exit id KK ht he=>trivial
 ·rename_i key hrn
  cases iJ with
  |nil=>trivial
  |cons c iJ=>
  cases cs with
  |nil=>exact hS.elim
  |cons cf cs=>
  have hdf:af.BX=false:=hb.rd (by rw[hrn];intro e;cases e)
  have Nq:fr.kind=.normal:=by rw[hb.kind,hdf];rfl
  have Gu:∃ lc,μ key=some lc∧fr.roundOf=some lc.c:=by
   have:=hb.qZ
   rw[hrn] at this
   cases hh:fr.roundOf with
   |none=>rw[hh] at this;exact this.elim
   |some x=>rw[hh] at this;obtain⟨lc,e1,e2⟩:=this;exact⟨lc,e1,by rw[e2]⟩
  obtain⟨lc,iP,Gu⟩:=Gu
  simp only
  split
  ·rename_i st pd fn tm res params as bd dfs hbl
   simp only[sTCe]
   obtain⟨lc',L,ntl,ld,e0,UH,e1,e2,e3,e4,e5,e5',e6,e7,e8,e9,e10⟩:=Gs hM (hH _ _ hbl)
   rw[iP] at e0;cases e0
   split
   ·rename_i c' hf
    have hpd:(∀ n,QP P n pd L.pending)→∀ n,QP P n j jc:=by
     intro _ LJ
     cases hj with
     |fin ht=>trivial
     |ret KK ht=>exact(rfl:fZ P LJ .ret=some .ret)
     |exit id KK ht he=>exact(rfl:fZ P LJ (.exit id)=some (.exit id))
    have hsr:amY (match (generalizing:=false) j with|none=>LS.ready|some _=>LS.done) (if jc.isNone then .ready else .done):=by
     cases hj<;>trivial
    obtain⟨μ',G',g1,g2,g3,g4⟩:=NF hM hH hbl iP UH hsr hpd
    have dP:=Ur (P:=P) UH jc
    have dL:step P (lone fr (cf ::cs++rest) w)=.next (lone (cf.finish (.bool jc.isNone)) (cs++rest) {w with heap:=w.heap.setIfInBounds lc.c (.loop {L with state:=if jc.isNone then .ready else .done,pending:=jc})}):=by
     cases hj with
     |fin ht=>exact N9 hm ht Gu Nq dP
     |ret KK ht=>exact TH hm ht Gu Nq dP
     |exit id KK ht he=>exact Qb hm ht he Gu Nq dP
    have hS':=hS.kept g1 g4
    have hbv:aD ρ μ' (.bool (match (generalizing:=false) j with|none=>true|some _=>false)) (.bool jc.isNone):=by
     cases hj<;>exact .bool _
    obtain⟨q1,q2⟩:=hS'.1.finish hbv hf
    refine⟨_,cs,_,.one dL,μ',G',Mu.le_trans h0 g1,g2,g3,q1,hS'.2,?_⟩
    show(br (c' ::iJ)).Nodup
    simp only[br,q2] at hn ⊢
    exact hn
   ·trivial
  ·trivial
theorem QD{fn:FuncId}{tmps:Array Value}{params:Array Tmp}{as bd:Code}:(Instr.enterLoop fn tmps params as bd none).run P w =
  .ok (w.heap.size+1,[⟨.collected w.heap.size,#[]⟩]) ((w.alloc (.deferred (some []))).alloc (.loop {state:=.ready,pending:=none,fn,tmps,params,assign:=as,body:=bd,defers:=w.heap.size})):=by
 simp[Instr.enterLoop,newObj,Sem.run]
theorem Pb{nt:Nat}:∀ {l:List Nat} {ks:List Key},l.mapM (D0 nt)=some ks→R7 ks l∧∀ k∈ks,k.toNat<nt
 | [],ks,h=>by simp at h;subst h;exact⟨rfl,fun _ h=>by cases h⟩
 |t ::l,ks,h=>by
  obtain⟨k,r,e1,e2,rfl⟩:=iF h
  obtain⟨h1,h2⟩:=Pb e2
  obtain⟨h3,h4⟩:=mO e1
  refine⟨?_,fun q hq=>?_⟩
  ·show(k ::r).map Key.toNat=t ::l
   rw[zqx,h3,h1]
  ·rcases Ga.1 hq with e|e
   ·rw[e,h3];exact h4
   ·exact h2 q e
theorem aqK(X:Ctx P ρ w0 C){pc:aA}{c:Code}(hc:fZ P nt c=some pc)(h0:μ0.le μ)(hM:aP P ρ w0 μ G nx.toNat w)(hH:HSub H G)(hb:xE P ρ μ nt af fr)(h1:af.mode=.run)(hm:fr.mode=.run)
  (KI:af.todo=.code pc ::k) (ht:fr.todo=.code c ::K) (hk:lJ P μ nt k K) (hT:jQ ρ μ nt af.tm fr.tmps) (hS:cX P ρ C.orc μ G H nx iJ cs) (hn:(br iJ).Nodup) :
  Good P ρ C w0 μ0 rest (lone fr (cs++rest) w) (bP C af iJ H nx):=by
 have go:∀ (k':List cJ) (K':List Item),lJ P μ nt k' K'→step P (lone fr (cs++rest) w)=.next (lone {fr with todo:=K'} (cs++rest) w)→Good P ρ C w0 μ0 rest (lone fr (cs++rest) w) (.next ⟨{af with todo:=k'},iJ,H,nx⟩):=by
  intro k' K' hk' dL
  exact⟨_,cs,w,.one dL,pC h0 hM hH (hb.todo af.tm k' fr.tmps K') h1 hm hk' hT hS hn⟩
 unfold bP
 rw[KI]
 cases c with
 |skip=>
  simp only[fZ,cT] at hc;subst hc
  exact go _ _ hk (axv hm ht)
 |region id ops draw=>
  simp only[fZ] at hc
  cases draw with
  |false=>
   obtain⟨l,hl,rfl⟩:=QB hc
   exact go _ _ (.cons _ _ _ _ (.ops _ _ _ hl) hk) (aq3 hm ht)
  |true=>
   obtain⟨pl,sZ,items,iK,rfl,ava,hf,aMA,hd,ajw⟩:=Up hc
   obtain⟨t,dL⟩:=axx (P:=P) (cs:=cs++rest) (w:=w) hm ht
   rw[X.mix] at dL
   have hv:=Pc ava.down t
   refine⟨_,cs,_,.one dL,μ,G,h0,hM.drawn _ (Nat.le_succ _),hH,.run nt (hb.todo af.tm _ fr.tmps _) h1 hm (.ready ops pl _ _ sZ items _ [] k K _ _ _ hf aMA ⟨hd,ajw⟩ hk (fO.init ava hT hv)),hS,?_⟩
   show(br (_ ::iJ)).Nodup
   simp only[br,pk,List.map_nil,List.nil_append];exact hn
 |seq a b=>
  simp only[fZ] at hc
  split at hc
  ·rename_i a' b' ha fL
   cases hc
   exact go _ _ (.cons _ _ _ _ (.code _ _ ha) (.cons _ _ _ _ (.code _ _ fL) hk)) (aBB hm ht)
  ·cases hc
 |cond x a b=>
  simp only[fZ] at hc
  split at hc
  ·rename_i x' a' b' hx ha fL
   cases hc
   simp only
   split
   ·rename_i hxa
    have hv:=Uq hM hx hxa hT
    have he:fr.eval x=.bool true:=by generalize fr.eval x=u at hv;cases hv;rfl
    exact go _ _ (.cons _ _ _ _ (.code _ _ ha) hk) (anV hm ht he)
   ·rename_i hxa
    have hv:=Uq hM hx hxa hT
    have he:fr.eval x=.bool false:=by generalize fr.eval x=u at hv;cases hv;rfl
    exact go _ _ (.cons _ _ _ _ (.code _ _ fL) hk) (anV hm ht he)
   ·trivial
  ·cases hc
 |block id a=>
  simp only[fZ] at hc
  split at hc
  ·rename_i a' ha
   cases hc
   exact go _ _ (.cons _ _ _ _ (.code _ _ ha) (.cons _ _ _ _ (.inBlock _) hk)) (atK hm ht)
  ·cases hc
 |loop a=>
  simp only[fZ] at hc
  split at hc
  ·rename_i a' ha
   cases hc
   exact go _ _ (.cons _ _ _ _ (.code _ _ ha) (.cons _ _ _ _ (.inLoop _ _ ha) hk)) (Ty hm ht)
  ·cases hc
 |rangeFunc f params a b=>
  simp only[fZ] at hc
  split at hc
  ·rename_i f' ps a' b' hf hps ha fL
   cases hc
   simp only
   split
   ·rename_i g first cap hrn hfa
    simp only[sTCe]
    rcases BW X g (first ++ .yld nx.succ ::cap) false (.bad 61 ⟨af,iJ,au nx.succ (some (.loop .ready none af.fn af.tm af.res ps a' b' nx)) (au nx (some (.dfs false)) H),nx⟩)
     (fun eY=>.next ⟨eY,{af with todo:=.inRF nx.succ ::k,dfs:=.coll nx ::af.dfs} ::iJ,au nx.succ (some (.loop .ready none af.fn af.tm af.res ps a' b' nx)) (au nx (some (.dfs false)) H),nx.succ.succ⟩) with e|⟨p,hp,e⟩
    ·rw[e];trivial
    ·rw[e]
     have Gu:fr.roundOf=none:=by
      have:=hb.qZ
      rw[hrn] at this
      cases hh:fr.roundOf with
      |none=>rfl
      |some x=>rw[hh] at this;exact this.elim
     obtain⟨fn,c,f1,f2,f3,f4,f5⟩:=xF hp
     have hv:=Uq hM hf hfa hT
     obtain⟨vs,ws,ev,hv1,hv2⟩:=anz hv
     have hs1:=kTSu nx
     have hs2:=kTSu nx.succ
     obtain⟨m1,M1⟩:=hM.alloc nx (.dfs false) (.deferred (some [])) 0 (nx':=nx.succ.toNat) hM.nE (.dfs false _) (by omega) (by omega)
     have hu1:(μ.put nx ⟨w.heap.size,0,0⟩) nx=some ⟨w.heap.size,0,0⟩:=Mu.dG _ _ _
     have uv:(w.alloc (.deferred (some []))).heap.size=w.heap.size+1:=by simp
     obtain⟨hkr,SA⟩:=Pb hps
     have hn1:(μ.put nx ⟨w.heap.size,0,0⟩) nx.succ=none:=M1.nE
     have Kh:Mu.le (μ.put nx ⟨w.heap.size,0,0⟩) ((μ.put nx ⟨w.heap.size,0,0⟩).put nx.succ ⟨(w.alloc (.deferred (some []))).heap.size,0,0⟩):=Mu.uw (.inl hn1)
     obtain⟨m2,M2⟩:=M1.alloc nx.succ (.loop .ready none af.fn af.tm af.res ps a' b' nx) (.loop {state:=.ready,pending:=none,fn:=fr.fn,tmps:=fr.tmps,params,assign:=a,body:=b,defers:=w.heap.size}) 0 (nx':=nx.succ.succ.toNat) hn1
      (.loop .ready none af.fn nt af.tm af.res ps a' b' nx ⟨w.heap.size,0,0⟩ _ _ trivial (fun _=>trivial) hb.fn (hT.mono (Mu.le_trans m1 Kh)) hkr SA ha fL (Kh.l _ _ hu1) rfl hb.fnr) (by omega) (by omega)
     have hK:Kept H (au nx.succ (some (.loop .ready none af.fn af.tm af.res ps a' b' nx)) (au nx (some (.dfs false)) H)) nx nx.succ.succ μ _ G _:=(xQ (H:=H) (nx:=nx) (μ:=μ) (G:=G) ⟨w.heap.size,0,0⟩ (some (.dfs false)) (some (.dfs false))).trans
      (xQ (nx:=nx.succ) ⟨(w.alloc (.deferred (some []))).heap.size,0,0⟩ (some (.loop .ready none af.fn af.tm af.res ps a' b' nx)) (some (.loop .ready none af.fn af.tm af.res ps a' b' nx)))
     have hle:=Mu.le_trans m1 m2
     have dL:=TJ (P:=P) (cs:=cs++rest) (w:=w) hm ht Gu QD ev f1 (by rw[f2];rfl) f3
     have hu2:((μ.put nx ⟨w.heap.size,0,0⟩).put nx.succ ⟨(w.alloc (.deferred (some []))).heap.size,0,0⟩) nx.succ=some ⟨(w.alloc (.deferred (some []))).heap.size,0,0⟩:=Mu.dG _ _ _
     refine⟨_,{fr with todo:=.inRangeFunc (w.heap.size+1) ::K,defers:=[⟨.collected w.heap.size,#[]⟩]++fr.defers} ::cs,_,.one dL,_,_,Mu.le_trans h0 hle,M2,(hH.set nx _).set nx.succ _,tY hp ?_ false,⟨?_,hS.kept hle hK⟩,?_⟩
     ·have hy:aD ρ ((μ.put nx ⟨w.heap.size,0,0⟩).put nx.succ ⟨(w.alloc (.deferred (some []))).heap.size,0,0⟩) (.yld nx.succ) (.func (.yield (w.heap.size+1)) #[] #[]):=.yld _ _ _ hu2 uv.symm
      have:=(hv1.mono hle).append (an.cons _ _ _ _ hy (hv2.mono hle))
      simpa using this
     ·refine .wait nt ⟨hb.fn,hb.fnr,⟨⟨_,m2.l _ _ hu1,rfl⟩,hb.dfs.mono hle⟩,hb.kind,?_,hb.rd⟩ h1 hm ?_
      ·have:=hb.qZ
       rw[hrn,Gu] at this
       show aFK _ af.qZ fr.roundOf
       rw[hrn,Gu];trivial
      ·have:=Gt.rf (P:=P) (ρ:=ρ) (orc:=C.orc) (nt:=nt) (G:=mz (mz G nx (some (ag.dfs false))) nx.succ (some (.loop .ready none af.fn af.tm af.res ps a' b' nx))) (H:=au nx.succ (some (.loop .ready none af.fn af.tm af.res ps a' b' nx)) (au nx (some (.dfs false)) H)) (nx:=nx.succ.succ) nx.succ _ k K af.tm fr.tmps hu2 (hk.mono hle) (hT.mono hle)
       simp only[uv] at this ⊢
       exact this
     ·show(br (_ ::_ ::iJ)).Nodup
      simp only[br,pk,List.nil_append];exact hn
   ·trivial
  ·cases hc
 |exit id=>
  simp only[fZ,cT] at hc;subst hc
  obtain⟨x1,x2⟩:=amH (id:=id) hk
  simp only
  split
  ·rename_i k' hk'
   obtain⟨K',e1,e2⟩:=x1 k' hk'
   exact go _ _ e2 (axw hm ht e1)
  ·rename_i hk'
   exact Fz X (.exit id K ht (x2 hk')) h0 hM hH hb h1 hm (.inr (.inr ⟨id,k,KI⟩)) (by intro e;cases e) (by intro e;cases e) hT hS hn
 |ret=>
  simp only[fZ,cT] at hc;subst hc
  exact Fz X (.ret K ht) h0 hM hH hb h1 hm (.inr (.inl ⟨k,KI⟩)) (fun _=>⟨k,KI⟩) (by intro e;cases e) hT hS hn
 |scope a=>
  simp only[fZ] at hc
  split at hc
  ·rename_i a' ha
   cases hc
   exact go _ _ (.cons _ _ _ _ (.code _ _ ha) (.cons _ _ _ _ (.scope _) hk)) (atL hm ht)
  ·cases hc
 |label l=>
  simp only[fZ,cT] at hc;subst hc
  exact go _ _ hk (atM hm ht)
 |goto l=>simp[fZ] at hc
 |refuse s=>simp[fZ] at hc
end
end Go.Sx
