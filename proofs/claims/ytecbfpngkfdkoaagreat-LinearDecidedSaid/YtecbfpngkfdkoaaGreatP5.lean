/- A part of the proof. No condition. -/
import Derived.Test.YtecbfpngkfdkoaaGreatP4
set_option linter.unusedSimpArgs false
set_option linter.unusedVariables false
set_option linter.unusedSectionVars false
namespace Go.Sx
open Go.RowKit
def sX(p:List (Nat×Key×ag)):List Nat:=p.map (·.2.1.toNat)
def J2(P:Program)(ρ:Nat→Int)(orc:jZ)(nt:Nat)(w0:W0)(cs:List Frame)(K:List Item)(ops:Array Oper)(pl:List aB)(bf:List Nat)(fr:Frame)(w:World)(μ:Mu)(G:Key→Option ag)(H:T ag)(nx:Key)(aq:List (Nat×Key×ag)):RS→Prop
 |.fin tm' h' nx'=>∃fg w' μ' G',Steps P (lone fr cs w) (lone {fr with tmps:=fg,todo:=K} cs w')∧μ.le μ'∧bC P ρ w0 μ' G' nx'.toNat w'∧HSub h' G'∧mC ρ μ' nt tm' fg∧EJ (sX aq) H h' nx nx' μ μ' G G'
 |.ev r Ka pend' tm' h' nx'=>(∃n,r=.bad n)∨∃fg w' μ' G' g' i po o ad os UR nB mN,
   Steps P (lone fr cs w) (lone {fr with tmps:=fg,todo:=.inRegion ops (i ::mN) ::K} cs w')∧μ.le μ'∧bC P ρ w0 μ' G' nx'.toNat w'∧HSub h' G'∧
   Ka=.H i po ad ::.R os ::nB∧pl[i]?=some po∧UR.mapM (Gt pl)=some nB∧Cg ops pl bf (K7 (Gh.L g') i) UR=true∧hasB g'.L i=false∧(∀j,j<ops.size→hasB (im bf i) j=true→hasB g'.L j=true)∧
   (∀i po,(i,po)∈os→pl[i]?=some po∧Gq ops bf i=true∧uY pl i=0)∧(∀j,hasB g'.L j=true→iU pl j=true→hasB (im bf i) j=true∨∃po,(j,po)∈os)∧
   iV P ρ orc nt ops pl bf μ' G' h' nx' g' (fun i=>iU pl i=true) pend' tm' fg (i ::mN)∧ops[i]?=some o∧Oq P nt ops o=some po∧Region.wanted o (yielded ops fg)=true∧
   aOp orc po.op tm' h' nx'=r∧¬Cj r∧EJ (sX aq) H h' nx nx' μ μ' G G'∧(∀x∈sX pend',x∈sX aq∨nx.toNat≤x)
section
variable{P:Program}{ρ:Nat→Int}{orc:jZ}{nt:Nat}{ops:Array Oper}{pl:List aB}{bf:List Nat}{w0:W0}{cs:List Frame}{K:List Item}
theorem J2.step{fr:Frame}{w:World}{μ:Mu}{G:Key→Option ag}{H:T ag}{nx:Key}{aq:List (Nat×Key×ag)}{tmps2:Array Value}{rest2:List Nat}{w2:World}{μ2:Mu}{G2:Key→Option ag}{H2:T ag}{aN:Key}{pend2:List (Nat×Key×ag)}{r:RS}
  (fI:Steps P (lone fr cs w) (lone {fr with tmps:=tmps2,todo:=.inRegion ops rest2 ::K} cs w2)) (hle:μ.le μ2) (hk:EJ (sX aq) H H2 nx aN μ μ2 G G2) (hE:∀x∈sX pend2,x∈sX aq∨nx.toNat≤x)
  (h:J2 P ρ orc nt w0 cs K ops pl bf {fr with tmps:=tmps2,todo:=.inRegion ops rest2 ::K} w2 μ2 G2 H2 aN pend2 r):J2 P ρ orc nt w0 cs K ops pl bf fr w μ G H nx aq r:=by
 cases r with
 |fin tm' h' nx'=>obtain⟨fg,w',μ',G',s1,s2,s3,s4,s5,s6⟩:=h;exact⟨fg,w',μ',G',fI.trans s1,Mu.le_trans hle s2,s3,s4,s5,hk.trans s6 hE⟩
 |ev rr it pd tm' h' nx'=>
  rcases h with hb|⟨fg,w',μ',G',g',i,po,o,ad,os,UR,nB,mN,s1,s2,s3,s4,s5,s6,s7,s8,s9,s10,s11,s12,s13,s14,s15,s16,s17,s18,s19,s20⟩
  ·exact .inl hb
  ·refine .inr ⟨fg,w',μ',G',g',i,po,o,ad,os,UR,nB,mN,fI.trans s1,Mu.le_trans hle s2,s3,s4,s5,s6,s7,s8,s9,s10,s11,s12,s13,s14,s15,s16,s17,s18,hk.trans s19 hE,fun x hx=>?_⟩;rcases s20 x hx with h|h
   ·exact hE x h
   ·exact .inr (Nat.le_trans hk.n h)
theorem ly{α β:Type}{f:α→Option β}{a:α}{l:List α}{r:List β}(h:(a ::l).mapM f=some r):∃b r',f a=some b∧l.mapM f=some r'∧r=b ::r':=by
 rw[List.mapM_cons]at h;cases hf:f a with
 |none=>rw[hf]at h;cases h
 |some b=>
  cases hl:l.mapM f with
  |none=>rw[hf]at h;simp[hl]at h
  |some r'=>rw[hf]at h;simp[hl]at h;exact⟨b,r',rfl,rfl,h.symm⟩
theorem Y0(orc:jZ)(lD:List (Nat×List Nat))(i:Nat)(o:aB)(rest:List aS)(aq:List (Nat×Key×ag))(tm:T AV)(h:T ag)(nx:Key):jA orc lD (.L i o ::rest) aq tm h nx=(match dp o.guard tm with
   |none=>.ev (.bad 31) (.L i o ::rest) aq tm h nx
   |some false=>zD o.dst (some (.tuple [])) tm fun tm=>jA orc lD rest aq tm h nx
   |some true=>match lightOp orc o.op tm (zF (F4 i lD) aq h)with
    |some v=>zD o.dst (some v) tm fun tm=>jA orc lD rest aq tm h nx
    |none=>.ev (.bad 32) (.L i o ::rest) aq tm h nx):=rfl
theorem Y1(orc:jZ)(lD:List (Nat×List Nat))(i:Nat)(o:aB)(rest:List aS)(aq:List (Nat×Key×ag))(tm:T AV)(h:T ag)(nx:Key):jA orc lD (.A i o ::rest) aq tm h nx=(match dp o.guard tm with
   |none=>.ev (.bad 33) (.A i o ::rest) aq tm h nx
   |some false=>zD o.dst (some (.tuple [])) tm fun tm=>jA orc lD rest aq tm h nx
   |some true=>match allocOp o.op tm with
    |some (v,b)=>zD o.dst (some (v nx)) tm fun tm=>jA orc lD rest ((i,nx,b) ::aq) tm h nx.succ
    |none=>.ev (.bad 34) (.A i o ::rest) aq tm h nx):=rfl
theorem Y2(orc:jZ)(lD:List (Nat×List Nat))(i:Nat)(o:aB)(l:List Nat)(rest:List aS)(aq:List (Nat×Key×ag))(tm:T AV)(h:T ag)(nx:Key):jA orc lD (.H i o l ::rest) aq tm h nx=(Gs l aq h fun aq h=>match dp o.guard tm with
   |none=>.ev (.bad 35) (.H i o l ::rest) aq tm h nx
   |some false=>zD o.dst (some (.tuple [])) tm fun tm=>jA orc lD rest aq tm h nx
   |some true=>match aOp orc o.op tm h nx with
    |.val v h nx=>zD o.dst (some v) tm fun tm=>jA orc lD rest aq tm h nx
    |r=>.ev r (.H i o l ::rest) aq tm h nx):=rfl
theorem Yj(orc:jZ)(lD:List (Nat×List Nat))(os:List (Nat×aB))(rest:List aS)(aq:List (Nat×Key×ag))(tm:T AV)(h:T ag)(nx:Key):jA orc lD (.R os ::rest) aq tm h nx =
  (bif recheck orc lD aq tm h os then jA orc lD rest aq tm h nx else .ev (.bad 36) (.R os ::rest) aq tm h nx):=rfl
theorem aoV{os:List Nat}{l:List (Nat×aB)}(h:(os.mapM fun i=>(pl[i]?).map fun o=>(i,o))=some l):(∀i po,(i,po)∈l→i∈os∧pl[i]?=some po)∧(∀i∈os,∃po,(i,po)∈l):=by
 induction os generalizing l with
 |nil=>simp at h;subst h;simp
 |cons a os ih=>
  obtain⟨b,r,h1,h2,rfl⟩:=ly h;obtain⟨po,Xh,rfl⟩:=map_some h1;obtain⟨e1,e2⟩:=ih h2;refine⟨fun i Vt hm=>?_,fun i hi=>?_⟩
  ·rcases M4.1 hm with h|h
   ·cases h;exact⟨by simp,Xh⟩
   ·exact⟨List.mem_cons_of_mem _ (e1 i Vt h).1,(e1 i Vt h).2⟩
  ·rcases M4.1 hi with h|h
   ·subst h;exact⟨po,by simp⟩
   ·obtain⟨q,hq⟩:=e2 i h;exact⟨q,List.mem_cons_of_mem _ hq⟩
theorem axj{μ:Mu}{G:Key→Option ag}{nx:Key}{w:World}(hM:bC P ρ w0 μ G nx.toNat w):G nx=none:=by
 cases h:G nx with
 |none=>rfl
 |some B=>obtain⟨l,o,h1,_⟩:=hM.mD nx B h;exact absurd (hM.new nx l h1) (Nat.lt_irrefl _)
theorem W7{α:Type}{f:α→Nat}:∀{l:List α},(l.map f).Nodup→∀x∈l,∀y∈l,f x=f y→x=y
 | [],_,x,hx,_,_,_=>by cases hx
 |a ::l,h,x,hx,y,hy,e=>by
  simp only[zqx,List.nodup_cons]at h;rcases M4.1 hx with Ky|Ky<;>rcases M4.1 hy with Yl|Yl
  ·rw[Ky,Yl]
  ·exact(h.1 (KT.2 ⟨y,Yl,by rw[←e,Ky]⟩)).elim
  ·exact(h.1 (KT.2 ⟨x,Ky,by rw[e,Yl]⟩)).elim
  ·exact W7 h.2 x Ky y Yl e
theorem DS{α:Type}{f:α→Nat}(p:α→Bool){l:List α}(h:(l.map f).Nodup):((l.filter p).map f).Nodup:=
 List.Nodup.sublist (List.Sublist.map f List.filter_sublist) h
theorem iV.Gs{μ:Mu}{G:Key→Option ag}{H:T ag}{nx:Key}{g:Gh}{aq:List (Nat×Key×ag)}{tm:T AV}{tmps:Array Value}{rest:List Nat}(S:iV P ρ orc nt ops pl bf μ G H nx g (fun _=>False) aq tm tmps rest){l:List Nat}(hl:∀j∈l,j<ops.size→g.D j=true) :
  iV P ρ orc nt ops pl bf μ G (dO (aq.filter fun x=>memN x.1 l) H) nx g (fun i=>iU pl i=true) (aq.filter fun x=>!(memN x.1 l)) tm tmps rest:=by
 refine⟨S.QZ,S.ord,S.cl,S.sub,S.Kz,S.lcl,S.a1,S.a2,S.sz,S.c1,S.c2,?_,?_,DS _ S.nk,DS _ S.ni⟩
 ·intro i hi hD;cases S.pd i hi hD with
  |skip po pt h1 h2 h3 h4 h5=>exact .skip po pt h1 h2 h3 h4 fun x hx=>h5 x ((List.mem_filter.1 hx).1)
  |light po pt v h1 h2 h3 AP h4 h5 h6=>
   refine .light po pt v h1 h2 h3 AP (fun hu=>?_) h5 fun x hx=>h6 x ((List.mem_filter.1 hx).1);obtain⟨V,a1,_⟩:=h4 (fun h=>h);refine⟨_,?_,VOk.refl _ _ _ _⟩;rw[←a1];apply ML;have:iU pl i=Na po.op:=by simp[iU,h1]
   rw[this]at hu;simpa using hu
  |alloc po pt f B k h1 h2 h3 AP h4 h5 h6=>
   refine .alloc po pt f B k h1 h2 h3 AP h4 h5 (List.mem_filter.2 ⟨h6,?_⟩);show(!(memN i l))=true;cases hm:memN i l with
   |false=>rfl
   |true=>rw[hl i (MO hm) (S.Kz i hi)]at hD;cases hD
 ·intro x hx;obtain⟨Ky,hx2⟩:=List.mem_filter.1 hx;obtain⟨p1,p2,p3,p4,p5⟩:=S.pe x Ky;refine⟨p1,p2,p3,B0 p4 fun y hy e=>?_,p5⟩;obtain⟨Yl,hy2⟩:=List.mem_filter.1 hy;have:=W7 S.nk y Yl x Ky e;subst this;rw[hy2]at hx2;cases hx2
theorem W8{lD:List (Nat×List Nat)}(hor:fU ρ orc){rest:List Nat}{g:Gh}{fr:Frame}{w:World}{μ:Mu}{G:Key→Option ag}{H:T ag}{nx:Key}{tm:T AV}{aq:List (Nat×Key×ag)}(hc:Cg ops pl bf g.L []=true)(hM:bC P ρ w0 μ G nx.toNat w)(hH:HSub H G)
  (S:iV P ρ orc nt ops pl bf μ G H nx g (fun _=>False) aq tm fr.tmps rest) (hm:fr.mode=.run) (ht:fr.todo=.inRegion ops rest ::K):J2 P ρ orc nt w0 cs K ops pl bf fr w μ G H nx aq (jA orc lD [] aq tm H nx):=by
 have Cq:∀j,j<ops.size→hasB g.L j=true:=by intro j hj;simp only[Cg,AQ]at hc;exact hc j (by simpa using hj)
 have fp:jA orc lD [] aq tm H nx=.fin tm (dO aq H) nx:=by show GP aq H (fun h=>RS.fin tm h nx)=_;rw[Ia]
 rw[fp];obtain⟨fg,w',μ',G',D',mN,s1,s2,s3,s4,s5,s6,rfl⟩:=ago (cs:=cs) hM hH hor S Cq hm ht;have hD:∀j,j<ops.size→D' j=true:=s5.ord;refine⟨fg,w',μ',G',s1.trans (.one (JO hm rfl)),s2,s3,KL s4 (fun x hx=>(s5.pe x hx).2.1 (hD _ (s5.Kz _ (s5.pe x hx).1))),?_,?_⟩
 ·refine⟨s5.sz,fun k a ha=>?_⟩;by_cases h:∃j,qc ops j=some k.toNat
  ·obtain⟨j,hj⟩:=h;have bY:=NX hj;exact s5.c1 k j a (hD j bY) hj (by rw[←s5.a1 k j (Cq j bY) hj];exact ha)
  ·have lC:∀j,qc ops j≠some k.toNat:=fun j hj=>h ⟨j,hj⟩;exact s5.c2 k a (fun j _=>lC j) (by rw[←s5.a2 k (fun j _=>lC j)];exact ha)
 ·refine⟨fun b hb hg hl=>?_,dQ _⟩;have bT:∀x∈aq,x.2.1.toNat≠b.toNat:=fun x hx e=>hb (KT.2 ⟨x,hx,e⟩);obtain⟨k1,k2⟩:=s6 b (fun x hx e=>bT x hx (by rw[e]));exact⟨k1,k2,B0 hg bT⟩
theorem ZE{lD:List (Nat×List Nat)}(acL:CJ bf lD=true)(hor:fU ρ orc):∀(n:Nat) (x0:List IIt) (items:List aS) (rest:List Nat) (g:Gh) (fr:Frame) (w:World) (μ:Mu) (G:Key→Option ag) (H:T ag) (nx:Key) (tm:T AV) (aq:List (Nat×Key×ag)),x0.length≤n→
  x0.mapM (Gt pl)=some items→Cg ops pl bf g.L x0=true→bC P ρ w0 μ G nx.toNat w→HSub H G→iV P ρ orc nt ops pl bf μ G H nx g (fun _=>False) aq tm fr.tmps rest→fr.mode=.run→fr.todo=.inRegion ops rest ::K→
  J2 P ρ orc nt w0 cs K ops pl bf fr w μ G H nx aq (jA orc lD items aq tm H nx):=by
 intro n
 induction n with
 |zero=>intro x0 items rest g fr w μ G H nx tm aq hn hf hc hM hH S hm ht;have:x0=[]:=zqr (by omega);subst this;simp at hf;subst hf;exact W8 hor hc hM hH S hm ht
 |succ n ih=>
  intro x0 items rest g fr w μ G H nx tm aq hn hf hc hM hH S hm ht;cases x0 with
  |nil=>simp at hf;subst hf;exact W8 hor hc hM hH S hm ht
  |cons x x0=>
   obtain⟨y,Ka,hy,hf',rfl⟩:=ly hf;have hn':x0.length≤n:=by simpa using hn
   have hrefl:Steps P (lone fr cs w) (lone {fr with tmps:=fr.tmps,todo:=.inRegion ops rest ::K} cs w):=by rw[←ht];exact Steps.refl _ _
   cases x with
   |L i=>
    obtain⟨po,yS,rfl⟩:=map_some hy;simp only[Cg,nn,bltN_eq,decide_eq_true_eq,Bool.not_eq_true',Io]at hc;obtain⟨⟨⟨⟨hi,hk⟩,hL⟩,hb⟩,hc⟩:=hc;have hk:=qX hk;have Zn:hasB (im bf i) i=false:=by
     cases h:hasB (im bf i) i with
     |false=>rfl
     |true=>have:=hb i hi h;rw[hL]at this;cases this
    have htm:=S.aoS hi hL hb;have ZA:∀x∈aq,x.1≠i:=by intro x hx e;have:=(S.pe x hx).1;rw[e,hL]at this;cases this
    rw[Y0];cases hw:dp po.guard tm with
    |none=>exact Or.inl ⟨_,rfl⟩
    |some b=>
     cases b with
     |false=>simp only[fW];have S':=S.add (nx':=nx) (pend':=aq) (v:=.tuple []) yS hL hb (fun _ h=>h) (fun _ h=>.inl h) (.skip po tm yS (AH Zn htm) hw (by simp[A5]) ZA) (fun y hy hny=>absurd hy hny) (dQ _) S.nk S.ni;exact ih x0 Ka rest _ fr w μ G H nx _ aq hn' hf' hc hM hH S' hm ht
     |true=>
      cases hl:lightOp orc po.op tm (zF (F4 i lD) aq H)with
      |none=>exact Or.inl ⟨_,rfl⟩
      |some v=>simp only[fW];have S':=S.add (nx':=nx) (pend':=aq) (v:=v) yS hL hb (fun _ h=>h) (fun _ h=>.inl h) (.light po tm v yS (AH Zn htm) hw hk (fun _=>⟨_,hl,VOk.view acL _ _ _⟩) (by simp[A5]) ZA) (fun y hy hny=>absurd hy hny) (dQ _) S.nk S.ni;exact ih x0 Ka rest _ fr w μ G H nx _ aq hn' hf' hc hM hH S' hm ht
   |A i=>
    obtain⟨po,yS,rfl⟩:=map_some hy;simp only[Cg,nn,bltN_eq,decide_eq_true_eq,Bool.not_eq_true',Io]at hc;obtain⟨⟨⟨⟨hi,hk⟩,hL⟩,hb⟩,hc⟩:=hc;have hk:=qX hk;have Zn:hasB (im bf i) i=false:=by
     cases h:hasB (im bf i) i with
     |false=>rfl
     |true=>have:=hb i hi h;rw[hL]at this;cases this
    have htm:=S.aoS hi hL hb;have ZA:∀x∈aq,x.1≠i:=by intro x hx e;have:=(S.pe x hx).1;rw[e,hL]at this;cases this
    have hss:=kTSu nx;rw[Y1];cases hw:dp po.guard tm with
    |none=>exact Or.inl ⟨_,rfl⟩
    |some b=>
     cases b with
     |false=>simp only[fW];have S':=S.add (nx':=nx) (pend':=aq) (v:=.tuple []) yS hL hb (fun _ h=>h) (fun _ h=>.inl h) (.skip po tm yS (AH Zn htm) hw (by simp[A5]) ZA) (fun y hy hny=>absurd hy hny) (dQ _) S.nk S.ni;exact ih x0 Ka rest _ fr w μ G H nx _ aq hn' hf' hc hM hH S' hm ht
     |true=>
      cases hl:allocOp po.op tm with
      |none=>exact Or.inl ⟨_,rfl⟩
      |some fB=>
       obtain⟨f,B⟩:=fB;simp only[fW];have hgn:=axj hM;have hHn:ae nx H=none:=by
        cases h:ae nx H with
        |none=>rfl
        |some B=>rw[hH nx B h]at hgn;cases hgn
       have S':=S.add (nx':=nx.succ) (pend':=(i,nx,B) ::aq) (v:=f nx) yS hL hb (fun _ h=>List.mem_cons_of_mem _ h) (fun y h=>by rcases M4.1 h with h|h;exact .inr (by rw[h]);exact .inl h)
        (.alloc po tm f B nx yS (AH Zn htm) hw hk hl (by simp[A5]) (by simp))
        (fun y hy hny=>by have:y=(i,nx,B):=(M4.1 hy).resolve_right hny;subst this;exact⟨hM.qY,hgn,hHn,by show nx.toNat<nx.succ.toNat;omega⟩) (by omega)
        (by simp only[zqx,List.nodup_cons];refine⟨fun h=>?_,S.nk⟩;obtain⟨x,hx,e⟩:=KT.1 h;have:=(S.pe x hx).2.2.2.2;omega)
        (by simp only[zqx,List.nodup_cons];refine⟨fun h=>?_,S.ni⟩;obtain⟨x,hx,e⟩:=KT.1 h;exact ZA x hx e)
       have:=ih x0 Ka rest _ fr w μ G H nx.succ _ ((i,nx,B) ::aq) hn' hf' hc (hM.az9 (by omega)) hH S' hm ht;refine J2.step (tmps2:=fr.tmps) (rest2:=rest) (w2:=w) (pend2:=(i,nx,B) ::aq) hrefl μ.le_refl ⟨fun b _ hg hl=>⟨rfl,rfl,hg⟩,Nat.le_of_lt (show nx.toNat<nx.succ.toNat by omega)⟩ ?_ (by rw[←ht];exact this);intro x hx;simp only[sX,zqx,M4]at hx;rcases hx with h|h
       ·exact .inr (Nat.le_of_eq h.symm)
       ·exact .inl h
   |H i ad=>
    obtain⟨po,yS,rfl⟩:=map_some hy;cases x0 with
    |nil=>simp[Cg]at hc
    |cons x2 UR=>
    cases x2 with
    |L _=>simp[Cg]at hc
    |A _=>simp[Cg]at hc
    |H _ _=>simp[Cg]at hc
    |R osn=>
    obtain⟨y2,nB,hy2,hf2,rfl⟩:=ly hf';obtain⟨os,Zz,rfl⟩:=map_some hy2;obtain⟨aJD,aJE⟩:=aoV Zz;have Th:UR.length≤n:=by simp at hn;omega
    simp only[Cg,nn,bltN_eq,decide_eq_true_eq,Bool.not_eq_true',Io]at hc;obtain⟨⟨⟨⟨⟨⟨⟨⟨hi,hk⟩,hL⟩,hb⟩,acG⟩,oR⟩,J8⟩,aJF⟩,hc⟩:=hc;have hk:=qX hk;have aB4:∀j q,(j,q)∈os→pl[j]?=some q∧Gq ops bf j=true∧uY pl j=0:=by intro j q hj;obtain⟨e1,e2⟩:=aJD j q hj;have:=AQ.1 aJF j e1;simp only[nn]at this;exact⟨e2,this.2,qX this.1.2⟩
    have aum:∀j,hasB g.L j=true→iU pl j=true→hasB (im bf i) j=true∨∃q,(j,q)∈os:=by
     intro j hj hr;have:=AQ.1 J8 j (by simpa using S.Kz j hj);simp only[hj,hr,Bool.not_true,Bool.false_or,Bool.or_eq_true]at this;rcases this with h|h
     ·exact .inl h
     ·exact .inr (aJE j (by simpa using h))
    have axl:∀j,j<ops.size→hasB g.L j=true∨j=i∨∃q,q<ops.size∧hasB (im bf j) q=true∧hasB g.L q=false:=by
     intro j hj;have:=AQ.1 acG j (by simpa using hj);simp only[Bool.or_eq_true,Bool.not_eq_true']at this;rcases this with(h|h)|h
     ·exact .inl h
     ·exact .inr (.inl (qX h))
     ·refine .inr (.inr (Classical.byContradiction fun lC=>?_));have:adj ops.size (im bf j) g.L=true:=Io.2 fun q hq Rl=>by
       cases hLq:hasB g.L q with
       |true=>rfl
       |false=>exact absurd ⟨q,hq,Rl,hLq⟩ lC
      rw[this]at h;cases h
    obtain⟨MP,w1,μ1,G1,D1,aNz,s1,s2,s3,s4,S1,s6,r1,rfl⟩:=Y7 (cs:=cs) hM hH hor S hi hL axl hm ht;have aB5:∀j∈ad,j<ops.size→D1 j=true:=by intro j hj bY;exact S1.ready.2.2 j bY (AQ.1 oR j hj)
    have S2:=S1.Gs (l:=ad) aB5;rw[Y2,Ak];generalize hpf:(aq.filter fun x=>!(memN x.1 ad))=pend2 at S2;generalize hHf:dO (aq.filter fun x=>memN x.1 ad) H=H2 at S2;have hH2:HSub H2 G1:=by rw[←hHf];refine KL s4 fun x hx=>?_;obtain⟨Ky,hx2⟩:=List.mem_filter.1 hx;exact(S1.pe x Ky).2.1 (aB5 _ (MO hx2) (S1.Kz _ (S1.pe x Ky).1))
    have aB6:∀x∈pend2,x∈aq:=by intro x hx;rw[←hpf]at hx;exact(List.mem_filter.1 hx).1
    have aoW:∀x∈sX pend2,x∈sX aq∨nx.toNat≤x:=by intro x hx;obtain⟨y,hy,e⟩:=KT.1 hx;exact .inl (KT.2 ⟨y,aB6 y hy,e⟩)
    have hK2:EJ (sX aq) H H2 nx nx μ μ1 G G1:=by refine⟨fun b ir hg cH=>?_,dQ _⟩;have bT:∀x∈aq,x.2.1.toNat≠b.toNat:=fun x hx e=>ir (KT.2 ⟨x,hx,e⟩);obtain⟨k1,k2⟩:=s6 b (fun x hx e=>bT x hx (by rw[e]));rw[←hHf];exact⟨k1,k2,B0 hg fun x hx=>bT x ((List.mem_filter.1 hx).1)⟩
    obtain⟨o,Vt,Pn,Xh,I5⟩:=S.QZ.at hi;rw[yS]at I5;cases I5;obtain⟨qE,Xi,D0⟩:=j5 Xh;have hsl:=S2.Rf hL hb Pn;have hE:=Il (P:=P) (nt:=nt) (o:=o) (fr:={fr with tmps:=MP,todo:=.inRegion ops (i ::r1) ::K}) s3 hsl;have go:∀(a:AV) (v:Value) (w3:World) (μ3:Mu) (G3:Key→Option ag) (H3:T ag) (bP:Key),step P (lone {fr with tmps:=MP,todo:=.inRegion ops (i ::r1) ::K} cs w1)=.next (lone {fr with tmps:=I4 o.dst v MP,todo:=.inRegion ops r1 ::K} cs w3)→
      aY ρ μ3 a v→μ1.le μ3→bC P ρ w0 μ3 G3 bP.toNat w3→HSub H3 G3→Kept H2 H3 nx bP μ1 μ3 G1 G3→J2 P ρ orc nt w0 cs K ops pl bf fr w μ G H nx aq (jA orc lD (.R os ::nB) pend2 (cy po.dst a tm) H3 bP):=by
     intro a v w3 μ3 G3 H3 bP fI hv hle hM3 hH3 hK3;have S3:=S2.bZ hle hK3.n (G':=G3) (H':=H3) (fun x hx=>by obtain⟨p1,p2,p3,p4,p5⟩:=S2.pe x hx;exact⟨hK3.m _ p5,hK3.g _ p4 p5,hK3.h _ p4 p5⟩)
     have S4:=S3.auh yS hL hb Pn hv;rw[Yj];cases hrc:recheck orc lD pend2 (cy po.dst a tm) H3 os with
     |false=>exact Or.inl ⟨_,rfl⟩
     |true=>
      simp only[cond_true];have S5:=S4.WD acL hrc aB4 (by
       intro j hj hDj hrj;have hDj:(D1 j||j==i)=false:=hDj;rw[Bool.or_eq_false_iff]at hDj;have bT:j≠i:=by simpa using hDj.2
       have hj:hasB (K7 g.L i) j=true:=hj;rw[Lf,Bool.or_eq_true,decide_eq_true_eq]at hj;have hjL:=hj.resolve_right (fun e=>bT e.symm);rcases aum j hjL hrj with h|h
       ·have:=S1.ready.2.2 j (S.Kz j hjL) h;have:D1 j=true:=this;rw[hDj.1]at this;cases this
       ·exact h)
      have hE3:=ih UR nB r1 _ {fr with tmps:=I4 o.dst v MP,todo:=.inRegion ops r1 ::K} w3 μ3 G3 H3 bP _ pend2 Th hf2 hc hM3 hH3 S5 hm rfl;exact J2.step (s1.trans (.one fI)) (Mu.le_trans s2 hle) (hK2.trans (hK3.toE (sX pend2)) aoW) (fun x hx=>(aoW x hx)) hE3
    have evt:∀r:OR,Region.wanted o (yielded ops MP)=true→aOp orc po.op tm H2 nx=r→¬Cj r→J2 P ρ orc nt w0 cs K ops pl bf fr w μ G H nx aq (.ev r (.H i po ad ::.R os ::nB) pend2 tm H2 nx):=by intro r tV ha hr;exact Or.inr ⟨MP,w1,μ1,G1,{g with D:=D1},i,po,o,ad,os,UR,nB,r1,s1,s2,s3,hH2,rfl,yS,hf2,hc,hL,hb,aB4,aum,S2,Pn,Xh,tV,ha,hr,hK2,aoW⟩
    show J2 P ρ orc nt w0 cs K ops pl bf fr w μ G H nx aq (match dp po.guard tm with
     |none=>.ev (.bad 35) (.H i po ad ::.R os ::nB) pend2 tm H2 nx
     |some false=>zD po.dst (some (.tuple [])) tm fun tm=>jA orc lD (.R os ::nB) pend2 tm H2 nx
     |some true=>match aOp orc po.op tm H2 nx with
      |.val v h nx=>zD po.dst (some v) tm fun tm=>jA orc lD (.R os ::nB) pend2 tm h nx
      |r=>.ev r (.H i po ad ::.R os ::nB) pend2 tm H2 nx)
    cases hw:dp po.guard tm with
    |none=>exact Or.inl ⟨_,rfl⟩
    |some b=>
     have tV:=Dm Xi hsl hw;cases b with
     |false=>simp only[fW];have fI:=KC (P:=P) (cs:=cs) (w:=w1) (fr:={fr with tmps:=MP,todo:=.inRegion ops (i ::r1) ::K}) hm rfl Pn tV;rw[dv rfl Pn]at fI;exact go _ _ w1 μ1 G1 H2 nx fI (.tuple _ _ .nil) μ1.le_refl s3 hH2 (Kept.refl _ _ _ _)
     |true=>
      cases ha:aOp orc po.op tm H2 nx with
      |val a H3 bP=>
       simp only[fW];obtain⟨n,w3,μ3,G3,q1,q2,q3,q4,q5,q6⟩:=WW s3 hH2 hor qE hE ha;have Gg:fr.roundOf=none∨gG o.op=false:=.inr (CP qE (by rw[ha];intro f l e;cases e) (by rw[ha];intro n e;cases e));cases n with
       |value v=>have fI:=Yr (P:=P) (cs:=cs) (fr:={fr with tmps:=MP,todo:=.inRegion ops (i ::r1) ::K}) hm rfl Pn tV Gg q1;rw[dv rfl Pn]at fI;exact go _ _ w3 μ3 G3 H3 bP fI q2 q3 q4 q5 q6
       |skip=>have q2:a=.tuple []:=q2;subst q2;have fI:=ahy (P:=P) (cs:=cs) (fr:={fr with tmps:=MP,todo:=.inRegion ops (i ::r1) ::K}) hm rfl Pn tV Gg q1;rw[dv rfl Pn]at fI;exact go _ _ w3 μ3 G3 H3 bP fI (.tuple _ _ .nil) q3 q4 q5 q6
       |_=>exact q2.elim
      |bad n=>exact Or.inl ⟨_,rfl⟩
      |call f args=>exact evt _ tV ha (by rintro(⟨_,_,_,e⟩|⟨_,e⟩)<;>cases e)
      |yld k args=>exact evt _ tV ha (by rintro(⟨_,_,_,e⟩|⟨_,e⟩)<;>cases e)
      |pan v=>exact evt _ tV ha (by rintro(⟨_,_,_,e⟩|⟨_,e⟩)<;>cases e)
      |dfr f args=>exact evt _ tV ha (by rintro(⟨_,_,_,e⟩|⟨_,e⟩)<;>cases e)
      |recover=>exact evt _ tV ha (by rintro(⟨_,_,_,e⟩|⟨_,e⟩)<;>cases e)
   |R os=>simp[Cg]at hc
end
def Lg(P:Program)(ρ:Nat→Int)(w0:W0)(f:Nat)(l:List AV)(H:T ag)(nx:Key)(a:AV)(H':T ag)(nx':Key):Prop:=∀(args:Array Value) (w:World) (μ:Mu) (G:Key→Option ag),bC P ρ w0 μ G nx.toNat w→HSub H G→aA ρ μ l args.toList→
 Calls P f args w fun e w'=>∃u μ' G',e=.returned u∧aY ρ μ' a u∧μ.le μ'∧bC P ρ w0 μ' G' nx'.toNat w'∧HSub H' G'∧Kept H H' nx nx' μ μ' G G'
structure Ctx(P:Program)(ρ:Nat→Int)(w0:W0)(C:bU):Prop where
 sum:∀f l H nx a H' nx',C.sum f l H nx=some (a,H',nx')→Lg P ρ w0 f l H nx a H' nx'
 has : ∀ f l H nx r, C.sum f l H nx = some r → ∃ fn, P.funcs[f]? = some fn ∧ fn.body.isSome = true ∧ fn.name ≠ "runtime.NumGoroutine"
 orc:fU ρ C.orc
 fns:∀f p,(bif Nat.beq (Key.gK 12 f).toNat f then ae (Key.gK 12 f) C.fns else none)=some p→Jf P f=some p
 mix:P.follows .mixedOrders=true
section
variable{P:Program}{ρ:Nat→Int}{orc:jZ}{nt:Nat}{w0:W0}{w:World}{μ:Mu}{G:Key→Option ag}{H:T ag}{nx:Key}
theorem agd{id:Nat}{k:List dJ}{K:List Item}(h:pP P μ nt k K) :
  (∀k',oV id k=some k'→∃K',exitTo id K=some K'∧pP P μ nt k' K')∧(oV id k=none→exitTo id K=none):=by
 induction h with
 |nil=>exact⟨fun k' e=>(by cases e),fun _=>rfl⟩
 |cons a x l k h h' ih=>
  cases h with
  |inBlock id'=>
   simp only[oV,exitTo,beqN_eq];by_cases e:id'=id
   ·subst e;simp only[decide_true,cond_true,beq_self_eq_true,if_true];exact⟨fun k' e=>(by cases e;exact⟨_,rfl,h'⟩),fun e=>(by cases e)⟩
   ·have:(id'==id)=false:=by simpa using e
    simp only[e,decide_false,cond_false,this,UT,if_false];exact ih
  |code pc c h=>exact ih
  |inLoop pc c h=>exact ih
  |ops l ops rest h=>exact ih
  |inRF k l r h hr=>exact ih
  |endRF k l r h hr=>exact ih
  |beginRound=>exact ih
  |scope c=>exact ih
noncomputable def iu:List AV→Key→T AV→T AV
 | [],_,tm=>tm
 |v ::l,k,tm=>iu l k.succ (au k (some v) tm)
theorem DZ{R:Type}:∀(l:List AV) (k:Key) (tm:T AV) (c:T AV→R),XA l k tm c=c (iu l k tm)
 | [],_,_,_=>rfl
 |v ::l,k,tm,c=>by show xZ k (some v) tm (fun tm=>XA l k.succ tm c)=_;rw[sTCe,DZ l];rfl
theorem Pt:∀(l:List AV) (k:Key) (tm:T AV) (q:Key) (a:AV),ae q (iu l k tm)=some a→(k.toNat≤q.toNat∧l[q.toNat-k.toNat]?=some a)∨ae q tm=some a
 | [],_,_,_,_,h=>.inr h
 |v ::l,k,tm,q,a,h=>by
  have hs:=kTSu k;rcases Pt l k.succ _ q a h with⟨h1,h2⟩|h1
  ·refine .inl ⟨by omega,?_⟩;have:q.toNat-k.toNat=(q.toNat-k.succ.toNat)+1:=by omega
   rw[this];simpa using h2
  ·by_cases e:q=k
   ·subst e;rw[gTSm]at h1;cases h1;exact .inl ⟨dQ _,by simp⟩
   ·rw[aG _ _ _ _ e]at h1;exact .inr h1
theorem age{args:Array Value}{l:List AV}(h:aA ρ μ l args.toList):mC ρ μ nt (iu l .z .nil) (args++Array.replicate (nt-args.size) undef):=by
 refine⟨by simp;omega,fun q a hq=>?_⟩;rcases Pt l .z .nil q a hq with⟨_,h2⟩|h2
 ·have h2:l[q.toNat]?=some a:=by simpa[Key.toNat]using h2
  obtain⟨v,hv,hr⟩:=h.get _ _ h2;refine⟨v,?_,hr⟩;have cH:q.toNat<args.size:=by
   rcases Jh q.toNat args.size with h'|h'
   ·exact h'
   ·rw[zqo (by simpa using h')]at hv;cases hv
  rw[Array.getElem?_append_left cH];simpa using hv
 ·simp at h2
theorem wJ {f : Nat} {p : gE} (h : Jf P f = some p) : ∃ fn c, P.funcs[f]? = some fn ∧ fn.body = some c ∧ fn.name ≠ "runtime.NumGoroutine" ∧ jj P fn.ntmps c = some p.body ∧ UN P fn.ntmps fn.results.toList = some p.res := by
 unfold Jf at h;split at h
 ·cases h
 ·rename_i fn hfn;split at h
  ·cases h
  ·rename_i c hc;cases hn : (fn.name == "runtime.NumGoroutine") with
   |true=>rw[hn]at h;cases h
   |false=>
    rw[hn]at h;simp only[cond_false]at h;split at h
    ·rename_i b r hb hr;cases h;exact⟨fn,c,hfn,hc,by simpa using hn,hb,hr⟩
    ·cases h
theorem zb{f:Nat}{p:gE}(hp:Jf P f=some p){l:List AV}{args:Array Value}(hl:aA ρ μ l args.toList)(GG:Bool) :
  Cur P ρ orc μ G H nx {fn:=f,tm:=iu l .z .nil,todo:=[.code p.body],dfs:=[],mode:=.run,GG,wI:=none,res:=p.res} (Frame.enter P f args (if GG then .deferred else .normal)):=by
 obtain⟨fn,c,h1,h2,h3,h4,h5⟩:=wJ hp;refine .run fn.ntmps ⟨rfl,⟨fn,h1,rfl,h5⟩,trivial,rfl,trivial,fun h=>absurd rfl h⟩ rfl rfl ?_;simp only[Frame.enter,h1,Option.map_some,Option.getD_some,Option.bind_some,h2];exact .plain _ _ _ _ (.cons _ _ _ _ (.code _ _ h4) .nil) (age hl)
theorem mC.set{tm:T AV}{tmps:Array Value}(h:mC ρ μ nt tm tmps){k:Key}(cH:k.toNat<nt){a:AV}{v:Value}(hv:aY ρ μ a v):mC ρ μ nt (au k (some a) tm) (tmps.setIfInBounds k.toNat v):=by
 refine⟨by simp;exact h.1,fun q b hb=>?_⟩;by_cases hq:q=k
 ·subst hq;rw[gTSm]at hb;cases hb;have:q.toNat<tmps.size:=Lm cH h.1;exact⟨v,by simp[this],hv⟩
 ·rw[aG _ _ _ _ hq]at hb;obtain⟨u,hu,hr⟩:=h.2 q b hb;refine⟨u,?_,hr⟩;rw[zqn]
  ·exact hu
  ·intro e;exact hq (Key.toNat_inj e.symm)
noncomputable def apT:List Key→List AV→T AV→T AV
 |k ::l,v ::m,tm=>apT l m (au k (some v) tm)
 |_,_,tm=>tm
theorem Wc{R:Type}:∀(ks:List Key) (vs:List AV) (tm:T AV) (bad:R) (c:T AV→R),XB ks vs tm bad c=bad∨(ks.length=vs.length∧XB ks vs tm bad c=c (apT ks vs tm))
 | [],[],tm,bad,c=>.inr ⟨rfl,rfl⟩
 | [],_ ::_,tm,bad,c=>.inl rfl
 |_ ::_,[],tm,bad,c=>.inl rfl
 |k ::l,v ::m,tm,bad,c=>by
  have e:XB (k ::l) (v ::m) tm bad c=XB l m (au k (some v) tm) bad c:=by show xZ k (some v) tm (fun tm=>XB l m tm bad c)=_;rw[sTCe]
  rw[e];rcases Wc l m (au k (some v) tm) bad c with h|⟨h1,h2⟩
  ·exact .inl h
  ·exact .inr ⟨by simp[h1],h2⟩
theorem ZC:∀{ks:List Key} {vs:List AV} {us:List Value} {tm:T AV} {tmps:Array Value},(∀k∈ks,k.toNat<nt)→ks.length=vs.length→aA ρ μ vs us→mC ρ μ nt tm tmps→
  mC ρ μ nt (apT ks vs tm) (((ks.map Key.toNat).zip us).foldl (fun tmps (x:Nat×Value)=>tmps.setIfInBounds x.1 x.2) tmps)
 | [],[],_,_,_,_,_,.nil,h=>h
 | [],_ ::_,_,_,_,_,hl,_,_=>by cases hl
 |_ ::_,[],_,_,_,_,hl,_,_=>by cases hl
 |k ::ks,v ::vs,_,tm,tmps,hk,hl,.cons _ _ u us h h',ht=>by exact ZC (ks:=ks) (vs:=vs) (fun q hq=>hk q (by simp[hq])) (by simpa using hl) h' (ht.set (hk k (by simp)) h)
noncomputable def lY:List Key→T AV→T AV
 | [],tm=>tm
 |k ::l,tm=>lY l (au k none tm)
theorem sB{R:Type}:∀(l:List Key) (tm:T AV) (c:T AV→R),J9 l tm c=c (lY l tm)
 | [],_,_=>rfl
 |k ::l,tm,c=>by show xZ k none tm (fun tm=>J9 l tm c)=_;rw[sTCe,sB l];rfl
theorem Ub:∀(l:List Key) (tm:T AV) (q:Key) (a:AV),ae q (lY l tm)=some a→(∀k∈l,k≠q)∧ae q tm=some a
 | [],_,_,_,h=>⟨fun _ h=>(by cases h),h⟩
 |k ::l,tm,q,a,h=>by
  obtain⟨h1,h2⟩:=Ub l _ q a h;have bT:k≠q:=by intro e;subst e;rw[gTSm]at h2;cases h2
  rw[aG _ _ _ _ (fun e=>bT e.symm)]at h2;refine⟨fun x hx=>?_,h2⟩;rcases M4.1 hx with e|e
  ·rw[e];exact bT
  ·exact h1 x e
theorem iV.erase{ops:Array Oper}{pl:List aB}{bf:List Nat}{g:Gh}{Fa:Nat→Prop}{aq:List (Nat×Key×ag)}{tm:T AV}{tmps:Array Value}{rest:List Nat}(S:iV P ρ orc nt ops pl bf μ G H nx g Fa aq tm tmps rest){kA:List Key}(hd:Nf ops kA) :
  mC ρ μ nt (lY kA tm) tmps:=by
 refine⟨S.sz,fun q a hq=>?_⟩;obtain⟨h1,h2⟩:=Ub _ _ _ _ hq;have lC:∀j,qc ops j≠some q.toNat:=by intro j hj;obtain⟨k,hk,e⟩:=hd j _ hj;exact h1 k hk (Key.toNat_inj e)
 rw[S.a2 q fun j _=>lC j]at h2;exact S.c2 q a (fun j _=>lC j) h2
theorem Lb.finish{k:List dJ}{tm:T AV}{K:List Item}{tmps:Array Value}(h:Lb P ρ orc μ G H nx nt k tm K tmps){af af':oG}(hk:af.todo=k)(ht:af.tm=tm){fr:Frame}(hK:fr.todo=K)(hT:fr.tmps=tmps){a:AV}{v:Value}(hv:aY ρ μ a v)
  (hf:dD a af=some af'):ZD P ρ orc μ G H nx nt af'.todo af'.tm (fr.finish v).todo (fr.finish v).tmps∧pk af'=pk af∧(∃tm2 k2,af'={af with tm:=tm2,todo:=k2})∧(∃tmps2 K2,fr.finish v={fr with tmps:=tmps2,todo:=K2}):=by
 cases h with
 |ops o l ops i rest k K tm tmps hp h ht'=>
  subst ht hT;simp only[dD,hk,fW,fa]at hf;subst hf;have hp0:=hp;simp only[qa]at hp;split at hp
  ·cases hp
  ·rename_i oo Pn;split at hp
   ·rename_i Vt l' h1 h2;simp only[fa,List.cons.injEq]at hp;obtain⟨rfl,rfl⟩:=hp;obtain⟨qE,Xi,D0⟩:=j5 h1;rw[dv hK Pn];exact⟨.plain _ _ _ _ (.cons _ _ _ _ (.ops _ _ _ h2) h) (ht'.put D0 hv),by simp[pk,hk],⟨_,_,rfl⟩,⟨_,_,rfl⟩⟩
   ·cases hp
 |staged ops pl bf g i po ad os x0 items kA aq k K tm tmps rest yS hf' hc hL Wa hd h Zz J8 S=>
  subst ht hT;simp only[dD,hk,fW,fa]at hf;subst hf;obtain⟨hi,hDi,BB⟩:=S.ready;obtain⟨o,Vt,Pn,Xh,I5⟩:=S.QZ.at hi;rw[yS]at I5;cases I5;rw[dv hK Pn];have S4:=S.auh yS hL Wa Pn hv;refine⟨.back ops pl bf _ os x0 items kA aq k K _ _ rest hf' hc hd h Zz ?_ S4,by simp[pk,hk],⟨_,_,rfl⟩,⟨_,_,rfl⟩⟩;intro j hj hDj hrj;have hDj:(g.D j||j==i)=false:=hDj;rw[Bool.or_eq_false_iff]at hDj;have bT:j≠i:=by simpa using hDj.2
  have hj:hasB (K7 g.L i) j=true:=hj;rw[Lf,Bool.or_eq_true,decide_eq_true_eq]at hj;have hjL:=hj.resolve_right (fun e=>bT e.symm);rcases J8 j hjL hrj with h|h
  ·have:=BB j (S.Kz j hjL) h;rw[hDj.1]at this;cases this
  ·exact h
 |rf key l k K tm tmps aw6 h ht'=>
  subst ht hT;simp only[dD,hk,fa]at hf;subst hf;have e:fr.finish v={fr with todo:=.endRangeFunc l.c ::K}:=by simp[Frame.finish,hK]
  rw[e];exact⟨.plain _ _ _ _ (.cons _ _ _ _ (.endRF _ _ _ aw6 rfl) h) ht',by simp[pk,hk],⟨_,_,rfl⟩,⟨_,_,rfl⟩⟩
def ajX(tmps:Array Value):ResultVar→Sem Value
 |.tmp t=>pure (tmps.getD t undef)
 |.cell a t=>do loadVar t (←asAddr (tmps.getD a undef))
theorem EH(hM:bC P ρ w0 μ G nx.toNat w)(hH:HSub H G){tm:T AV}{tmps:Array Value}(hT:mC ρ μ nt tm tmps):∀{rs:List ResultVar} {res:List RV} {l:List AV},UN P nt rs=some res→resultsA H tm res=some l→
  ∃vs,(rs.mapM (ajX tmps)).run P w=.ok vs w∧aA ρ μ l vs
 | [],res,l,hp,hr=>by simp only[UN,fa]at hp;subst hp;simp only[resultsA,fa]at hr;subst hr;exact⟨[],by simp[x4],.nil⟩
 |.tmp t ::rs,res,l,hp,hr=>by
  simp only[UN]at hp;split at hp
  ·rename_i k r hk hrs;cases hp;simp only[resultsA]at hr;split at hr
   ·rename_i a l' ha Ta;cases hr;obtain⟨vs,h1,h2⟩:=EH hM hH hT hrs Ta;obtain⟨v,hv,hvr⟩:=hT.2 _ _ ha;rw[(sj hk).1]at hv;refine⟨v ::vs,?_,.cons _ _ _ _ hvr h2⟩;have hg:tmps.getD t undef=v:=by simp[Array.getD_eq_getD_getElem?,hv]
    rw[List.mapM_cons];simp only[ajX,uD,x4,qF,hg,h1]
   ·cases hr
  ·cases hp
 |.cell a t ::rs,res,l,hp,hr=>by
  simp only[UN]at hp;split at hp
  ·rename_i k i r hk hi hrs;cases hp;simp only[resultsA]at hr;split at hr
   ·rename_i b off l' ha Ta;split at hr
    ·rename_i x hx;cases hr;obtain⟨vs,h1,h2⟩:=EH hM hH hT hrs Ta;obtain⟨v,hv,hvr⟩:=hT.2 _ _ ha;rw[(sj hk).1]at hv;have hg:tmps.getD a undef=v:=by simp[Array.getD_eq_getD_getElem?,hv]
     cases hvr with|ptr _ _ lc ad zh oR=>
     subst oR;simp only[loadB]at hx;split at hx
     ·rename_i L ck hL;obtain⟨ii,d,z,e1,e2,e3,e4,e5,e6⟩:=ma hi;rw[e5,e6]at hx;obtain⟨u,hu,hur⟩:=Ji hM (hH _ _ hL) e1 e2 hx zh;refine⟨u ::vs,?_,.cons _ _ _ _ hur h2⟩;rw[List.mapM_cons];simp only[ajX,uD,x4,qF,hg,asAddr,hu,h1]
     ·cases hx
    ·cases hr
   ·cases hr
  ·cases hp
def Ml(vs:List Value):Value:=if h:vs.toArray.size=1 then vs.toArray[0]else .tuple vs.toArray
theorem ad9{l:List AV}{vs:List Value}(h:aA ρ μ l vs):aY ρ μ (qg l) (Ml vs):=by
 cases h with
 |nil=>exact .tuple _ _ .nil
 |cons a l v vs h h'=>
  cases h' with
  |nil=>exact h
  |cons b l v2 vs h5 h6=>
   have:Ml (v ::v2 ::vs)=.tuple (v ::v2 ::vs).toArray:=by simp[Ml]
   rw[this];exact .tuple _ _ (.cons _ _ _ _ h (.cons _ _ _ _ h5 h6))
theorem Vn(hM:bC P ρ w0 μ G nx.toNat w)(hH:HSub H G){tm:T AV}{tmps:Array Value}(hT:mC ρ μ nt tm tmps){fn:Func}{res:List RV}{l:List AV}(hp:UN P nt fn.results.toList=some res)(hr:resultsA H tm res=some l) :
  ∃vs,(results fn tmps).run P w=.ok (Ml vs) w∧aA ρ μ l vs:=by
 obtain⟨vs,h1,h2⟩:=EH hM hH hT hp hr;have aJd:results fn tmps=(do
   let vs ←fn.results.mapM (ajX tmps)
   pure (if h:vs.size=1 then vs[0]else .tuple vs)):=by
  unfold results;congr 1
 refine⟨vs,?_,h2⟩;have hm:fn.results.mapM (ajX tmps)=Functor.map List.toArray (fn.results.toList.mapM (ajX tmps)):=by rw[←List.mapM_toArray]
 rw[aJd,hm];simp only[map_eq_pure_bind,bind_assoc,pure_bind,uD,h1,qF,x4];rfl
end
def Good(P:Program)(ρ:Nat→Int)(C:bU)(w0:W0)(μ0:Mu)(rest:List Frame)(m:Machine):SR→Prop
 |.next am'=>∃jk Ik w',Steps P m (lone jk (Ik++rest) w')∧FY P ρ C.orc w0 μ0 am' jk Ik w'
 |.done f v h nx=>∃jk w' μ G u,Steps P m (lone jk rest w')∧jk.fn=f∧jk.leaving P w' (.returned u)∧aY ρ μ v u∧μ0.le μ∧bC P ρ w0 μ G nx.toNat w'∧HSub h G
 |_=>True
section
variable{P:Program}{ρ:Nat→Int}{C:bU}{nt:Nat}{w0:W0}{w:World}{μ0 μ:Mu}{G:Key→Option ag}{H:T ag}{nx:Key}{rest cs:List Frame}{fr:Frame}{af:oG}{l5:List oG}{K:List Item}{k:List dJ}
theorem Good.steps{m m':Machine}{r:SR}(h:Steps P m m')(g:Good P ρ C w0 μ0 rest m' r):Good P ρ C w0 μ0 rest m r:=by
 cases r with
 |next am'=>obtain⟨jk,Ik,w',h1,h2⟩:=g;exact⟨jk,Ik,w',h.trans h1,h2⟩
 |done f v hh nx=>obtain⟨jk,w',μ,G,u,h1,h2⟩:=g;exact⟨jk,w',μ,G,u,h.trans h1,h2⟩
 |pan v hh nx=>trivial
 |bad n m=>trivial
theorem CN.todo(h:CN P ρ μ nt af fr)(t:T AV)(k:List dJ)(T:Array Value)(K:List Item):CN P ρ μ nt {af with tm:=t,todo:=k} {fr with tmps:=T,todo:=K}:=
 ⟨h.fn,h.fnr,h.dfs,h.kind,h.wI,h.rd⟩
theorem akx{af:oG}(h:pP P μ nt af.todo K):pk af=[]:=by
 unfold pk;split
 ·rename_i i d p k' e;rw[e]at h;cases h with|cons _ _ _ _ h _=>cases h
 ·rfl
theorem asM:∀{l5:List oG} {cs:List Frame},eZ P ρ C.orc μ G H nx l5 cs→∀x∈bX l5,x<nx.toNat
 | [],[],_,x,hx=>by cases hx
 | [],_ ::_,h,_,_=>h.elim
 |_ ::_,[],h,_,_=>h.elim
 |a ::l5,f ::cs,h,x,hx=>by
  simp only[bX,List.mem_append]at hx;rcases hx with hx|hx
  ·cases h.1 with
   |wait nt hb h1 h2 h=>
    unfold pk at hx;split at hx
    ·rename_i i d p k' e;rw[e]at h;generalize f.todo=KK at h;generalize f.tmps=TT at h;generalize a.tm=tt at h;cases h with
     |staged ops pl bf g i po ad os x0 items kA aq k K tm tmps rest yS hf hc hL Wa hd h Zz J8 S=>obtain⟨y,hy,e⟩:=KT.1 hx;rw[←e];exact(S.pe y hy).2.2.2.2
    ·cases hx
   |unw h hm=>
    cases h with
    |run nt hb h1=>exact absurd h1 hm
    |ret nt hb h1 h2 h3 h=>unfold pk at hx;rcases h3 with h3|⟨k,h3⟩<;>rw[h3]at hx<;>cases hx
    |pan nt hb v u r h1 h2 hv h3 h=>unfold pk at hx;rw[h3]at hx;cases hx
  ·exact asM h.2 x hx
theorem eZ.kept{μ':Mu}{G':Key→Option ag}{H':T ag}{nx':Key}(hm:μ.le μ')(hk:Kept H H' nx nx' μ μ' G G')(h:eZ P ρ C.orc μ G H nx l5 cs):eZ P ρ C.orc μ' G' H' nx' l5 cs:=
 h.bZ hm hk.n fun b _ hg hl=>⟨hk.m b hl,hk.g b hg hl,hk.h b hg hl⟩
theorem eZ.asN{E:List Nat}{μ':Mu}{G':Key→Option ag}{H':T ag}{nx':Key}(hm:μ.le μ')(hk:EJ E H H' nx nx' μ μ' G G')(hE:∀x∈E,x∉bX l5)(h:eZ P ρ C.orc μ G H nx l5 cs):eZ P ρ C.orc μ' G' H' nx' l5 cs:=
 h.bZ hm hk.n fun b hb hg hl=>hk.k b (fun he=>hE _ he hb) hg hl
theorem uZ(h0:μ0.le μ)(hM:bC P ρ w0 μ G nx.toNat w)(hH:HSub H G)(hb:CN P ρ μ nt af fr)(h1:af.mode=.run)(h2:fr.mode=.run)(hk:pP P μ nt af.todo fr.todo)(hT:mC ρ μ nt af.tm fr.tmps)
  (hS:eZ P ρ C.orc μ G H nx l5 cs) (hn:(bX l5).Nodup):FY P ρ C.orc w0 μ0 ⟨af,l5,H,nx⟩ fr cs w:=
 ⟨μ,G,h0,hM,hH,.run nt hb h1 h2 (.plain _ _ _ _ hk hT),hS,by simp[bX,akx hk,hn]⟩
theorem Sus.finish{c c':oG}{cf:Frame}(h:Sus P ρ C.orc μ G H nx c cf){a:AV}{v:Value}(hv:aY ρ μ a v)(hf:dD a c=some c'):Cur P ρ C.orc μ G H nx c' (cf.finish v)∧pk c'=pk c:=by
 cases h with
 |wait nt hb h1 h2 h=>obtain⟨h3,h4,⟨tm2,k2,h5⟩,⟨T2,K2,h6⟩⟩:=h.finish rfl rfl rfl rfl hv hf;refine⟨?_,h4⟩;rw[h6]at h3 ⊢;subst h5;exact .run nt (hb.todo _ _ _ _) h1 h2 h3
 |unw h hm=>
  cases h with
  |run nt hb h1=>exact absurd h1 hm
  |ret nt hb h1 h2 h3 h=>rcases h3 with h3|⟨k,h3⟩<;>simp[dD,h3]at hf
  |pan nt hb v u r h1 h2 hv h3 h=>simp[dD,h3]at hf
noncomputable def dd(raw:Bool)(l:List AV)(H:T ag):List AV×T ag:=bif raw then(l,H)else cn (aW 9999) l H
theorem zq{R:Type}(raw:Bool)(l:List AV)(H:T ag)(c:List AV→T ag→R):aky raw l H c=c (dd raw l H).1 (dd raw l H).2:=by
 cases raw
 ·show Nd (frz 9999) l H c=_;rw[yT (GD 9999)];rfl
 ·rfl
theorem K9(raw:Bool)(hM:bC P ρ w0 μ G nx.toNat w)(hH:HSub H G){l:List AV}{us:List Value}(h:aA ρ μ l us):∃μ' G',ki P ρ w0 w nx μ G H μ' G' (dd raw l H).2∧aA ρ μ' (dd raw l H).1 us:=by
 cases raw
 ·exact sA (DY 9999) l us μ G H hM hH h
 ·exact⟨μ,G,ki.refl hM hH,h⟩
theorem GF(X:Ctx P ρ w0 C)(f:Nat)(args:List AV)(GG:Bool)(bad:SR)(c:oG→SR):GH C f args GG bad c=bad∨
  ∃p,Jf P f=some p∧GH C f args GG bad c=c {fn:=f,tm:=iu args .z .nil,todo:=[.code p.body],dfs:=[],mode:=.run,GG,wI:=none,res:=p.res}:=by
 unfold GH;split
 ·rename_i p hp;exact .inr ⟨p,X.fns f p hp,by rw[DZ]⟩
 ·exact .inl rfl
theorem aii{l:Nat}{L:Loop}{args:Array Value}(h:w.heap[l]?=some (.loop L))(hs:args.size=L.params.size) :
  (Instr.yield l args).run P w=.ok (.round l L.fn ((L.params.zip args).foldl (fun tmps (x:Nat×Value)=>tmps.setIfInBounds x.1 x.2) L.tmps) L.assign L.body) w:=by
 simp[Instr.yield,Instr.getLoop,getObj,Sem.run,h,hs]
theorem La(hM:bC P ρ w0 μ G nx.toNat w){b:Key}{st:LS}{pd:Option aL}{fn:Nat}{tm:T AV}{res:List RV}{params:List Key}{as bd:aL}{dfs:Key}(hb:G b=some (.loop st pd fn tm res params as bd dfs)) :
  ∃l L nt ld,μ b=some l∧w.heap[l.c]?=some (.loop L)∧agy st L.state∧(∀n,Wb P n pd L.pending)∧L.fn=fn∧mC ρ μ nt tm L.tmps∧Xg params L.params.toList∧(∀k∈params,k.toNat<nt)∧akz P nt as L.assign∧akz P nt bd L.body∧μ dfs=some ld∧L.defers=ld.c∧akA P fn nt res:=by
 obtain⟨l,o,h1,h2,h3⟩:=hM.mD b _ hb;cases h3 with
 |loop st pd fn nt tm res params as bd dfs ld l L e1 e2 e3 e4 e5 e5' e6 e7 e8 e9 e10=>exact⟨l,L,nt,ld,h1,h2,e1,e2,e3,e4,e5,e5',e6,e7,e8,e9,e10⟩
theorem Re(X:Ctx P ρ w0 C){ops:Array Oper}{i:Nat}{mN:List Nat}{o:Oper}{po:aB}{r:OR}{tm2:T AV}(h0:μ0.le μ)(hM:bC P ρ w0 μ G nx.toNat w)(hH:HSub H G)(hb:CN P ρ μ nt af fr)(h1:af.mode=.run)(hm:fr.mode=.run)
  (ht:fr.todo=.inRegion ops (i ::mN) ::K) (ho:ops[i]?=some o) (Xh:Oq P nt ops o=some po) (hw:Region.wanted o (yielded ops fr.tmps)=true)
  (hE:CO P ρ μ nt o.op.operands.toList af.tm fr.eval) (ha:aOp C.orc po.op af.tm H nx=r) (hr:¬Cj r)
  (hW:Lb P ρ C.orc μ G H nx nt af.todo af.tm fr.todo fr.tmps) (hS:eZ P ρ C.orc μ G H nx l5 cs) (hn:(bX (af ::l5)).Nodup) (hT2:mC ρ μ nt tm2 fr.tmps) :
  Good P ρ C w0 μ0 rest (lone fr (cs++rest) w) (kB C r af {af with tm:=tm2,todo:=[]} l5 H nx):=by
 obtain⟨qE,Xi,D0⟩:=j5 Xh;have akB:Sus P ρ C.orc μ G H nx af fr:=.wait nt hb h1 hm hW;have ZA:(bX l5).Nodup:=(List.nodup_append.1 hn).2.1;cases r with
 |val a H' nx'=>exact absurd (qd _ _ _) hr
 |bad n=>exact absurd (dy _) hr
 |call f l=>
  have Gg:fr.roundOf=none∨gG o.op=false:=.inr (CP qE (by rw[ha];intro f l e;cases e) (by rw[ha];intro n e;cases e));simp only[kB,zq];have key : ∀ {fn : Func}, P.funcs[f]? = some fn → fn.body.isSome = true → fn.name ≠ "runtime.NumGoroutine" → ∃ args μ1 G1, step P (lone fr (cs ++ rest) w) = .next (lone (Frame.enter P f args .normal) (fr :: cs ++ rest) w) ∧
    ki P ρ w0 w nx μ G H μ1 G1 (dd (C.raw f) l H).2∧aA ρ μ1 (dd (C.raw f) l H).1 args.toList:=by
   intro fn f1 f2 f3;obtain⟨args,q1,q2⟩:=adl (w:=w) qE hE ha f1 f2 f3;obtain⟨μ1,G1,x1,x2⟩:=K9 (C.raw f) hM hH q2;exact⟨args,μ1,G1,akC (P:=P) (cs:=cs++rest) hm ht ho hw Gg q1,x1,x2⟩
  generalize dd (C.raw f) l H=lh at key;obtain⟨l1,H1⟩:=lh;simp only at key ⊢;split
  ·rename_i v H2 aN UO;split
   ·rename_i af' hf;have hso:=X.sum f l1 H1 nx v H2 aN UO;obtain⟨fn,f1,f2,f3⟩:=X.has f l1 H1 nx _ UO;obtain⟨args,μ1,G1,fI,x1,x2⟩:=key f1 f2 f3;obtain⟨e,w',jk,⟨u,μ',G',rfl,y2,y3,y4,y5,y6⟩,auy,hfn,auz⟩:=hso args w μ1 G1 x1.M x1.hs x2 (fr ::cs++rest);have hS1:eZ P ρ C.orc μ1 G1 H1 nx (af ::l5) (fr ::cs):=eZ.kept x1.le x1.kept ⟨akB,hS⟩;have hS2:eZ P ρ C.orc μ' G' H2 aN (af ::l5) (fr ::cs):=eZ.kept y3 y6 hS1;obtain⟨ZB,hpk⟩:=hS2.1.finish y2 hf;refine⟨_,cs,w',Steps.trans (.head fI auy) (.one (step_leave_returned auz)),μ',G',Mu.le_trans h0 (Mu.le_trans x1.le y3),y4,y5,ZB,hS2.2,?_⟩;show(bX (af' ::l5)).Nodup;simp only[bX,hpk]at hn ⊢;exact hn
   ·trivial
  ·rcases GF X f l1 false (.bad 40 ⟨af,l5,H1,nx⟩) (fun jk=>.next ⟨jk,af ::l5,H1,nx⟩)with e|⟨p,hp,e⟩
   ·rw[e];trivial
   ·rw[e];obtain⟨fn,c,f1,f2,f3,f4,f5⟩:=wJ hp;obtain⟨args,μ1,G1,fI,x1,x2⟩:=key f1 (by rw[f2];rfl) f3;refine⟨_,fr ::cs,w,.one fI,μ1,G1,Mu.le_trans h0 x1.le,x1.M,x1.hs,zb hp x2 false,eZ.kept x1.le x1.kept ⟨akB,hS⟩,?_⟩;show(bX (_ ::af ::l5)).Nodup;simp only[bX,pk,List.nil_append];exact hn
 |yld key l=>
  have Gg:fr.roundOf=none∨gG o.op=false:=.inr (CP qE (by rw[ha];intro f l e;cases e) (by rw[ha];intro n e;cases e));simp only[kB];split
  ·rename_i st pd fn tm res params as bd dfs hk;rcases Wc params l tm (SR.bad 41 ⟨af,l5,H,nx⟩) (fun tm=>.next ⟨{fn,tm,todo:=[.code as,.beginRound,.code bd],dfs:=[],mode:=.run,GG:=false,wI:=some key,res},af ::l5,H,nx⟩)with e|⟨hlen,e⟩
   ·rw[e];trivial
   ·rw[e];obtain⟨args,lc,q1,q2,q3⟩:=aij (w:=w) qE hE ha;obtain⟨lc',L,ntl,ld,e0,e0',e1,e2,e3,e4,e5,e5',e6,e7,e8,e9,e10⟩:=La hM (hH _ _ hk);rw[q1]at e0;cases e0;have yU:args.size=L.params.size:=by
     have a1:=q3.length;have a2:(params.map Key.toNat).length=L.params.toList.length:=by rw[e5]
     simp at a1 a2;omega
    rw[aii e0' yU]at q2;have fI:=akD (P:=P) (cs:=cs++rest) hm ht ho hw Gg q2;refine⟨_,fr ::cs,w,.one fI,μ,G,h0,hM,hH,?_,⟨akB,hS⟩,?_⟩
    ·refine .run ntl ⟨e3,e10,trivial,rfl,⟨_,q1,rfl⟩,fun _=>rfl⟩ rfl rfl (.plain _ _ _ _ (.cons _ _ _ _ (.code _ _ e6) (.cons _ _ _ _ .beginRound (.cons _ _ _ _ (.code _ _ e7) .nil))) ?_);have:=ZC (ks:=params) e5' hlen q3 e4;have hl:(L.params.zip args).foldl (fun tmps (x:Nat×Value)=>tmps.setIfInBounds x.1 x.2) L.tmps=((params.map Key.toNat).zip args.toList).foldl (fun tmps (x:Nat×Value)=>tmps.setIfInBounds x.1 x.2) L.tmps:=by rw[e5,←Array.foldl_toList,Array.toList_zip]
     show mC ρ μ ntl (apT params l tm) ((L.params.zip args).foldl (fun tmps (x:Nat×Value)=>tmps.setIfInBounds x.1 x.2) L.tmps);rw[hl];exact this
    ·show(bX (_ ::af ::l5)).Nodup;simp only[bX,pk,List.nil_append];exact hn
  ·trivial
 |pan a=>
  have Gg:fr.roundOf=none∨gG o.op=false:=.inr (CP qE (by rw[ha];intro f l e;cases e) (by rw[ha];intro n e;cases e));obtain⟨v,q1,q2⟩:=aik (w:=w) qE hE ha;have fI:=akE (P:=P) (cs:=cs++rest) hm ht ho hw Gg q1;refine⟨_,cs,w,.one fI,μ,G,h0,hM,hH,?_,hS,?_⟩
  ·exact .pan nt ⟨hb.fn,hb.fnr,hb.dfs,hb.kind,hb.wI,hb.rd⟩ a v false rfl rfl q2 rfl hT2
  ·show(bX (_ ::l5)).Nodup;simp only[bX,pk,List.nil_append];exact ZA
 |dfr f l=>
  simp only[kB];split
  ·rename_i hrn;split
   ·rename_i af' hf;obtain⟨c,ws,vs,q0,q1,q2,q3⟩:=ail (w:=w) qE hE ha;have Lc:fr.roundOf=none:=by
     have:=hb.wI;rw[hrn]at this;cases hh:fr.roundOf with
     |none=>rfl
     |some x=>rw[hh]at this;exact this.elim
    have fI:=akF (P:=P) (cs:=cs++rest) hm ht ho hw (.inl Lc) q2;obtain⟨h3,h4,⟨t2,k2,h5⟩,⟨T2,K2,h6⟩⟩:=hW.finish (fr:=fr) rfl rfl rfl rfl (aY.tuple (ρ:=ρ) (μ:=μ) [] #[] .nil) hf;have PO:({fr with defers:=⟨.fn (.func f) ws,vs⟩ ::fr.defers}:Frame).finish undef={fr with defers:=⟨.fn (.func f) ws,vs⟩ ::fr.defers,tmps:=T2,todo:=K2}:=by have hf1:=dv ht ho undef;have hf2:=dv (fr:={fr with defers:=⟨.fn (.func f) ws,vs⟩ ::fr.defers}) ht ho undef;rw[hf2];have h6:fr.finish undef={fr with tmps:=T2,todo:=K2}:=h6;rw[hf1]at h6;have e1:=congrArg Frame.tmps h6;have e2:=congrArg Frame.todo h6;simp only at e1 e2;rw[e1,e2]
    rw[PO]at fI;have h3:ZD P ρ C.orc μ G H nx nt af'.todo af'.tm (fr.finish undef).todo (fr.finish undef).tmps:=h3;have h6:fr.finish undef={fr with tmps:=T2,todo:=K2}:=h6;rw[h6]at h3;refine⟨_,cs,w,.one fI,μ,G,h0,hM,hH,?_,hS,?_⟩
    ·subst h5;exact .run nt ⟨hb.fn,hb.fnr,⟨⟨ws,rfl,q3⟩,hb.dfs⟩,hb.kind,hb.wI,hb.rd⟩ h1 hm h3
    ·have:pk {af' with dfs:=Xj.fn f l ::af'.dfs}=pk af:=by rw[←h4];rfl
     show(bX (_ ::l5)).Nodup;simp only[bX,this];exact hn
   ·trivial
  ·trivial
 |recover=>
  simp only[kB];split
  ·rename_i c azj hrn hdf;have Lc:fr.roundOf=none:=by
    have:=hb.wI;rw[hrn]at this;cases hh:fr.roundOf with
    |none=>rfl
    |some x=>rw[hh]at this;exact this.elim
   have hkd:fr.kind=.deferred:=by rw[hb.kind,hdf];rfl
   have q1:=UP (P:=P) (w:=w) (ev:=fr.eval) qE ha;cases cs with
   |nil=>exact hS.elim
   |cons cf Ik=>
   split
   ·rename_i v Ld;split
    ·rename_i af' hf;cases hS.1 with
     |wait QF ir A7=>rw[A7]at Ld;cases Ld
     |unw UQ bT=>
      cases UQ with
      |run QF ir A7=>rw[A7]at Ld;cases Ld
      |ret QF ir A7=>rw[A7]at Ld;cases Ld
      |pan QF ir v' u r' A7 UA Xk h3' hT'=>
       rw[A7]at Ld;simp only[akG.pan.injEq]at Ld;obtain⟨rfl,rfl⟩:=Ld;have adn:tryRecover fr (cf ::(Ik++rest))=some (u,{cf with mode:=.panicking [{v:=u,recovered:=true}]} ::(Ik++rest)):=by simp[tryRecover,hkd,UA]
       have fI:=PQ (P:=P) (cs:=cf ::(Ik++rest)) hm ht ho hw Lc q1 adn;obtain⟨ZB,hpk⟩:=akB.finish Xk hf;refine⟨_,{cf with mode:=.panicking [{v:=u,recovered:=true}]} ::Ik,w,.one fI,μ,G,h0,hM,hH,ZB,⟨.unw (.pan QF ⟨ir.fn,ir.fnr,ir.dfs,ir.kind,ir.wI,ir.rd⟩ v' u true rfl rfl Xk h3' hT') (by intro e;cases e),hS.2⟩,?_⟩;show(bX (_ ::_ ::azj)).Nodup;simp only[bX,hpk]at hn ⊢;exact hn
    ·trivial
   ·rename_i Ld;split
    ·rename_i af' hf;cases hS.1 with
     |wait QF ir A7=>rw[A7]at Ld;cases Ld
     |unw UQ bT=>
      have adn:tryRecover fr (cf ::(Ik++rest))=none:=by
       cases UQ with
       |run QF ir A7=>rw[A7]at Ld;cases Ld
       |ret QF ir A7 UA=>simp[tryRecover,hkd,UA]
       |pan QF ir v' u r' A7=>rw[A7]at Ld;cases Ld
      have fI:=PR (P:=P) (cs:=cf ::(Ik++rest)) hm ht ho hw Lc q1 adn;obtain⟨ZB,hpk⟩:=akB.finish (.nili) hf;refine⟨_,cf ::Ik,w,.one fI,μ,G,h0,hM,hH,ZB,hS,?_⟩;show(bX (_ ::_ ::azj)).Nodup;simp only[bX,hpk]at hn ⊢;exact hn
    ·trivial
   ·trivial
  ·trivial
theorem akH(X:Ctx P ρ w0 C){l:List aB}(h0:μ0.le μ)(hM:bC P ρ w0 μ G nx.toNat w)(hH:HSub H G)(hb:CN P ρ μ nt af fr)(h1:af.mode=.run)(hm:fr.mode=.run)
  {ops:Array Oper} {rs:List Nat} (hp:qa P nt ops rs=some l) (ht:fr.todo=.inRegion ops rs ::K) (hk:pP P μ nt k K) (hT:mC ρ μ nt af.tm fr.tmps) (hS:eZ P ρ C.orc μ G H nx l5 cs) (hn:(bX l5).Nodup) :
  Good P ρ C w0 μ0 rest (lone fr (cs++rest) w) (match mE C.orc l af.tm H nx with
   |.fin tm h nx=>.next ⟨{af with tm,todo:=k},l5,h,nx⟩
   |.ev r rest tm h nx=>kB C r {af with tm,todo:=.ops rest ::k} {af with tm,todo:=[]} l5 h nx):=by
 have key:=Le (P:=P) (ρ:=ρ) (orc:=C.orc) (nt:=nt) (w0:=w0) (cs:=cs++rest) (K:=K) (ops:=ops) X.orc l rs fr w μ G H nx af.tm hp hM hH hT hm ht;cases PN:mE C.orc l af.tm H nx with
 |fin tm' h' nx'=>rw[PN]at key;obtain⟨fg,w',μ',G',s1,s2,s3,s4,s5,s6⟩:=key;exact⟨_,cs,w',s1,uZ (Mu.le_trans h0 s2) s3 s4 ((hb.mono s2).todo _ _ _ _) h1 hm (hk.mono s2) s5 (hS.kept s2 s6) hn⟩
 |ev r l' tm' h' nx'=>
  rw[PN]at key;rcases key with⟨n,rfl⟩|⟨fg,w',μ',G',i,mN,po,ll,o,s1,s2,s3,s4,s5,s6,rfl,s8,s9,s10,s11,s12,s13⟩
  ·trivial
  ·have hE:=Il (P:=P) (nt:=nt) (ops:=ops) (o:=o) (fr:={fr with tmps:=fg,todo:=.inRegion ops (i ::mN) ::K}) s3 (fun k a _ hg=>s5.2 k a hg);refine Good.steps s1 ?_;have hpk:(bX ({af with tm:=tm',todo:=.ops (po ::ll) ::k} ::l5)).Nodup:=by simp only[bX,pk,List.nil_append];exact hn
   exact Re (fr:={fr with tmps:=fg,todo:=.inRegion ops (i ::mN) ::K}) (af:={af with tm:=tm',todo:=.ops (po ::ll) ::k}) X (Mu.le_trans h0 s2) s3 s4 ((hb.mono s2).todo _ _ _ _) h1 hm rfl s9 s10 s11 hE s12 s13
    (.ops po ll ops i mN k K tm' fg s8 (hk.mono s2) s5) (hS.kept s2 s6) hpk s5
theorem Ou(X:Ctx P ρ w0 C){ops:Array Oper}{pl:List aB}{bf:List Nat}{g:Gh}{x0:List IIt}{items:List aS}{kA:SD}{aq:List (Nat×Key×ag)}{rs:List Nat}(h0:μ0.le μ)(hM:bC P ρ w0 μ G nx.toNat w)(hH:HSub H G)(hb:CN P ρ μ nt af fr)(h1:af.mode=.run)(hm:fr.mode=.run)
  (hf:x0.mapM (Gt pl)=some items) (hc:Cg ops pl bf g.L x0=true) (hd:Nf ops kA.ds∧CJ bf kA.lD=true) (ht:fr.todo=.inRegion ops rs ::K) (hk:pP P μ nt k K)
  (S:iV P ρ C.orc nt ops pl bf μ G H nx g (fun _=>False) aq af.tm fr.tmps rs) (hS:eZ P ρ C.orc μ G H nx l5 cs) (hn:(sX aq++bX l5).Nodup) :
  Good P ρ C w0 μ0 rest (lone fr (cs++rest) w) (match jA C.orc kA.lD items aq af.tm H nx with
   |.fin tm h nx=>.next ⟨{af with tm,todo:=k},l5,h,nx⟩
   |.ev r rest aq tm h nx=>J9 kA.ds tm fun tm'=>kB C r {af with tm,todo:=.staged rest kA aq ::k} {af with tm:=tm',todo:=[]} l5 h nx):=by
 have key:=ZE (P:=P) (ρ:=ρ) (orc:=C.orc) (nt:=nt) (w0:=w0) (cs:=cs++rest) (K:=K) (ops:=ops) (pl:=pl) (bf:=bf) hd.2 X.orc x0.length x0 items rs g fr w μ G H nx af.tm aq (dQ _) hf hc hM hH S hm ht;have auC:∀x∈sX aq,x∉bX l5:=fun x hx Zm=>(List.nodup_append.1 hn).2.2 x hx x Zm rfl;have ZA:=(List.nodup_append.1 hn).2.1;cases PN:jA C.orc kA.lD items aq af.tm H nx with
 |fin tm' h' nx'=>rw[PN]at key;obtain⟨fg,w',μ',G',s1,s2,s3,s4,s5,s6⟩:=key;exact⟨_,cs,w',s1,uZ (Mu.le_trans h0 s2) s3 s4 ((hb.mono s2).todo _ _ _ _) h1 hm (hk.mono s2) s5 (hS.asN s2 s6 auC) ZA⟩
 |ev r Ka pend' tm' h' nx'=>
  rw[PN]at key;simp only[sB];rcases key with⟨n,rfl⟩|⟨fg,w',μ',G',g',i,po,o,ad,os,UR,nB,mN,s1,s2,s3,s4,rfl,s6,s7,s8,s9,s10,s11,s12,S',s14,s15,s16,s17,s18,s19,s20⟩
  ·trivial
  ·have hsl:=S'.Rf s9 s10 s14;have hE:=Il (P:=P) (nt:=nt) (ops:=ops) (o:=o) (fr:={fr with tmps:=fg,todo:=.inRegion ops (i ::mN) ::K}) s3 hsl;refine Good.steps s1 ?_;have hpk:(bX ({af with tm:=tm',todo:=.staged (.H i po ad ::.R os ::nB) kA pend' ::k} ::l5)).Nodup:=by
    simp only[bX,pk];refine List.nodup_append.2 ⟨S'.nk,ZA,?_⟩;rintro x hx y hy rfl;rcases s20 x hx with h|h
    ·exact auC x h hy
    ·exact absurd (asM hS x hy) (by omega)
   exact Re (fr:={fr with tmps:=fg,todo:=.inRegion ops (i ::mN) ::K}) (af:={af with tm:=tm',todo:=.staged (.H i po ad ::.R os ::nB) kA pend' ::k}) X (Mu.le_trans h0 s2) s3 s4 ((hb.mono s2).todo _ _ _ _) h1 hm rfl s14 s15 s16 hE s17 s18
    (.staged ops pl bf g' i po ad os UR nB kA pend' k K tm' fg mN s6 s7 s8 s9 s10 hd (hk.mono s2) s11 s12 S') (hS.asN s2 s19 auC) hpk (S'.erase hd.1)
end
section
variable{P:Program}{nt:Nat}{ops:Array Oper}
theorem akc{pl:List aB}{x:IIt}{y:aS}(h:Gt pl x=some y):iOf y=x:=by
 cases x with
 |L i=>obtain⟨a,_,rfl⟩:=map_some h;rfl
 |A i=>obtain⟨a,_,rfl⟩:=map_some h;rfl
 |H i l=>obtain⟨a,_,rfl⟩:=map_some h;rfl
 |R os=>
  obtain⟨l,hl,rfl⟩:=map_some h;show IIt.R (l.map (·.1))=IIt.R os;congr 1
  induction os generalizing l with
  |nil=>simp at hl;subst hl;rfl
  |cons i os ih=>obtain⟨b,r,e1,e2,rfl⟩:=ly hl;obtain⟨o,_,rfl⟩:=map_some e1;simp[ih r e2 (by simp[Gt,e2])]
theorem acO{pl:List aB}:∀{x0:List IIt} {items:List aS},x0.mapM (Gt pl)=some items→items.map iOf=x0
 | [],items,h=>by simp at h;subst h;rfl
 |x ::x0,items,h=>by obtain⟨y,r,e1,e2,rfl⟩:=ly h;simp[akc e1,acO e2]
theorem Uv:∀{pl:List aB} {po:aB} {d:Key},po∈pl→po.dst=some d→d∈dstsOf pl
 | [],_,_,h,_=>by cases h
 |o ::l,po,d,h,hd=>by
  rcases M4.1 h with e|e
  ·subst e;simp[dstsOf,hd]
  ·have:=Uv e hd;simp only[dstsOf];split
   ·exact List.mem_cons_of_mem _ this
   ·exact this
theorem V3{pc:aL}(h:K8 P nt ops false=some pc):∃l,qa P nt ops (List.range ops.size)=some l∧pc=.ops l:=by
 unfold K8 at h;split at h
 ·cases h
 ·rename_i l hl;simp only[cond_false,fa]at h;exact⟨l,hl,h.symm⟩
theorem Zj{pc:aL}(h:K8 P nt ops true=some pc):∃pl x0 items lD,pc=.staged items ⟨dstsOf pl,lD⟩∧Wd P nt ops pl (sV ops)∧x0.mapM (Gt pl)=some items∧Cg ops pl (sV ops) 0 x0=true∧Nf ops (dstsOf pl)∧CJ (sV ops) lD=true:=by
 unfold K8 at h;split at h
 ·cases h
 ·rename_i l hl;simp only[cond_true]at h;split at h
  ·rename_i st fI;split at h
   ·rename_i st' asn;cases wQ:(auw ops l (sV ops) (st'.map iOf)&&CJ (sV ops) (Ij (l.zip (sV ops)) (l.zip (sV ops)) 0))with
    |false=>rw[wQ]at h;cases h
    |true=>
     rw[wQ]at h;simp only[cond_true,fa]at h;simp only[auw,nn]at wQ;obtain⟨wQ,acL⟩:=wQ;have ao1:Wd P nt ops l (sV ops):=⟨hl,wQ.1.1,wQ.1.2⟩;refine⟨l,st'.map iOf,st',_,h.symm,ao1,by rw[acO asn];exact asn,wQ.2,?_,acL⟩;intro j t hj;obtain⟨o,po,ho,Xh,aJS⟩:=ao1.at (NX hj);obtain⟨_,_,hd⟩:=j5 Xh;have hjd:o.dst=some t:=by simpa[qc,ho]using hj
     rcases hd with⟨e,_⟩|⟨k,e1,e2,_⟩
     ·rw[e]at hjd;cases hjd
     ·rw[hjd]at e1;simp only[fa]at e1;exact⟨k,Uv (List.mem_of_getElem? aJS) e2,e1.symm⟩
   ·cases h
  ·cases h
end
section
variable{P:Program}{ρ:Nat→Int}{C:bU}{nt:Nat}{w0:W0}{w:World}{μ0 μ:Mu}{G:Key→Option ag}{H:T ag}{nx:Key}{rest cs:List Frame}{fr:Frame}{af:oG}{l5:List oG}{K:List Item}{k:List dJ}
theorem iV.init{ops:Array Oper}{pl:List aB}{bf:List Nat}(R:Wd P nt ops pl bf){tm:T AV}{tmps:Array Value}(hT:mC ρ μ nt tm tmps){rs:List Nat}(hv:Qt ops (fun _=>false) rs) :
  iV P ρ C.orc nt ops pl bf μ G H nx {L:=0,D:=fun _=>false,a0:=fun k=>ae k tm,val:=fun _=>none} (fun _=>False) [] tm tmps rs:=by
 refine⟨R,hv,?_,?_,?_,?_,?_,?_,hT.1,?_,?_,?_,?_,?_,?_⟩
 ·intro i o h;cases h
 ·intro i h;cases h
 ·intro i h;rw[show hasB 0 i=false from Im i]at h;cases h
 ·intro i h;rw[show hasB 0 i=false from Im i]at h;cases h
 ·intro k j h;rw[show hasB 0 j=false from Im j]at h;cases h
 ·intro k _;rfl
 ·intro k j a h;cases h
 ·intro k a _ h;exact hT.2 k a h
 ·intro i h;rw[show hasB 0 i=false from Im i]at h;cases h
 ·intro x h;cases h
 ·exact List.nodup_nil
 ·exact List.nodup_nil
theorem Zk(hM:bC P ρ w0 μ G nx.toNat w){x:Operand}{px:PX}{a:AV}(hp:pX P nt x=some px)(ha:px.at af.tm=some a)(hT:mC ρ μ nt af.tm fr.tmps):aY ρ μ a (fr.eval x):=
 ah9 hM hp ha fun t k _ hk hg=>by rw[←hk];exact hT.2 k a hg
theorem Te(hM:bC P ρ w0 μ G nx.toNat w)(hH:HSub H G){b:Key}{st st':LS}{pd pd':Option aL}{fn:Nat}{tm:T AV}{res:List RV}{params:List Key}{as bd:aL}{dfs:Key}(hb:ae b H=some (.loop st pd fn tm res params as bd dfs))
  {l:Loc} (hl:μ b=some l) {L:Loop} (hL:w.heap[l.c]?=some (.loop L)) {s:LoopState} {pc:Option Code} (hs:agy st' s) (hpd:(∀n,Wb P n pd L.pending)→∀n,Wb P n pd' pc) :
  let w':={w with heap:=w.heap.setIfInBounds l.c (.loop {L with state:=s,pending:=pc})}
  let B':=ag.loop st' pd' fn tm res params as bd dfs
  ∃μ' G',μ.le μ'∧bC P ρ w0 μ' G' nx.toNat w'∧HSub (au b (some B') H) G'∧Kept H (au b (some B') H) nx nx μ μ' G G':=by
 intro w' B';have hg:=hH _ _ hb;obtain⟨l',L',ntl,ld,e0,e0',e1,e2,e3,e4,e5,e5',e6,e7,e8,e9,e10⟩:=La hM hg;rw[hl]at e0;cases e0;rw[hL]at e0';cases e0';have IN:l.c<w.heap.size:=hM.Cr b l hl;have td:w0.heap.size≤l.c:=(hM.own b _ l hg hl).resolve_left (by simp[ag.ro]);have hle:μ.le (μ.put b l):=Mu.Ee (.inr hl);obtain⟨m1,m2⟩:=hM.put (w':=w') b B' l (.loop {L with state:=s,pending:=pc}) (nx':=nx.toNat) (.inr hl)
  ⟨rfl,rfl,rfl,by simp[w'],fun j hj _=>by show(w.heap.setIfInBounds l.c _)[j]?=_;rw[zqn (Ne.symm hj)],dQ _⟩
  (by show(w.heap.setIfInBounds l.c _)[l.c]?=_;simp[IN])
  (.loop st' pd' fn ntl tm res params as bd dfs ld l _ hs (hpd e2) e3 (e4.mono hle) e5 e5' e6 e7 (hle.l _ _ e8) e9 e10)
  (fun b' B' l' g m' ne=>hM.sep b' b B' _ l' l g hg m' hl ne) td (dQ _) (hM.new b l hl) (hM.lo0 hg hl rfl)
 exact⟨_,_,m1,m2,hH.set b (some B'),zi hb hl _ _⟩
inductive asA(P:Program)(nt:Nat)(fr:Frame):Option aL→Option Code→Prop
 |fin (h:fr.todo=[]):asA P nt fr none none
 |ret (K:List Item) (h:fr.todo=.code .ret ::K):asA P nt fr (some .ret) (some .ret)
 |exit (id:Nat) (K:List Item) (h:fr.todo=.code (.exit id) ::K) (he:exitTo id K=none):asA P nt fr (some (.exit id)) (some (.exit id))
theorem Zl{l:Nat}{L:Loop}(h:w.heap[l]?=some (.loop L))(j:Option Code):(Instr.endRound l j).run P w=.ok (.bool j.isNone) {w with heap:=w.heap.setIfInBounds l (.loop {L with state:=if j.isNone then .ready else .done,pending:=j})}:=by simp[Instr.endRound,Instr.getLoop,getObj,setObj,Sem.run,h]
theorem Tf{l:Nat}{L:Loop}(h:w.heap[l]?=some (.loop L))(hs:L.state=.ready):(Instr.beginRound l).run P w=.ok () {w with heap:=w.heap.setIfInBounds l (.loop {L with state:=.busy,pending:=L.pending})}:=by simp[Instr.beginRound,Instr.getLoop,getObj,setObj,Sem.run,h,hs]
theorem aaH{l:Nat}{L:Loop}(h:w.heap[l]?=some (.loop L))(hs:L.state≠.busy):(Instr.endLoop l).run P w=.ok L.pending {w with heap:=w.heap.setIfInBounds l (.loop {L with state:=.exhausted,pending:=L.pending})}:=by simp[Instr.endLoop,Instr.getLoop,getObj,setObj,Sem.run,h,hs]
theorem Kw(X:Ctx P ρ w0 C){j:Option aL}{jc:Option Code}(hj:asA P nt fr j jc)(h0:μ0.le μ)(hM:bC P ρ w0 μ G nx.toNat w)(hH:HSub H G)(hb:CN P ρ μ nt af fr)(h1:af.mode=.run)(hm:fr.mode=.run)
  (hk:af.todo=[]∨(∃k,af.todo=.code .ret ::k)∨∃id k,af.todo=.code (.exit id) ::k) (hjr:j=some .ret→∃k,af.todo=.code .ret ::k) (hjn:j=none→af.todo=[]) (hT:mC ρ μ nt af.tm fr.tmps) (hS:eZ P ρ C.orc μ G H nx l5 cs) (hn:(bX l5).Nodup) :
  Good P ρ C w0 μ0 rest (lone fr (cs++rest) w) (Kh j af l5 H nx):=by
 unfold Kh;split
 ·rename_i hrn;have Lc:fr.roundOf=none:=by
   have:=hb.wI;rw[hrn]at this;cases hh:fr.roundOf with
   |none=>rfl
   |some x=>rw[hh]at this;exact this.elim
  cases hj with
  |fin ht=>refine⟨_,cs,w,.one (awG hm ht Lc),μ,G,h0,hM,hH,.ret nt ⟨hb.fn,hb.fnr,hb.dfs,hb.kind,hb.wI,hb.rd⟩ rfl rfl (.inl (hjn rfl)) hT,hS,?_⟩;show(bX (_ ::l5)).Nodup;simp only[bX,pk,hjn rfl,List.nil_append];exact hn
  |ret KK ht=>obtain⟨kk,AP⟩:=hjr rfl;refine⟨_,cs,w,.one (awH hm ht Lc),μ,G,h0,hM,hH,.ret nt ⟨hb.fn,hb.fnr,hb.dfs,hb.kind,hb.wI,hb.rd⟩ rfl rfl (.inr ⟨kk,AP⟩) hT,hS,?_⟩;show(bX (_ ::l5)).Nodup;simp only[bX,pk,AP,List.nil_append];exact hn
  |exit id KK ht he=>trivial
 ·rename_i key hrn;cases l5 with
  |nil=>trivial
  |cons c l5=>
  cases cs with
  |nil=>exact hS.elim
  |cons cf cs=>
  have hdf:af.GG=false:=hb.rd (by rw[hrn];intro e;cases e);have M6:fr.kind=.normal:=by rw[hb.kind,hdf];rfl
  have Lc:∃lc,μ key=some lc∧fr.roundOf=some lc.c:=by
   have:=hb.wI;rw[hrn]at this;cases hh:fr.roundOf with
   |none=>rw[hh]at this;exact this.elim
   |some x=>rw[hh]at this;obtain⟨lc,e1,e2⟩:=this;exact⟨lc,e1,by rw[e2]⟩
  obtain⟨lc,zh,Lc⟩:=Lc;simp only;split
  ·rename_i st pd fn tm res params as bd dfs yh;simp only[sTCe];obtain⟨lc',L,ntl,ld,e0,e0',e1,e2,e3,e4,e5,e5',e6,e7,e8,e9,e10⟩:=La hM (hH _ _ yh);rw[zh]at e0;cases e0;split
   ·rename_i c' hf;have hpd:(∀n,Wb P n pd L.pending)→∀n,Wb P n j jc:=by
     intro _ QF;cases hj with
     |fin ht=>trivial
     |ret KK ht=>exact(rfl:jj P QF .ret=some .ret)
     |exit id KK ht he=>exact(rfl:jj P QF (.exit id)=some (.exit id))
    have hsr:agy (match (generalizing:=false) j with|none=>LS.ready|some _=>LS.done) (if jc.isNone then .ready else .done):=by cases hj<;>trivial
    obtain⟨μ',G',g1,g2,g3,g4⟩:=Te hM hH yh zh e0' hsr hpd;have fp:=Zl (P:=P) e0' jc;have fI:step P (lone fr (cf ::cs++rest) w)=.next (lone (cf.finish (.bool jc.isNone)) (cs++rest) {w with heap:=w.heap.setIfInBounds lc.c (.loop {L with state:=if jc.isNone then .ready else .done,pending:=jc})}):=by
     cases hj with
     |fin ht=>exact TP hm ht Lc M6 fp
     |ret KK ht=>exact YI hm ht Lc M6 fp
     |exit id KK ht he=>exact VC hm ht he Lc M6 fp
    have hS':=hS.kept g1 g4;have hbv:aY ρ μ' (.bool (match (generalizing:=false) j with|none=>true|some _=>false)) (.bool jc.isNone):=by cases hj<;>exact .bool _
    obtain⟨q1,q2⟩:=hS'.1.finish hbv hf;refine⟨_,cs,_,.one fI,μ',G',Mu.le_trans h0 g1,g2,g3,q1,hS'.2,?_⟩;show(bX (c' ::l5)).Nodup;simp only[bX,q2]at hn ⊢;exact hn
   ·trivial
  ·trivial
theorem V5{fn:FuncId}{tmps:Array Value}{params:Array Tmp}{as bd:Code}:(Instr.enterLoop fn tmps params as bd none).run P w =
  .ok (w.heap.size+1,[⟨.collected w.heap.size,#[]⟩]) ((w.alloc (.deferred (some []))).alloc (.loop {state:=.ready,pending:=none,fn,tmps,params,assign:=as,body:=bd,defers:=w.heap.size})):=by
 simp[Instr.enterLoop,newObj,Sem.run]
theorem Uw{nt:Nat}:∀{l:List Nat} {ks:List Key},l.mapM (Je nt)=some ks→Xg ks l∧∀k∈ks,k.toNat<nt
 | [],ks,h=>by simp at h;subst h;exact⟨rfl,fun _ h=>by cases h⟩
 |t ::l,ks,h=>by
  obtain⟨k,r,e1,e2,rfl⟩:=ly h;obtain⟨h1,h2⟩:=Uw e2;obtain⟨h3,h4⟩:=sj e1;refine⟨?_,fun q hq=>?_⟩
  ·show(k ::r).map Key.toNat=t ::l;rw[zqx,h3,h1]
  ·rcases M4.1 hq with e|e
   ·rw[e,h3];exact h4
   ·exact h2 q e
theorem ai4(X:Ctx P ρ w0 C){pc:aL}{c:Code}(hc:jj P nt c=some pc)(h0:μ0.le μ)(hM:bC P ρ w0 μ G nx.toNat w)(hH:HSub H G)(hb:CN P ρ μ nt af fr)(h1:af.mode=.run)(hm:fr.mode=.run)
  (Ec:af.todo=.code pc ::k) (ht:fr.todo=.code c ::K) (hk:pP P μ nt k K) (hT:mC ρ μ nt af.tm fr.tmps) (hS:eZ P ρ C.orc μ G H nx l5 cs) (hn:(bX l5).Nodup) :
  Good P ρ C w0 μ0 rest (lone fr (cs++rest) w) (cV C af l5 H nx):=by
 have go:∀(k':List dJ) (K':List Item),pP P μ nt k' K'→step P (lone fr (cs++rest) w)=.next (lone {fr with todo:=K'} (cs++rest) w)→Good P ρ C w0 μ0 rest (lone fr (cs++rest) w) (.next ⟨{af with todo:=k'},l5,H,nx⟩):=by intro k' K' IC fI;exact⟨_,cs,w,.one fI,uZ h0 hM hH (hb.todo af.tm k' fr.tmps K') h1 hm IC hT hS hn⟩
 unfold cV;rw[Ec];cases c with
 |skip=>simp only[jj,fa]at hc;subst hc;exact go _ _ hk (arB hm ht)
 |region id ops draw=>
  simp only[jj]at hc;cases draw with
  |false=>obtain⟨l,hl,rfl⟩:=V3 hc;exact go _ _ (.cons _ _ _ _ (.ops _ _ _ hl) hk) (ajp hm ht)
  |true=>obtain⟨pl,x0,items,lD,rfl,ao1,hf,aJU,hd,acL⟩:=Zj hc;obtain⟨t,fI⟩:=arE (P:=P) (cs:=cs++rest) (w:=w) hm ht;rw[X.mix]at fI;have hv:=Ux ao1.down t;refine⟨_,cs,_,.one fI,μ,G,h0,hM.drawn _ (Nat.le_succ _),hH,.run nt (hb.todo af.tm _ fr.tmps _) h1 hm (.ready ops pl _ _ x0 items _ [] k K _ _ _ hf aJU ⟨hd,acL⟩ hk (iV.init ao1 hT hv)),hS,?_⟩;show(bX (_ ::l5)).Nodup;simp only[bX,pk,List.map_nil,List.nil_append];exact hn
 |seq a b=>
  simp only[jj]at hc;split at hc
  ·rename_i a' b' ha ir;cases hc;exact go _ _ (.cons _ _ _ _ (.code _ _ ha) (.cons _ _ _ _ (.code _ _ ir) hk)) (awF hm ht)
  ·cases hc
 |cond x a b=>
  simp only[jj]at hc;split at hc
  ·rename_i x' a' b' hx ha ir;cases hc;simp only;split
   ·rename_i hxa;have hv:=Zk hM hx hxa hT;have he:fr.eval x=.bool true:=by generalize fr.eval x=u at hv;cases hv;rfl
    exact go _ _ (.cons _ _ _ _ (.code _ _ ha) hk) (ahx hm ht he)
   ·rename_i hxa;have hv:=Zk hM hx hxa hT;have he:fr.eval x=.bool false:=by generalize fr.eval x=u at hv;cases hv;rfl
    exact go _ _ (.cons _ _ _ _ (.code _ _ ir) hk) (ahx hm ht he)
   ·trivial
  ·cases hc
 |block id a=>
  simp only[jj]at hc;split at hc
  ·rename_i a' ha;cases hc;exact go _ _ (.cons _ _ _ _ (.code _ _ ha) (.cons _ _ _ _ (.inBlock _) hk)) (ank hm ht)
  ·cases hc
 |loop a=>
  simp only[jj]at hc;split at hc
  ·rename_i a' ha;cases hc;exact go _ _ (.cons _ _ _ _ (.code _ _ ha) (.cons _ _ _ _ (.inLoop _ _ ha) hk)) (arC hm ht)
  ·cases hc
 |rangeFunc f params a b=>
  simp only[jj]at hc;split at hc
  ·rename_i f' ps a' b' hf hps ha ir;cases hc;simp only;split
   ·rename_i g first cap hrn hfa
    simp only[sTCe];rcases GF X g (first ++ .yld nx.succ ::cap) false (.bad 61 ⟨af,l5,au nx.succ (some (.loop .ready none af.fn af.tm af.res ps a' b' nx)) (au nx (some (.dfs false)) H),nx⟩)
     (fun jk=>.next ⟨jk,{af with todo:=.inRF nx.succ ::k,dfs:=.coll nx ::af.dfs} ::l5,au nx.succ (some (.loop .ready none af.fn af.tm af.res ps a' b' nx)) (au nx (some (.dfs false)) H),nx.succ.succ⟩)with e|⟨p,hp,e⟩
    ·rw[e];trivial
    ·rw[e];have Lc:fr.roundOf=none:=by
      have:=hb.wI;rw[hrn]at this;cases hh:fr.roundOf with
      |none=>rfl
      |some x=>rw[hh]at this;exact this.elim
     obtain⟨fn,c,f1,f2,f3,f4,f5⟩:=wJ hp;have hv:=Zk hM hf hfa hT;obtain⟨vs,ws,ev,hv1,hv2⟩:=ahd hv;have hs1:=kTSu nx;have hs2:=kTSu nx.succ;obtain⟨m1,M1⟩:=hM.alloc nx (.dfs false) (.deferred (some [])) 0 (nx':=nx.succ.toNat) hM.qY (.dfs false _) (by omega) (by omega);have hu1:(μ.put nx ⟨w.heap.size,0,0⟩) nx=some ⟨w.heap.size,0,0⟩:=Mu.eG _ _ _;have yU:(w.alloc (.deferred (some []))).heap.size=w.heap.size+1:=by simp
     obtain⟨hkr,hkl⟩:=Uw hps;have hn1:(μ.put nx ⟨w.heap.size,0,0⟩) nx.succ=none:=M1.qY;have Pg:Mu.le (μ.put nx ⟨w.heap.size,0,0⟩) ((μ.put nx ⟨w.heap.size,0,0⟩).put nx.succ ⟨(w.alloc (.deferred (some []))).heap.size,0,0⟩):=Mu.Ee (.inl hn1);obtain⟨m2,M2⟩:=M1.alloc nx.succ (.loop .ready none af.fn af.tm af.res ps a' b' nx) (.loop {state:=.ready,pending:=none,fn:=fr.fn,tmps:=fr.tmps,params,assign:=a,body:=b,defers:=w.heap.size}) 0 (nx':=nx.succ.succ.toNat) hn1
      (.loop .ready none af.fn nt af.tm af.res ps a' b' nx ⟨w.heap.size,0,0⟩ _ _ trivial (fun _=>trivial) hb.fn (hT.mono (Mu.le_trans m1 Pg)) hkr hkl ha ir (Pg.l _ _ hu1) rfl hb.fnr) (by omega) (by omega)
     have hK:Kept H (au nx.succ (some (.loop .ready none af.fn af.tm af.res ps a' b' nx)) (au nx (some (.dfs false)) H)) nx nx.succ.succ μ _ G _:=(Iz (H:=H) (nx:=nx) (μ:=μ) (G:=G) ⟨w.heap.size,0,0⟩ (some (.dfs false)) (some (.dfs false))).trans
      (Iz (nx:=nx.succ) ⟨(w.alloc (.deferred (some []))).heap.size,0,0⟩ (some (.loop .ready none af.fn af.tm af.res ps a' b' nx)) (some (.loop .ready none af.fn af.tm af.res ps a' b' nx)))
     have hle:=Mu.le_trans m1 m2;have fI:=YJ (P:=P) (cs:=cs++rest) (w:=w) hm ht Lc V5 ev f1 (by rw[f2];rfl) f3;have hu2:((μ.put nx ⟨w.heap.size,0,0⟩).put nx.succ ⟨(w.alloc (.deferred (some []))).heap.size,0,0⟩) nx.succ=some ⟨(w.alloc (.deferred (some []))).heap.size,0,0⟩:=Mu.eG _ _ _;refine⟨_,{fr with todo:=.inRangeFunc (w.heap.size+1) ::K,defers:=[⟨.collected w.heap.size,#[]⟩]++fr.defers} ::cs,_,.one fI,_,_,Mu.le_trans h0 hle,M2,(hH.set nx _).set nx.succ _,zb hp ?_ false,⟨?_,hS.kept hle hK⟩,?_⟩
     ·have hy:aY ρ ((μ.put nx ⟨w.heap.size,0,0⟩).put nx.succ ⟨(w.alloc (.deferred (some []))).heap.size,0,0⟩) (.yld nx.succ) (.func (.yield (w.heap.size+1)) #[] #[]):=.yld _ _ _ hu2 yU.symm;have:=(hv1.mono hle).append (aA.cons _ _ _ _ hy (hv2.mono hle));simpa using this
     ·refine .wait nt ⟨hb.fn,hb.fnr,⟨⟨_,m2.l _ _ hu1,rfl⟩,hb.dfs.mono hle⟩,hb.kind,?_,hb.rd⟩ h1 hm ?_
      ·have:=hb.wI;rw[hrn,Lc]at this;show aBX _ af.wI fr.roundOf;rw[hrn,Lc];trivial
      ·have:=Lb.rf (P:=P) (ρ:=ρ) (orc:=C.orc) (nt:=nt) (G:=jv (jv G nx (some (ag.dfs false))) nx.succ (some (.loop .ready none af.fn af.tm af.res ps a' b' nx))) (H:=au nx.succ (some (.loop .ready none af.fn af.tm af.res ps a' b' nx)) (au nx (some (.dfs false)) H)) (nx:=nx.succ.succ) nx.succ _ k K af.tm fr.tmps hu2 (hk.mono hle) (hT.mono hle);simp only[yU]at this ⊢;exact this
     ·show(bX (_ ::_ ::l5)).Nodup;simp only[bX,pk,List.nil_append];exact hn
   ·trivial
  ·cases hc
 |exit id=>
  simp only[jj,fa]at hc;subst hc;obtain⟨x1,x2⟩:=agd (id:=id) hk;simp only;split
  ·rename_i k' IC;obtain⟨K',e1,e2⟩:=x1 k' IC;exact go _ _ e2 (arD hm ht e1)
  ·rename_i IC;exact Kw X (.exit id K ht (x2 IC)) h0 hM hH hb h1 hm (.inr (.inr ⟨id,k,Ec⟩)) (by intro e;cases e) (by intro e;cases e) hT hS hn
 |ret=>simp only[jj,fa]at hc;subst hc;exact Kw X (.ret K ht) h0 hM hH hb h1 hm (.inr (.inl ⟨k,Ec⟩)) (fun _=>⟨k,Ec⟩) (by intro e;cases e) hT hS hn
 |scope a=>
  simp only[jj]at hc;split at hc
  ·rename_i a' ha;cases hc;exact go _ _ (.cons _ _ _ _ (.code _ _ ha) (.cons _ _ _ _ (.scope _) hk)) (anl hm ht)
  ·cases hc
 |label l=>simp only[jj,fa]at hc;subst hc;exact go _ _ hk (anm hm ht)
 |goto l=>simp[jj]at hc
 |refuse s=>simp[jj]at hc
end
section
variable{P:Program}{ρ:Nat→Int}{C:bU}{nt:Nat}{w0:W0}{w:World}{μ0 μ:Mu}{G:Key→Option ag}{H:T ag}{nx:Key}{rest cs:List Frame}{fr:Frame}{af:oG}{l5:List oG}{K:List Item}{k:List dJ}
theorem amF(X:Ctx P ρ w0 C)(h0:μ0.le μ)(hM:bC P ρ w0 μ G nx.toNat w)(hH:HSub H G)(hb:CN P ρ μ nt af fr)(h1:af.mode=.run)(hm:fr.mode=.run)
  (hTd:ZD P ρ C.orc μ G H nx nt af.todo af.tm fr.todo fr.tmps) (hS:eZ P ρ C.orc μ G H nx l5 cs) (hn:(bX (af ::l5)).Nodup) :
  Good P ρ C w0 μ0 rest (lone fr (cs++rest) w) (cV C af l5 H nx):=by
 generalize Ec:af.todo=AK at hTd;generalize htt:af.tm=TM at hTd;generalize ht:fr.todo=FK at hTd;generalize hft:fr.tmps=FT at hTd;cases hTd with
 |plain k0 K0 tm tmps hk hT=>
  subst htt hft;have hn:(bX l5).Nodup:=(List.nodup_append.1 hn).2.1;cases hk with
  |nil=>unfold cV;rw[Ec];exact Kw X (.fin ht) h0 hM hH hb h1 hm (.inl Ec) (by intro e;cases e) (fun _=>Ec) hT hS hn
  |cons a x k K h hk=>
   have go:∀(k':List dJ) (K':List Item),pP P μ nt k' K'→step P (lone fr (cs++rest) w)=.next (lone {fr with todo:=K'} (cs++rest) w)→Good P ρ C w0 μ0 rest (lone fr (cs++rest) w) (.next ⟨{af with todo:=k'},l5,H,nx⟩):=by intro k' K' IC fI;exact⟨_,cs,w,.one fI,uZ h0 hM hH (hb.todo af.tm k' fr.tmps K') h1 hm IC hT hS hn⟩
   cases h with
   |code pc c h=>exact ai4 X h h0 hM hH hb h1 hm Ec ht hk hT hS hn
   |inBlock id=>unfold cV;rw[Ec];exact go _ _ hk (ad7 hm ht)
   |scope c=>unfold cV;rw[Ec];exact go _ _ hk (ad8 hm ht)
   |inLoop pc c h=>unfold cV;rw[Ec];exact go _ _ (.cons _ _ _ _ (.code _ _ h) (.cons _ _ _ _ (.inLoop _ _ h) hk)) (ai5 hm ht)
   |ops l ops rest h=>unfold cV;rw[Ec];exact akH X h0 hM hH hb h1 hm h ht hk hT hS hn
   |inRF key l r h hr=>unfold cV;rw[Ec];trivial
   |endRF key l r zh hr=>
    subst hr;unfold cV;rw[Ec];simp only;split
    ·rename_i st pd fn tm res params as bd dfs yh;obtain⟨lc',L,ntl,ld,e0,e0',e1,e2,e3,e4,e5,e5',e6,e7,e8,e9,e10⟩:=La hM (hH _ _ yh);rw[zh]at e0;cases e0;split
     ·trivial
     ·rename_i hnb;simp only[sTCe];have aAh:L.state≠.busy:=by intro e;rw[e]at e1;cases st<;>first|exact e1.elim|exact hnb rfl
      obtain⟨μ',G',g1,g2,g3,g4⟩:=Te (st':=.exhausted) (pd':=pd) (s:=.exhausted) (pc:=L.pending) hM hH yh zh e0' trivial (fun h=>h);have fI:=amG (P:=P) (cs:=cs++rest) hm ht (aaH e0' aAh);have PO:∀(k':List dJ),pP P μ' nt k' ((L.pending.map Item.code).toList++K)→Good P ρ C w0 μ0 rest (lone fr (cs++rest) w) (.next ⟨{af with todo:=k'},l5,au key (some (.loop .exhausted pd fn tm res params as bd dfs)) H,nx⟩):=by intro k' IC;exact⟨_,cs,_,.one fI,uZ (Mu.le_trans h0 g1) g2 g3 ((hb.mono g1).todo af.tm k' fr.tmps _) h1 hm IC (hT.mono g1) (hS.kept g1 g4) hn⟩
      refine PO _ ?_;cases pd with
      |none=>
       cases hp:L.pending with
       |none=>exact hk.mono g1
       |some c=>rw[hp]at e2;exact(e2 0).elim
      |some pc=>
       cases hp:L.pending with
       |none=>rw[hp]at e2;exact(e2 0).elim
       |some c=>rw[hp]at e2;exact .cons _ _ _ _ (.code _ _ (e2 nt)) (hk.mono g1)
    ·trivial
   |beginRound=>
    unfold cV;rw[Ec];simp only;split
    ·trivial
    ·rename_i key hrn;have Lc:∃lc,μ key=some lc∧fr.roundOf=some lc.c:=by
      have:=hb.wI;rw[hrn]at this;cases hh:fr.roundOf with
      |none=>rw[hh]at this;exact this.elim
      |some x=>rw[hh]at this;obtain⟨lc,e1,e2⟩:=this;exact⟨lc,e1,by rw[e2]⟩
     obtain⟨lc,zh,Lc⟩:=Lc;split
     ·rename_i pd fn tm res params as bd dfs yh;simp only[sTCe];obtain⟨lc',L,ntl,ld,e0,e0',e1,e2,e3,e4,e5,e5',e6,e7,e8,e9,e10⟩:=La hM (hH _ _ yh);rw[zh]at e0;cases e0;have avJ:L.state=.ready:=by cases hs:L.state<;>rw[hs]at e1<;>first|rfl|exact e1.elim
      obtain⟨μ',G',g1,g2,g3,g4⟩:=Te (st':=.busy) (pd':=pd) (s:=.busy) (pc:=L.pending) hM hH yh zh e0' trivial (fun h=>h);have fI:=Vm (P:=P) (cs:=cs++rest) hm ht Lc (Tf e0' avJ);exact⟨_,cs,_,.one fI,uZ (Mu.le_trans h0 g1) g2 g3 ((hb.mono g1).todo af.tm k fr.tmps K) h1 hm (hk.mono g1) (hT.mono g1) (hS.kept g1 g4) hn⟩
     ·trivial
 |ready ops pl bf g x0 items kA aq k K tm tmps rs hf hc hd hk S=>subst htt hft;unfold cV;rw[Ec];refine Ou X h0 hM hH hb h1 hm hf hc hd ht hk S hS ?_;simp only[bX,pk,Ec]at hn;exact hn
 |back ops pl bf g os x0 items kA aq k K tm tmps rs hf hc hd hk Zz J8 S=>
  subst htt hft;unfold cV;rw[Ec];simp only;rw[Yj];cases hrc:recheck C.orc kA.lD aq af.tm H os with
  |false=>simp only[cond_false,sB];trivial
  |true=>simp only[cond_true];have S5:=S.WD hd.2 hrc Zz J8;refine Ou X h0 hM hH hb h1 hm hf hc hd ht hk S5 hS ?_;simp only[bX,pk,Ec]at hn;exact hn
theorem NS{b:Nat}(h:w.heap[b]?=some (.deferred (some []))):(Instr.takeDeferred b).run P w=.ok [] {w with heap:=w.heap.setIfInBounds b (.deferred none)}:=by simp[Instr.takeDeferred,getObj,setObj,Sem.run,h]
theorem aaI(X:Ctx P ρ w0 C)(h0:μ0.le μ)(hM:bC P ρ w0 μ G nx.toNat w)(hH:HSub H G)(hb:CN P ρ μ nt af fr)(UQ:Cur P ρ C.orc μ G H nx af fr)(bT:af.mode≠.run)(hS:eZ P ρ C.orc μ G H nx l5 cs)(hn:(bX (af ::l5)).Nodup) :
  Good P ρ C w0 μ0 rest (lone fr (cs++rest) w) (Bi C af l5 H nx):=by
 have hpk:pk af=[]:=by
  cases UQ with
  |run nt hb h1=>exact absurd h1 bT
  |ret nt hb h1 h2 h3 h=>unfold pk;rcases h3 with h3|⟨k,h3⟩<;>rw[h3]
  |pan nt hb v u r h1 h2 hv h3 h=>unfold pk;rw[h3]
 have hfm:fr.mode≠.run:=by
  cases UQ with
  |run nt hb h1=>exact absurd h1 bT
  |ret nt hb h1 h2 h3 h=>rw[h2];intro e;cases e
  |pan nt hb v u r h1 h2 hv h3 h=>rw[h2];intro e;cases e
 have ZA:(bX l5).Nodup:=(List.nodup_append.1 hn).2.1;have aPO:∃nt,CN P ρ μ nt af fr∧mC ρ μ nt af.tm fr.tmps:=by
  cases UQ with
  |run nt hb h1=>exact absurd h1 bT
  |ret nt hb h1 h2 h3 h=>exact⟨nt,hb,h⟩
  |pan nt hb v u r h1 h2 hv h3 h=>exact⟨nt,hb,h⟩
 have move:∀{μ':Mu} {G':Key→Option ag} {H':T ag} (ds:List Xj) (Ds:List Deferred),μ.le μ'→Tg ρ μ' ds Ds→Cur P ρ C.orc μ' G' H' nx {af with dfs:=ds} {fr with defers:=Ds}:=by
  intro μ' G' H' ds Ds hle hd;cases UQ with
  |run nt hb h1=>exact absurd h1 bT
  |ret nt hb h1 h2 h3 h=>exact .ret nt ⟨hb.fn,hb.fnr,hd,hb.kind,(hb.mono hle).wI,hb.rd⟩ h1 h2 h3 (h.mono hle)
  |pan nt hb v u r h1 h2 hv h3 h=>exact .pan nt ⟨hb.fn,hb.fnr,hd,hb.kind,(hb.mono hle).wI,hb.rd⟩ v u r h1 h2 (hv.mono hle) h3 (h.mono hle)
 have hD:=hb.dfs;unfold Bi;split
 ·rename_i b ds hds;split
  ·rename_i yh;simp only[sTCe];rw[hds]at hD;cases UM:fr.defers with
   |nil=>rw[UM]at hD;exact hD.elim
   |cons d Ds=>
   rw[UM]at hD;obtain⟨⟨l,hl,rfl⟩,hD2⟩:=hD;have hg:=hH _ _ yh;obtain⟨l',o,e1,e2,e3⟩:=hM.mD b _ hg;rw[hl]at e1;cases e1;have aqU:w.heap[l.c]?=some (.deferred (some [])):=by cases e3 with|dfs _ _=>exact e2
   have IN:l.c<w.heap.size:=hM.Cr b l hl;have td:w0.heap.size≤l.c:=(hM.own b _ l hg hl).resolve_left (by simp[ag.ro]);obtain⟨m1,m2⟩:=hM.put (w':={w with heap:=w.heap.setIfInBounds l.c (.deferred none)}) b (.dfs true) l (.deferred none) (nx':=nx.toNat) (.inr hl)
    ⟨rfl,rfl,rfl,by simp,fun j hj _=>by show(w.heap.setIfInBounds l.c _)[j]?=_;rw[zqn (Ne.symm hj)],dQ _⟩
    (by show(w.heap.setIfInBounds l.c _)[l.c]?=_;simp[IN])
    (.dfs true l)
    (fun b' B' l' g m' ne=>hM.sep b' b B' _ l' l g hg m' hl ne) td (dQ _) (hM.new b l hl) (hM.lo0 hg hl rfl)
   have fI:=Yk (P:=P) (cs:=cs++rest) hfm UM (NS aqU);refine⟨_,cs,_,.one fI,_,_,Mu.le_trans h0 m1,m2,hH.set b _,move ds Ds m1 (hD2.mono m1),hS.kept m1 (zi yh hl _ _),?_⟩;show(bX (_ ::l5)).Nodup;have:pk {af with dfs:=ds}=pk af:=rfl;simp only[bX,this,hpk,List.nil_append];exact ZA
  ·trivial
 ·rename_i f args ds hds;rcases GF X f args true (.bad 71 ⟨af,l5,H,nx⟩) (fun jk=>.next ⟨jk,{af with dfs:=ds} ::l5,H,nx⟩)with e|⟨p,hp,e⟩
  ·rw[e];trivial
  ·rw[e];rw[hds]at hD;cases UM:fr.defers with
   |nil=>rw[UM]at hD;exact hD.elim
   |cons d Ds=>
   rw[UM]at hD;obtain⟨⟨ws,hd1,hd2⟩,hD2⟩:=hD;obtain⟨fn,c,f1,f2,f3,f4,f5⟩:=wJ hp;have hi:(invoke d.target d.args).run P w=.ok (.enter f (d.args++ws)) w:=by rw[hd1];simp[invoke,tD f1 (by rw[f2];rfl) f3]
   have fI:=aaJ (P:=P) (cs:=cs++rest) hfm UM hd1 hi;refine⟨_,{fr with defers:=Ds} ::cs,w,.one fI,μ,G,h0,hM,hH,zb hp hd2 true,⟨.unw (move ds Ds μ.le_refl hD2) bT,hS⟩,?_⟩;show(bX (_ ::_ ::l5)).Nodup;have:pk {af with dfs:=ds}=pk af:=rfl;simp only[bX,this,hpk,List.nil_append];simp only[pk,List.nil_append];exact ZA
 ·rename_i hds;have UM:fr.defers=[]:=by
   rw[hds]at hD;cases UM:fr.defers with
   |nil=>rfl
   |cons d Ds=>rw[UM]at hD;exact hD.elim
  split
  ·trivial
  ·rename_i Di;cases UQ with
   |run nt hb h1=>exact absurd h1 bT
   |pan nt hb v u r h1=>rw[h1]at Di;cases Di
   |ret nt hb h1 h2 h3 hT=>
    split
    ·rename_i l hl;obtain⟨fn,g1,g2,g3⟩:=hb.fnr.ex;have Rk:P.funcs[fr.fn]?=some fn:=by rw[hb.fn];exact g1
     rw[g2]at g3;obtain⟨vs,q1,q2⟩:=Vn hM hH hT g3 hl;rw[zq];obtain⟨μ1,G1,x1,x2⟩:=K9 (C.nD af.fn) hM hH q2;have q2:=ad9 x2;have hS:=eZ.kept x1.le x1.kept hS;have h0:=Mu.le_trans h0 x1.le;have hM:=x1.M;have hH:=x1.hs;have hb:=hb.mono x1.le;have hT:=hT.mono x1.le;generalize dd (C.nD af.fn) l H=lh at q2 hS hM hH;obtain⟨l1,H1⟩:=lh;simp only at q2 hS hM hH ⊢;clear x1 x2;generalize hvv:Ml vs=v at q1 q2;unfold Lp;cases l5 with
     |nil=>
      cases cs with
      |cons _ _=>exact hS.elim
      |nil=>
      cases hdf:af.GG with
      |true=>trivial
      |false=>
       have M6:fr.kind=.normal:=by rw[hb.kind,hdf];rfl
       exact⟨fr,w,μ1,G1,v,Steps.refl _ _,hb.fn,⟨h2,UM,M6,fn,Rk,q1⟩,q2,h0,hM,hH⟩
     |cons c l5=>
      cases cs with
      |nil=>exact hS.elim
      |cons cf cs=>
      have Th:(bX (c ::l5)).Nodup:=ZA;cases hdf:af.GG with
      |true=>
       have M6:fr.kind=.deferred:=by rw[hb.kind,hdf];rfl
       have fI:=Kx (P:=P) (c:=cf) (cs:=cs++rest) h2 UM M6 Rk q1;simp only[cond_true];cases hS.1 with
       |wait QF ir A7=>rw[A7];trivial
       |unw hc Ld=>
        cases hc with
        |run QF ir A7=>exact absurd A7 Ld
        |ret QF ir A7 UA h3' hT'=>
         have Q9:settle cf.mode=cf.mode:=by rw[UA];rfl
         rw[Q9]at fI;rw[A7];exact⟨_,cs,w,.one fI,μ1,G1,h0,hM,hH,.ret QF ir A7 UA h3' hT',hS.2,Th⟩
        |pan QF ir v' u' r' A7 UA Xk h3' hT'=>
         rw[A7];cases r' with
         |true=>
          have Q9:settle cf.mode=.returning:=by rw[UA];rfl
          rw[Q9]at fI;refine⟨_,cs,w,.one fI,μ1,G1,h0,hM,hH,.ret QF ⟨ir.fn,ir.fnr,ir.dfs,ir.kind,ir.wI,ir.rd⟩ rfl rfl (.inl h3') hT',hS.2,?_⟩;exact Th
         |false=>
          have Q9:settle cf.mode=cf.mode:=by rw[UA];rfl
          rw[Q9]at fI;exact⟨_,cs,w,.one fI,μ1,G1,h0,hM,hH,.pan QF ir v' u' false A7 UA Xk h3' hT',hS.2,Th⟩
      |false=>
       have M6:fr.kind=.normal:=by rw[hb.kind,hdf];rfl
       have fI:=ai6 (P:=P) (c:=cf) (cs:=cs++rest) h2 UM M6 Rk q1;simp only[cond_false];split
       ·rename_i c' hf;obtain⟨k1,k2⟩:=hS.1.finish q2 hf;refine⟨_,cs,w,.one fI,μ1,G1,h0,hM,hH,k1,hS.2,?_⟩;show(bX (c' ::l5)).Nodup;simp only[bX,k2]at Th ⊢;exact Th
       ·trivial
    ·trivial
  ·rename_i v Di;cases UQ with
   |run nt hb h1=>exact absurd h1 bT
   |ret nt hb h1=>rw[h1]at Di;cases Di
   |pan nt hb v' u r h1 h2 hv h3 hT=>
    rw[h1]at Di;simp only[akG.pan.injEq]at Di;obtain⟨rfl,rfl⟩:=Di;obtain⟨fn,g1,g2,g3⟩:=hb.fnr.ex;have Rk:P.funcs[fr.fn]?=some fn:=by rw[hb.fn];exact g1
    cases l5 with
    |nil=>trivial
    |cons c l5=>
     cases cs with
     |nil=>exact hS.elim
     |cons cf cs=>
     simp only;cases hS.1 with
     |unw hc Ld=>
      cases hc with
      |run QF ir A7=>exact absurd A7 Ld
      |ret QF ir A7=>rw[A7];trivial
      |pan QF ir v2 u2 r2 A7=>rw[A7];trivial
     |wait QF ir A7 UA hW=>
      rw[A7];have fI:=aaK (P:=P) (c:=cf) (cs:=cs++rest) (w:=w) h2 UM Rk;have hra:cf.raise [{v:=u,recovered:=false}]={cf with mode:=.panicking [{v:=u,recovered:=false}]}:=by simp[Frame.raise,UA]
      rw[hra]at fI;refine⟨_,cs,w,.one fI,μ,G,h0,hM,hH,.pan QF ⟨ir.fn,ir.fnr,ir.dfs,ir.kind,ir.wI,ir.rd⟩ v' u false rfl rfl hv rfl ?_,hS.2,?_⟩
      ·show mC ρ μ QF (match c.todo with|.staged _ d _ ::_=>J9 d.ds c.tm (fun t=>t)|_=>c.tm) cf.tmps;generalize cf.todo=KK at hW;generalize hTT:cf.tmps=TT at hW;generalize c.todo=kk at hW;generalize c.tm=tt at hW;cases hW with
       |ops o l ops i rest k K tm tmps hp h ht=>exact ht
       |rf key l k K tm tmps hk h ht=>exact ht
       |staged ops pl bf g i po ad os x0 items kA aq k K tm tmps rest yS hf hc hL Wa hd h Zz J8 S=>simp only[sB];exact S.erase hd.1
      ·have Th:(bX (c ::l5)).Nodup:=ZA;show(bX (_ ::l5)).Nodup;simp only[bX,pk,List.nil_append]at Th ⊢;exact(List.nodup_append.1 Th).2.1
  ·trivial
theorem GI(X:Ctx P ρ w0 C){am:AM}(h:FY P ρ C.orc w0 μ0 am fr cs w):Good P ρ C w0 μ0 rest (lone fr (cs++rest) w) (kj C am):=by
 obtain⟨μ,G,h0,hM,hH,hc,hS,hn⟩:=h.ex;unfold kj;split
 ·rename_i hm;cases hc with
  |run nt hb h1 h2 h=>exact amF X h0 hM hH hb h1 h2 h hS hn
  |ret nt hb h1=>rw[h1]at hm;cases hm
  |pan nt hb v u r h1=>rw[h1]at hm;cases hm
 ·rename_i hm;have bT:am.fr.mode≠.run:=fun e=>hm e;have hb:∃nt,CN P ρ μ nt am.fr fr:=by
   cases hc with
   |run nt hb h1 h2 h=>exact⟨nt,hb⟩
   |ret nt hb h1=>exact⟨nt,hb⟩
   |pan nt hb v u r h1=>exact⟨nt,hb⟩
  obtain⟨nt,hb⟩:=hb;exact aaI X h0 hM hH hb hc bT hS hn
theorem CQ(C:bU)(n:Nat)(m:AM):wK C (n+1) m=match kj C m with
  |.next m=>wK C n m
  |r=>r:=rfl
theorem Ag(X:Ctx P ρ w0 C):∀(n:Nat) {am:AM} {fr:Frame} {cs:List Frame} {w:World},FY P ρ C.orc w0 μ0 am fr cs w→Good P ρ C w0 μ0 rest (lone fr (cs++rest) w) (wK C n am)
 |0,am,fr,cs,w,h=>⟨fr,cs,w,Steps.refl _ _,h⟩
 |n+1,am,fr,cs,w,h=>by
  have h1:=GI (rest:=rest) X h;rw[CQ];cases hs:kj C am with
  |next m=>rw[hs]at h1;obtain⟨jk,Ik,w',s1,h2⟩:=h1;exact Good.steps s1 (Ag X n h2)
  |done f v hh nx=>rw[hs]at h1;exact h1
  |pan v hh nx=>trivial
  |bad k m=>trivial
end
noncomputable def ah(f:Nat)(p:gE)(l:List AV):oG:={fn:=f,tm:=iu l .z .nil,todo:=[.code p.body],dfs:=[],mode:=.run,GG:=false,wI:=none,res:=p.res}
section
variable{P:Program}{ρ:Nat→Int}{C:bU}{w0:W0}{w:World}{μ0:Mu}{G0:Key→Option ag}{H H':T ag}{nx nx':Key}
inductive Ev(C:bU)(S:AM→Prop):AM→Prop
 |now {m:AM} (h:S m):Ev C S m
 |step {m m':AM} (e:kj C m=.next m') (h:Ev C S m'):Ev C S m
theorem Ev.bind{S S':AM→Prop}{m:AM}(h:Ev C S m)(hs:∀m',S m'→Ev C S' m'):Ev C S' m:=by
 induction h with
 |now h=>exact hs _ h
 |step e _ ih=>exact .step e ih
theorem Ev.mono{S S':AM→Prop}{m:AM}(h:Ev C S m)(hs:∀m',S m'→S' m'):Ev C S' m:=h.bind fun m' q=>.now (hs m' q)
theorem Ev.same{S:AM→Prop}{m m2:AM}(hs:kj C m=kj C m2)(hn:¬S m2)(h:Ev C S m2):Ev C S m:=by
 cases h with
 |now h=>exact absurd h hn
 |step e h=>exact .step (hs.trans e) h
theorem akI(a b:Nat)(m m1:AM)(h:wK C a m=.next m1):wK C (a+b) m=wK C b m1:=by
 induction a generalizing m with
 |zero=>have:SR.next m=SR.next m1:=h;cases this;rw[Nat.zero_add]
 |succ a ih=>
  rw[CQ]at h;have e:a+1+b=(a+b)+1:=by omega
  rw[e,CQ];cases hs:kj C m with
  |next m2=>rw[hs]at h;exact ih m2 h
  |done f v hh nx=>rw[hs]at h;cases h
  |pan v hh nx=>rw[hs]at h;cases h
  |bad k m=>rw[hs]at h;cases h
theorem Ev.akJ{S:AM→Prop}:∀(n:Nat) {m m':AM},wK C n m=.next m'→Ev C S m'→Ev C S m
 |0,m,m',h,q=>by have:SR.next m=SR.next m':=h;cases this;exact q
 |n+1,m,m',h,q=>by
  rw[CQ]at h;cases hs:kj C m with
  |next m2=>rw[hs]at h;exact .step hs (Ev.akJ n h q)
  |done f v hh nx=>rw[hs]at h;cases h
  |pan v hh nx=>rw[hs]at h;cases h
  |bad k m=>rw[hs]at h;cases h
def To(C:bU)(m m':AM):Prop:=∃n,wK C n m=.next m'
theorem To.refl(m:AM):To C m m:=⟨0,rfl⟩
theorem To.head{m m1 m2:AM}(h:kj C m=.next m1)(h':To C m1 m2):To C m m2:=by obtain⟨n,hn⟩:=h';exact⟨n+1,by rw[CQ,h];exact hn⟩
theorem To.one{m m1:AM}(h:kj C m=.next m1):To C m m1:=.head h (.refl _)
theorem To.trans{m m1 m2:AM}(h:To C m m1)(h':To C m1 m2):To C m m2:=by obtain⟨a,ha⟩:=h;obtain⟨b,hb⟩:=h';exact⟨a+b,by rw[akI a b m m1 ha];exact hb⟩
theorem To.ev{S:AM→Prop}{m m':AM}(h:To C m m')(q:Ev C S m'):Ev C S m:=by obtain⟨n,hn⟩:=h;exact Ev.akJ n hn q
theorem Ev.sound(X:Ctx P ρ w0 C){S:AM→Prop}{rest:List Frame}{am:AM}(h:Ev C S am):∀{fr:Frame} {cs:List Frame} {w:World},FY P ρ C.orc w0 μ0 am fr cs w→
  ∃am' jk Ik w',S am'∧Steps P (lone fr (cs++rest) w) (lone jk (Ik++rest) w')∧FY P ρ C.orc w0 μ0 am' jk Ik w':=by
 induction h with
 |now h=>intro fr cs w hm;exact⟨_,fr,cs,w,h,Steps.refl _ _,hm⟩
 |step e _ ih=>intro fr cs w hm;have hg:=GI (rest:=rest) X hm;rw[e]at hg;obtain⟨jk,Ik,w',s1,h2⟩:=hg;obtain⟨am',MZ,cs2,w2,q,s2,h3⟩:=ih h2;exact⟨am',MZ,cs2,w2,q,s1.trans s2,h3⟩
end
end Go.Sx
