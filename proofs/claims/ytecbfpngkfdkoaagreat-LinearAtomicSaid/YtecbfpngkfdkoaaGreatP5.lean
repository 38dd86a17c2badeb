/- A part of the proof. No condition. -/
import Derived.Test.YtecbfpngkfdkoaaGreatP4
set_option linter.unusedSimpArgs false
set_option linter.unusedVariables false
set_option linter.unusedSectionVars false
namespace Go.Sx
open Go.RowKit
def qF(p:List (Nat×Key×ah)):List Nat:=p.map (·.2.1.toNat)
def Kg(P:Program)(ρ:Nat→Int)(orc:iV)(nt:Nat)(w0:W0)(cs:List Frame)(K:List Item)(ops:Array Oper)(pl:List aC)(bf:List Nat)(fr:Frame)(w:World)(μ:Mu)(G:Key→Option ah)(H:T ah)(nx:Key)(av:List (Nat×Key×ah)):RS→Prop
 |.fin aD h' nx'=>∃dT w' μ' G',Steps P (lone fr cs w) (lone {fr with tmps:=dT,todo:=K} cs w')∧μ.le μ'∧bB P ρ w0 μ' G' nx'.toNat w'∧HSub h' G'∧kI ρ μ' nt aD dT∧Ew (qF av) H h' nx nx' μ μ' G G'
 |.ev r Ky pend' aD h' nx'=>(∃n,r=.bad n)∨∃dT w' μ' G' g' i po o ad os UO l8 kZ,
   Steps P (lone fr cs w) (lone {fr with tmps:=dT,todo:=.inRegion ops (i ::kZ) ::K} cs w')∧μ.le μ'∧bB P ρ w0 μ' G' nx'.toNat w'∧HSub h' G'∧
   Ky=.H i po ad ::.R os ::l8∧pl[i]?=some po∧UO.mapM (Gl pl)=some l8∧BH ops pl bf (Gm (Gh.L g') i) UO=true∧hasB g'.L i=false∧(∀j,j<ops.size→hasB (cW bf i) j=true→hasB g'.L j=true)∧
   (∀i po,(i,po)∈os→pl[i]?=some po∧Gj ops bf i=true∧tR pl i=0)∧(∀j,hasB g'.L j=true→gU pl j=true→hasB (cW bf i) j=true∨∃po,(j,po)∈os)∧
   gW P ρ orc nt ops pl bf μ' G' h' nx' g' (fun i=>gU pl i=true) pend' aD dT (i ::kZ)∧ops[i]?=some o∧OQ P nt ops o=some po∧Region.wanted o (yielded ops dT)=true∧
   aOp orc po.op aD h' nx'=r∧¬DE r∧Ew (qF av) H h' nx nx' μ μ' G G'∧(∀x∈qF pend',x∈qF av∨nx.toNat≤x)
section
variable{P:Program}{ρ:Nat→Int}{orc:iV}{nt:Nat}{ops:Array Oper}{pl:List aC}{bf:List Nat}{w0:W0}{cs:List Frame}{K:List Item}
theorem Kg.step{fr:Frame}{w:World}{μ:Mu}{G:Key→Option ah}{H:T ah}{nx:Key}{av:List (Nat×Key×ah)}{tmps2:Array Value}{rest2:List Nat}{w2:World}{μ2:Mu}{G2:Key→Option ah}{H2:T ah}{bu:Key}{pend2:List (Nat×Key×ah)}{r:RS}
  (fj:Steps P (lone fr cs w) (lone {fr with tmps:=tmps2,todo:=.inRegion ops rest2 ::K} cs w2)) (hle:μ.le μ2) (hk:Ew (qF av) H H2 nx bu μ μ2 G G2) (hE:∀x∈qF pend2,x∈qF av∨nx.toNat≤x)
  (h:Kg P ρ orc nt w0 cs K ops pl bf {fr with tmps:=tmps2,todo:=.inRegion ops rest2 ::K} w2 μ2 G2 H2 bu pend2 r):Kg P ρ orc nt w0 cs K ops pl bf fr w μ G H nx av r:=by
 cases r with
 |fin aD h' nx'=>obtain⟨dT,w',μ',G',s1,s2,s3,s4,s5,s6⟩:=h;exact⟨dT,w',μ',G',fj.trans s1,Mu.le_trans hle s2,s3,s4,s5,hk.trans s6 hE⟩
 |ev rr it pd aD h' nx'=>
  rcases h with hb|⟨dT,w',μ',G',g',i,po,o,ad,os,UO,l8,kZ,s1,s2,s3,s4,s5,s6,s7,s8,s9,s10,s11,s12,s13,s14,s15,s16,s17,s18,s19,s20⟩
  ·exact .inl hb
  ·refine .inr ⟨dT,w',μ',G',g',i,po,o,ad,os,UO,l8,kZ,fj.trans s1,Mu.le_trans hle s2,s3,s4,s5,s6,s7,s8,s9,s10,s11,s12,s13,s14,s15,s16,s17,s18,hk.trans s19 hE,fun x hx=>?_⟩;rcases s20 x hx with h|h
   ·exact hE x h
   ·exact .inr (Nat.le_trans hk.n h)
theorem jH{α β:Type}{f:α→Option β}{a:α}{l:List α}{r:List β}(h:(a ::l).mapM f=some r):∃b r',f a=some b∧l.mapM f=some r'∧r=b ::r':=by
 rw[List.mapM_cons]at h;cases hf:f a with
 |none=>rw[hf]at h;cases h
 |some b=>
  cases hl:l.mapM f with
  |none=>rw[hf]at h;simp[hl]at h
  |some r'=>rw[hf]at h;simp[hl]at h;exact⟨b,r',rfl,rfl,h.symm⟩
theorem Y7(orc:iV)(jK:List (Nat×List Nat))(i:Nat)(o:aC)(rest:List aN)(av:List (Nat×Key×ah))(tm:T AV)(h:T ah)(nx:Key):iH orc jK (.L i o ::rest) av tm h nx=(match cD o.guard tm with
   |none=>.ev (.bad 31) (.L i o ::rest) av tm h nx
   |some false=>zi o.dst (some (.tuple [])) tm fun tm=>iH orc jK rest av tm h nx
   |some true=>match lightOp orc o.op tm (zj (FO i jK) av h)with
    |some v=>zi o.dst (some v) tm fun tm=>iH orc jK rest av tm h nx
    |none=>.ev (.bad 32) (.L i o ::rest) av tm h nx):=rfl
theorem Y8(orc:iV)(jK:List (Nat×List Nat))(i:Nat)(o:aC)(rest:List aN)(av:List (Nat×Key×ah))(tm:T AV)(h:T ah)(nx:Key):iH orc jK (.A i o ::rest) av tm h nx=(match cD o.guard tm with
   |none=>.ev (.bad 33) (.A i o ::rest) av tm h nx
   |some false=>zi o.dst (some (.tuple [])) tm fun tm=>iH orc jK rest av tm h nx
   |some true=>match allocOp o.op tm with
    |some (v,b)=>zi o.dst (some (v nx)) tm fun tm=>iH orc jK rest ((i,nx,b) ::av) tm h nx.succ
    |none=>.ev (.bad 34) (.A i o ::rest) av tm h nx):=rfl
theorem Y9(orc:iV)(jK:List (Nat×List Nat))(i:Nat)(o:aC)(l:List Nat)(rest:List aN)(av:List (Nat×Key×ah))(tm:T AV)(h:T ah)(nx:Key):iH orc jK (.H i o l ::rest) av tm h nx=(Gk l av h fun av h=>match cD o.guard tm with
   |none=>.ev (.bad 35) (.H i o l ::rest) av tm h nx
   |some false=>zi o.dst (some (.tuple [])) tm fun tm=>iH orc jK rest av tm h nx
   |some true=>match aOp orc o.op tm h nx with
    |.val v h nx=>zi o.dst (some v) tm fun tm=>iH orc jK rest av tm h nx
    |r=>.ev r (.H i o l ::rest) av tm h nx):=rfl
theorem Yn(orc:iV)(jK:List (Nat×List Nat))(os:List (Nat×aC))(rest:List aN)(av:List (Nat×Key×ah))(tm:T AV)(h:T ah)(nx:Key):iH orc jK (.R os ::rest) av tm h nx =
  (bif recheck orc jK av tm h os then iH orc jK rest av tm h nx else .ev (.bad 36) (.R os ::rest) av tm h nx):=rfl
theorem aph{os:List Nat}{l:List (Nat×aC)}(h:(os.mapM fun i=>(pl[i]?).map fun o=>(i,o))=some l):(∀i po,(i,po)∈l→i∈os∧pl[i]?=some po)∧(∀i∈os,∃po,(i,po)∈l):=by
 induction os generalizing l with
 |nil=>simp at h;subst h;simp
 |cons a os ih=>
  obtain⟨b,r,h1,h2,rfl⟩:=jH h;obtain⟨po,Xr,rfl⟩:=map_some h1;obtain⟨e1,e2⟩:=ih h2;refine⟨fun i Vq hm=>?_,fun i hi=>?_⟩
  ·rcases GP.1 hm with h|h
   ·cases h;exact⟨by simp,Xr⟩
   ·exact⟨List.mem_cons_of_mem _ (e1 i Vq h).1,(e1 i Vq h).2⟩
  ·rcases GP.1 hi with h|h
   ·subst h;exact⟨po,by simp⟩
   ·obtain⟨q,hq⟩:=e2 i h;exact⟨q,List.mem_cons_of_mem _ hq⟩
theorem ayg{μ:Mu}{G:Key→Option ah}{nx:Key}{w:World}(hM:bB P ρ w0 μ G nx.toNat w):G nx=none:=by
 cases h:G nx with
 |none=>rfl
 |some B=>obtain⟨l,o,h1,_⟩:=hM.BO nx B h;exact absurd (hM.new nx l h1) (Nat.lt_irrefl _)
theorem Xd{α:Type}{f:α→Nat}:∀{l:List α},(l.map f).Nodup→∀x∈l,∀y∈l,f x=f y→x=y
 | [],_,x,hx,_,_,_=>by cases hx
 |a ::l,h,x,hx,y,hy,e=>by
  simp only[ZC,List.nodup_cons]at h;rcases GP.1 hx with Is|Is<;>rcases GP.1 hy with Yq|Yq
  ·rw[Is,Yq]
  ·exact(h.1 (NI.2 ⟨y,Yq,by rw[←e,Is]⟩)).elim
  ·exact(h.1 (NI.2 ⟨x,Is,by rw[e,Yq]⟩)).elim
  ·exact Xd h.2 x Is y Yq e
theorem Dr{α:Type}{f:α→Nat}(p:α→Bool){l:List α}(h:(l.map f).Nodup):((l.filter p).map f).Nodup:=
 List.Nodup.sublist (List.Sublist.map f List.filter_sublist) h
theorem gW.Gk{μ:Mu}{G:Key→Option ah}{H:T ah}{nx:Key}{g:Gh}{av:List (Nat×Key×ah)}{tm:T AV}{tmps:Array Value}{rest:List Nat}(S:gW P ρ orc nt ops pl bf μ G H nx g (fun _=>False) av tm tmps rest){l:List Nat}(hl:∀j∈l,j<ops.size→g.D j=true) :
  gW P ρ orc nt ops pl bf μ G (dq (av.filter fun x=>memN x.1 l) H) nx g (fun i=>gU pl i=true) (av.filter fun x=>!(memN x.1 l)) tm tmps rest:=by
 refine⟨S.UH,S.ord,S.cl,S.sub,S.KV,S.lcl,S.a1,S.a2,S.sz,S.c1,S.c2,?_,?_,Dr _ S.nk,Dr _ S.ni⟩
 ·intro i hi hD;cases S.pd i hi hD with
  |skip po mQ h1 h2 h3 h4 h5=>exact .skip po mQ h1 h2 h3 h4 fun x hx=>h5 x ((List.mem_filter.1 hx).1)
  |light po mQ v h1 h2 h3 FQ h4 h5 h6=>
   refine .light po mQ v h1 h2 h3 FQ (fun hu=>?_) h5 fun x hx=>h6 x ((List.mem_filter.1 hx).1);obtain⟨V,a1,_⟩:=h4 (fun h=>h);refine⟨_,?_,VOk.refl _ _ _ _⟩;rw[←a1];apply Nc;have:gU pl i=Ny po.op:=by simp[gU,h1]
   rw[this]at hu;simpa using hu
  |alloc po mQ f B k h1 h2 h3 FQ h4 h5 h6=>
   refine .alloc po mQ f B k h1 h2 h3 FQ h4 h5 (List.mem_filter.2 ⟨h6,?_⟩);show(!(memN i l))=true;cases hm:memN i l with
   |false=>rfl
   |true=>rw[hl i (Ng hm) (S.KV i hi)]at hD;cases hD
 ·intro x hx;obtain⟨Is,hx2⟩:=List.mem_filter.1 hx;obtain⟨p1,p2,p3,p4,p5⟩:=S.pe x Is;refine⟨p1,p2,p3,BD p4 fun y hy e=>?_,p5⟩;obtain⟨Yq,hy2⟩:=List.mem_filter.1 hy;have:=Xd S.nk y Yq x Is e;subst this;rw[hy2]at hx2;cases hx2
theorem Xe{jK:List (Nat×List Nat)}(hor:fk ρ orc){rest:List Nat}{g:Gh}{fr:Frame}{w:World}{μ:Mu}{G:Key→Option ah}{H:T ah}{nx:Key}{tm:T AV}{av:List (Nat×Key×ah)}(hc:BH ops pl bf g.L []=true)(hM:bB P ρ w0 μ G nx.toNat w)(hH:HSub H G)
  (S:gW P ρ orc nt ops pl bf μ G H nx g (fun _=>False) av tm fr.tmps rest) (hm:fr.mode=.run) (ht:fr.todo=.inRegion ops rest ::K):Kg P ρ orc nt w0 cs K ops pl bf fr w μ G H nx av (iH orc jK [] av tm H nx):=by
 have KL:∀j,j<ops.size→hasB g.L j=true:=by intro j hj;simp only[BH,sF]at hc;exact hc j (by simpa using hj)
 have eM:iH orc jK [] av tm H nx=.fin tm (dq av H) nx:=by show GQ av H (fun h=>RS.fin tm h nx)=_;rw[HW]
 rw[eM];obtain⟨dT,w',μ',G',D',kZ,s1,s2,s3,s4,s5,s6,rfl⟩:=agP (cs:=cs) hM hH hor S KL hm ht;have hD:∀j,j<ops.size→D' j=true:=s5.ord;refine⟨dT,w',μ',G',s1.trans (.one (JU hm rfl)),s2,s3,Lc s4 (fun x hx=>(s5.pe x hx).2.1 (hD _ (s5.KV _ (s5.pe x hx).1))),?_,?_⟩
 ·refine⟨s5.sz,fun k a ha=>?_⟩;by_cases h:∃j,nz ops j=some k.toNat
  ·obtain⟨j,hj⟩:=h;have da:=Oq hj;exact s5.c1 k j a (hD j da) hj (by rw[←s5.a1 k j (KL j da) hj];exact ha)
  ·have AB:∀j,nz ops j≠some k.toNat:=fun j hj=>h ⟨j,hj⟩;exact s5.c2 k a (fun j _=>AB j) (by rw[←s5.a2 k (fun j _=>AB j)];exact ha)
 ·refine⟨fun b hb hg hl=>?_,fE _⟩;have bW:∀x∈av,x.2.1.toNat≠b.toNat:=fun x hx e=>hb (NI.2 ⟨x,hx,e⟩);obtain⟨k1,k2⟩:=s6 b (fun x hx e=>bW x hx (by rw[e]));exact⟨k1,k2,BD hg bW⟩
theorem ZR{jK:List (Nat×List Nat)}(ac4:Cj bf jK=true)(hor:fk ρ orc):∀(n:Nat) (xy:List IIt) (items:List aN) (rest:List Nat) (g:Gh) (fr:Frame) (w:World) (μ:Mu) (G:Key→Option ah) (H:T ah) (nx:Key) (tm:T AV) (av:List (Nat×Key×ah)),xy.length≤n→
  xy.mapM (Gl pl)=some items→BH ops pl bf g.L xy=true→bB P ρ w0 μ G nx.toNat w→HSub H G→gW P ρ orc nt ops pl bf μ G H nx g (fun _=>False) av tm fr.tmps rest→fr.mode=.run→fr.todo=.inRegion ops rest ::K→
  Kg P ρ orc nt w0 cs K ops pl bf fr w μ G H nx av (iH orc jK items av tm H nx):=by
 intro n
 induction n with
 |zero=>intro xy items rest g fr w μ G H nx tm av hn hf hc hM hH S hm ht;have:xy=[]:=zqr (by omega);subst this;simp at hf;subst hf;exact Xe hor hc hM hH S hm ht
 |succ n ih=>
  intro xy items rest g fr w μ G H nx tm av hn hf hc hM hH S hm ht;cases xy with
  |nil=>simp at hf;subst hf;exact Xe hor hc hM hH S hm ht
  |cons x xy=>
   obtain⟨y,Ky,hy,hf',rfl⟩:=jH hf;have hn':xy.length≤n:=by simpa using hn
   have hrefl:Steps P (lone fr cs w) (lone {fr with tmps:=fr.tmps,todo:=.inRegion ops rest ::K} cs w):=by rw[←ht];exact Steps.refl _ _
   cases x with
   |L i=>
    obtain⟨po,xz,rfl⟩:=map_some hy;simp only[BH,jq,bltN_eq,decide_eq_true_eq,Bool.not_eq_true',Ig]at hc;obtain⟨⟨⟨⟨hi,hk⟩,hL⟩,hb⟩,hc⟩:=hc;have hk:=o5 hk;have hii:hasB (cW bf i) i=false:=by
     cases h:hasB (cW bf i) i with
     |false=>rfl
     |true=>have:=hb i hi h;rw[hL]at this;cases this
    have htm:=S.ape hi hL hb;have Xt:∀x∈av,x.1≠i:=by intro x hx e;have:=(S.pe x hx).1;rw[e,hL]at this;cases this
    rw[Y7];cases hw:cD po.guard tm with
    |none=>exact Or.inl ⟨_,rfl⟩
    |some b=>
     cases b with
     |false=>simp only[fp];have S':=S.add (nx':=nx) (pend':=av) (v:=.tuple []) xz hL hb (fun _ h=>h) (fun _ h=>.inl h) (.skip po tm xz (Az hii htm) hw (by simp[AJ]) Xt) (fun y hy hny=>absurd hy hny) (fE _) S.nk S.ni;exact ih xy Ky rest _ fr w μ G H nx _ av hn' hf' hc hM hH S' hm ht
     |true=>
      cases hl:lightOp orc po.op tm (zj (FO i jK) av H)with
      |none=>exact Or.inl ⟨_,rfl⟩
      |some v=>simp only[fp];have S':=S.add (nx':=nx) (pend':=av) (v:=v) xz hL hb (fun _ h=>h) (fun _ h=>.inl h) (.light po tm v xz (Az hii htm) hw hk (fun _=>⟨_,hl,VOk.view ac4 _ _ _⟩) (by simp[AJ]) Xt) (fun y hy hny=>absurd hy hny) (fE _) S.nk S.ni;exact ih xy Ky rest _ fr w μ G H nx _ av hn' hf' hc hM hH S' hm ht
   |A i=>
    obtain⟨po,xz,rfl⟩:=map_some hy;simp only[BH,jq,bltN_eq,decide_eq_true_eq,Bool.not_eq_true',Ig]at hc;obtain⟨⟨⟨⟨hi,hk⟩,hL⟩,hb⟩,hc⟩:=hc;have hk:=o5 hk;have hii:hasB (cW bf i) i=false:=by
     cases h:hasB (cW bf i) i with
     |false=>rfl
     |true=>have:=hb i hi h;rw[hL]at this;cases this
    have htm:=S.ape hi hL hb;have Xt:∀x∈av,x.1≠i:=by intro x hx e;have:=(S.pe x hx).1;rw[e,hL]at this;cases this
    have hss:=kTSu nx;rw[Y8];cases hw:cD po.guard tm with
    |none=>exact Or.inl ⟨_,rfl⟩
    |some b=>
     cases b with
     |false=>simp only[fp];have S':=S.add (nx':=nx) (pend':=av) (v:=.tuple []) xz hL hb (fun _ h=>h) (fun _ h=>.inl h) (.skip po tm xz (Az hii htm) hw (by simp[AJ]) Xt) (fun y hy hny=>absurd hy hny) (fE _) S.nk S.ni;exact ih xy Ky rest _ fr w μ G H nx _ av hn' hf' hc hM hH S' hm ht
     |true=>
      cases hl:allocOp po.op tm with
      |none=>exact Or.inl ⟨_,rfl⟩
      |some fB=>
       obtain⟨f,B⟩:=fB;simp only[fp];have hgn:=ayg hM;have hHn:ag nx H=none:=by
        cases h:ag nx H with
        |none=>rfl
        |some B=>rw[hH nx B h]at hgn;cases hgn
       have S':=S.add (nx':=nx.succ) (pend':=(i,nx,B) ::av) (v:=f nx) xz hL hb (fun _ h=>List.mem_cons_of_mem _ h) (fun y h=>by rcases GP.1 h with h|h;exact .inr (by rw[h]);exact .inl h)
        (.alloc po tm f B nx xz (Az hii htm) hw hk hl (by simp[AJ]) (by simp))
        (fun y hy hny=>by have:y=(i,nx,B):=(GP.1 hy).resolve_right hny;subst this;exact⟨hM.uZ,hgn,hHn,by show nx.toNat<nx.succ.toNat;omega⟩) (by omega)
        (by simp only[ZC,List.nodup_cons];refine⟨fun h=>?_,S.nk⟩;obtain⟨x,hx,e⟩:=NI.1 h;have:=(S.pe x hx).2.2.2.2;omega)
        (by simp only[ZC,List.nodup_cons];refine⟨fun h=>?_,S.ni⟩;obtain⟨x,hx,e⟩:=NI.1 h;exact Xt x hx e)
       have:=ih xy Ky rest _ fr w μ G H nx.succ _ ((i,nx,B) ::av) hn' hf' hc (hM.aAZ (by omega)) hH S' hm ht;refine Kg.step (tmps2:=fr.tmps) (rest2:=rest) (w2:=w) (pend2:=(i,nx,B) ::av) hrefl μ.le_refl ⟨fun b _ hg hl=>⟨rfl,rfl,hg⟩,Nat.le_of_lt (show nx.toNat<nx.succ.toNat by omega)⟩ ?_ (by rw[←ht];exact this);intro x hx;simp only[qF,ZC,GP]at hx;rcases hx with h|h
       ·exact .inr (Nat.le_of_eq h.symm)
       ·exact .inl h
   |H i ad=>
    obtain⟨po,xz,rfl⟩:=map_some hy;cases xy with
    |nil=>simp[BH]at hc
    |cons x2 UO=>
    cases x2 with
    |L _=>simp[BH]at hc
    |A _=>simp[BH]at hc
    |H _ _=>simp[BH]at hc
    |R osn=>
    obtain⟨y2,l8,hy2,hf2,rfl⟩:=jH hf';obtain⟨os,NH,rfl⟩:=map_some hy2;obtain⟨aK4,aK5⟩:=aph NH;have hn2:UO.length≤n:=by simp at hn;omega
    simp only[BH,jq,bltN_eq,decide_eq_true_eq,Bool.not_eq_true',Ig]at hc;obtain⟨⟨⟨⟨⟨⟨⟨⟨hi,hk⟩,hL⟩,hb⟩,acU⟩,qO⟩,Kv⟩,aK6⟩,hc⟩:=hc;have hk:=o5 hk;have aC0:∀j q,(j,q)∈os→pl[j]?=some q∧Gj ops bf j=true∧tR pl j=0:=by intro j q hj;obtain⟨e1,e2⟩:=aK4 j q hj;have:=sF.1 aK6 j e1;simp only[jq]at this;exact⟨e2,this.2,o5 this.1.2⟩
    have au0:∀j,hasB g.L j=true→gU pl j=true→hasB (cW bf i) j=true∨∃q,(j,q)∈os:=by
     intro j hj hr;have:=sF.1 Kv j (by simpa using S.KV j hj);simp only[hj,hr,Bool.not_true,Bool.false_or,Bool.or_eq_true]at this;rcases this with h|h
     ·exact .inl h
     ·exact .inr (aK5 j (by simpa using h))
    have ayi:∀j,j<ops.size→hasB g.L j=true∨j=i∨∃q,q<ops.size∧hasB (cW bf j) q=true∧hasB g.L q=false:=by
     intro j hj;have:=sF.1 acU j (by simpa using hj);simp only[Bool.or_eq_true,Bool.not_eq_true']at this;rcases this with(h|h)|h
     ·exact .inl h
     ·exact .inr (.inl (o5 h))
     ·refine .inr (.inr (Classical.byContradiction fun AB=>?_));have:adC ops.size (cW bf j) g.L=true:=Ig.2 fun q hq hbq=>by
       cases hLq:hasB g.L q with
       |true=>rfl
       |false=>exact absurd ⟨q,hq,hbq,hLq⟩ AB
      rw[this]at h;cases h
    obtain⟨Nh,w1,μ1,G1,D1,aOZ,s1,s2,s3,s4,S1,s6,r1,rfl⟩:=Zg (cs:=cs) hM hH hor S hi hL ayi hm ht;have aC1:∀j∈ad,j<ops.size→D1 j=true:=by intro j hj da;exact S1.ready.2.2 j da (sF.1 qO j hj)
    have S2:=S1.Gk (l:=ad) aC1;rw[Y9,zT];generalize hpf:(av.filter fun x=>!(memN x.1 ad))=pend2 at S2;generalize hHf:dq (av.filter fun x=>memN x.1 ad) H=H2 at S2;have hH2:HSub H2 G1:=by rw[←hHf];refine Lc s4 fun x hx=>?_;obtain⟨Is,hx2⟩:=List.mem_filter.1 hx;exact(S1.pe x Is).2.1 (aC1 _ (Ng hx2) (S1.KV _ (S1.pe x Is).1))
    have aC2:∀x∈pend2,x∈av:=by intro x hx;rw[←hpf]at hx;exact(List.mem_filter.1 hx).1
    have api:∀x∈qF pend2,x∈qF av∨nx.toNat≤x:=by intro x hx;obtain⟨y,hy,e⟩:=NI.1 hx;exact .inl (NI.2 ⟨y,aC2 y hy,e⟩)
    have hK2:Ew (qF av) H H2 nx nx μ μ1 G G1:=by refine⟨fun b fF hg cQ=>?_,fE _⟩;have bW:∀x∈av,x.2.1.toNat≠b.toNat:=fun x hx e=>fF (NI.2 ⟨x,hx,e⟩);obtain⟨k1,k2⟩:=s6 b (fun x hx e=>bW x hx (by rw[e]));rw[←hHf];exact⟨k1,k2,BD hg fun x hx=>bW x ((List.mem_filter.1 hx).1)⟩
    obtain⟨o,Vq,PH,Xr,IT⟩:=S.UH.at hi;rw[xz]at IT;cases IT;obtain⟨lf,Xs,DF⟩:=iU Xr;have hsl:=S2.Rv hL hb PH;have hE:=Ib (P:=P) (nt:=nt) (o:=o) (fr:={fr with tmps:=Nh,todo:=.inRegion ops (i ::r1) ::K}) s3 hsl;have go:∀(a:AV) (v:Value) (w3:World) (μ3:Mu) (G3:Key→Option ah) (H3:T ah) (dZ:Key),step P (lone {fr with tmps:=Nh,todo:=.inRegion ops (i ::r1) ::K} cs w1)=.next (lone {fr with tmps:=IQ o.dst v Nh,todo:=.inRegion ops r1 ::K} cs w3)→
      aX ρ μ3 a v→μ1.le μ3→bB P ρ w0 μ3 G3 dZ.toNat w3→HSub H3 G3→Kept H2 H3 nx dZ μ1 μ3 G1 G3→Kg P ρ orc nt w0 cs K ops pl bf fr w μ G H nx av (iH orc jK (.R os ::l8) pend2 (bV po.dst a tm) H3 dZ):=by
     intro a v w3 μ3 G3 H3 dZ fj hv hle hM3 hH3 hK3;have S3:=S2.cv hle hK3.n (G':=G3) (H':=H3) (fun x hx=>by obtain⟨p1,p2,p3,p4,p5⟩:=S2.pe x hx;exact⟨hK3.m _ p5,hK3.g _ p4 p5,hK3.h _ p4 p5⟩)
     have S4:=S3.auR xz hL hb PH hv;rw[Yn];cases hrc:recheck orc jK pend2 (bV po.dst a tm) H3 os with
     |false=>exact Or.inl ⟨_,rfl⟩
     |true=>
      simp only[cond_true];have S5:=S4.WN ac4 hrc aC0 (by
       intro j hj hDj hrj;have hDj:(D1 j||j==i)=false:=hDj;rw[Bool.or_eq_false_iff]at hDj;have bW:j≠i:=by simpa using hDj.2
       have hj:hasB (Gm g.L i) j=true:=hj;rw[GI,Bool.or_eq_true,decide_eq_true_eq]at hj;have hjL:=hj.resolve_right (fun e=>bW e.symm);rcases au0 j hjL hrj with h|h
       ·have:=S1.ready.2.2 j (S.KV j hjL) h;have:D1 j=true:=this;rw[hDj.1]at this;cases this
       ·exact h)
      have hE3:=ih UO l8 r1 _ {fr with tmps:=IQ o.dst v Nh,todo:=.inRegion ops r1 ::K} w3 μ3 G3 H3 dZ _ pend2 hn2 hf2 hc hM3 hH3 S5 hm rfl;exact Kg.step (s1.trans (.one fj)) (Mu.le_trans s2 hle) (hK2.trans (hK3.toE (qF pend2)) api) (fun x hx=>(api x hx)) hE3
    have evt:∀r:OR,Region.wanted o (yielded ops Nh)=true→aOp orc po.op tm H2 nx=r→¬DE r→Kg P ρ orc nt w0 cs K ops pl bf fr w μ G H nx av (.ev r (.H i po ad ::.R os ::l8) pend2 tm H2 nx):=by intro r sm ha hr;exact Or.inr ⟨Nh,w1,μ1,G1,{g with D:=D1},i,po,o,ad,os,UO,l8,r1,s1,s2,s3,hH2,rfl,xz,hf2,hc,hL,hb,aC0,au0,S2,PH,Xr,sm,ha,hr,hK2,api⟩
    show Kg P ρ orc nt w0 cs K ops pl bf fr w μ G H nx av (match cD po.guard tm with
     |none=>.ev (.bad 35) (.H i po ad ::.R os ::l8) pend2 tm H2 nx
     |some false=>zi po.dst (some (.tuple [])) tm fun tm=>iH orc jK (.R os ::l8) pend2 tm H2 nx
     |some true=>match aOp orc po.op tm H2 nx with
      |.val v h nx=>zi po.dst (some v) tm fun tm=>iH orc jK (.R os ::l8) pend2 tm h nx
      |r=>.ev r (.H i po ad ::.R os ::l8) pend2 tm H2 nx)
    cases hw:cD po.guard tm with
    |none=>exact Or.inl ⟨_,rfl⟩
    |some b=>
     have sm:=CY Xs hsl hw;cases b with
     |false=>simp only[fp];have fj:=KY (P:=P) (cs:=cs) (w:=w1) (fr:={fr with tmps:=Nh,todo:=.inRegion ops (i ::r1) ::K}) hm rfl PH sm;rw[cT rfl PH]at fj;exact go _ _ w1 μ1 G1 H2 nx fj (.tuple _ _ .nil) μ1.le_refl s3 hH2 (Kept.refl _ _ _ _)
     |true=>
      cases ha:aOp orc po.op tm H2 nx with
      |val a H3 dZ=>
       simp only[fp];obtain⟨n,w3,μ3,G3,q1,q2,q3,q4,q5,q6⟩:=W7 s3 hH2 hor lf hE ha;have Ge:fr.roundOf=none∨fO o.op=false:=.inr (Cp lf (by rw[ha];intro f l e;cases e) (by rw[ha];intro n e;cases e));cases n with
       |value v=>have fj:=Yw (P:=P) (cs:=cs) (fr:={fr with tmps:=Nh,todo:=.inRegion ops (i ::r1) ::K}) hm rfl PH sm Ge q1;rw[cT rfl PH]at fj;exact go _ _ w3 μ3 G3 H3 dZ fj q2 q3 q4 q5 q6
       |skip=>have q2:a=.tuple []:=q2;subst q2;have fj:=ahW (P:=P) (cs:=cs) (fr:={fr with tmps:=Nh,todo:=.inRegion ops (i ::r1) ::K}) hm rfl PH sm Ge q1;rw[cT rfl PH]at fj;exact go _ _ w3 μ3 G3 H3 dZ fj (.tuple _ _ .nil) q3 q4 q5 q6
       |_=>exact q2.elim
      |bad n=>exact Or.inl ⟨_,rfl⟩
      |call f args=>exact evt _ sm ha (by rintro(⟨_,_,_,e⟩|⟨_,e⟩)<;>cases e)
      |yld k args=>exact evt _ sm ha (by rintro(⟨_,_,_,e⟩|⟨_,e⟩)<;>cases e)
      |pan v=>exact evt _ sm ha (by rintro(⟨_,_,_,e⟩|⟨_,e⟩)<;>cases e)
      |dfr f args=>exact evt _ sm ha (by rintro(⟨_,_,_,e⟩|⟨_,e⟩)<;>cases e)
      |recover=>exact evt _ sm ha (by rintro(⟨_,_,_,e⟩|⟨_,e⟩)<;>cases e)
   |R os=>simp[BH]at hc
end
def LV(P:Program)(ρ:Nat→Int)(w0:W0)(f:Nat)(l:List AV)(H:T ah)(nx:Key)(a:AV)(H':T ah)(nx':Key):Prop:=∀(args:Array Value) (w:World) (μ:Mu) (G:Key→Option ah),bB P ρ w0 μ G nx.toNat w→HSub H G→aB ρ μ l args.toList→
 Calls P f args w fun e w'=>∃u μ' G',e=.returned u∧aX ρ μ' a u∧μ.le μ'∧bB P ρ w0 μ' G' nx'.toNat w'∧HSub H' G'∧Kept H H' nx nx' μ μ' G G'
structure Ctx(P:Program)(ρ:Nat→Int)(w0:W0)(C:bP):Prop where
 sum:∀f l H nx a H' nx',C.sum f l H nx=some (a,H',nx')→LV P ρ w0 f l H nx a H' nx'
 has : ∀ f l H nx r, C.sum f l H nx = some r → ∃ fn, P.funcs[f]? = some fn ∧ fn.body.isSome = true ∧ fn.name ≠ "runtime.NumGoroutine"
 orc:fk ρ C.orc
 fns:∀f p,(bif Nat.beq (Key.fP 12 f).toNat f then ag (Key.fP 12 f) C.fns else none)=some p→I3 P f=some p
 mix:P.follows .mixedOrders=true
section
variable{P:Program}{ρ:Nat→Int}{orc:iV}{nt:Nat}{w0:W0}{w:World}{μ:Mu}{G:Key→Option ah}{H:T ah}{nx:Key}
theorem agC{id:Nat}{k:List de}{K:List Item}(h:nf P μ nt k K) :
  (∀k',mG id k=some k'→∃K',exitTo id K=some K'∧nf P μ nt k' K')∧(mG id k=none→exitTo id K=none):=by
 induction h with
 |nil=>exact⟨fun k' e=>(by cases e),fun _=>rfl⟩
 |cons a x l k h h' ih=>
  cases h with
  |inBlock id'=>
   simp only[mG,exitTo,beqN_eq];by_cases e:id'=id
   ·subst e;simp only[decide_true,cond_true,beq_self_eq_true,if_true];exact⟨fun k' e=>(by cases e;exact⟨_,rfl,h'⟩),fun e=>(by cases e)⟩
   ·have:(id'==id)=false:=by simpa using e
    simp only[e,decide_false,cond_false,this,Wh,if_false];exact ih
  |code pc c h=>exact ih
  |inLoop pc c h=>exact ih
  |ops l ops rest h=>exact ih
  |inRF k l r h hr=>exact ih
  |endRF k l r h hr=>exact ih
  |beginRound=>exact ih
  |scope c=>exact ih
noncomputable def ic:List AV→Key→T AV→T AV
 | [],_,tm=>tm
 |v ::l,k,tm=>ic l k.succ (aw k (some v) tm)
theorem DD{R:Type}:∀(l:List AV) (k:Key) (tm:T AV) (c:T AV→R),XI l k tm c=c (ic l k tm)
 | [],_,_,_=>rfl
 |v ::l,k,tm,c=>by show yL k (some v) tm (fun tm=>XI l k.succ tm c)=_;rw[sTCe,DD l];rfl
theorem PN:∀(l:List AV) (k:Key) (tm:T AV) (q:Key) (a:AV),ag q (ic l k tm)=some a→(k.toNat≤q.toNat∧l[q.toNat-k.toNat]?=some a)∨ag q tm=some a
 | [],_,_,_,_,h=>.inr h
 |v ::l,k,tm,q,a,h=>by
  have hs:=kTSu k;rcases PN l k.succ _ q a h with⟨h1,h2⟩|h1
  ·refine .inl ⟨by omega,?_⟩;have:q.toNat-k.toNat=(q.toNat-k.succ.toNat)+1:=by omega
   rw[this];simpa using h2
  ·by_cases e:q=k
   ·subst e;rw[gTSm]at h1;cases h1;exact .inl ⟨fE _,by simp⟩
   ·rw[aP _ _ _ _ e]at h1;exact .inr h1
theorem agD{args:Array Value}{l:List AV}(h:aB ρ μ l args.toList):kI ρ μ nt (ic l .z .nil) (args++Array.replicate (nt-args.size) undef):=by
 refine⟨by simp;omega,fun q a hq=>?_⟩;rcases PN l .z .nil q a hq with⟨_,h2⟩|h2
 ·have h2:l[q.toNat]?=some a:=by simpa[Key.toNat]using h2
  obtain⟨v,hv,hr⟩:=h.get _ _ h2;refine⟨v,?_,hr⟩;have cQ:q.toNat<args.size:=by
   rcases KA q.toNat args.size with h'|h'
   ·exact h'
   ·rw[zqo (by simpa using h')]at hv;cases hv
  rw[Array.getElem?_append_left cQ];simpa using hv
 ·simp at h2
theorem vo {f : Nat} {p : fq} (h : I3 P f = some p) : ∃ fn c, P.funcs[f]? = some fn ∧ fn.body = some c ∧ fn.name ≠ "runtime.NumGoroutine" ∧ ir P fn.ntmps c = some p.body ∧ UI P fn.ntmps fn.results.toList = some p.res := by
 unfold I3 at h;split at h
 ·cases h
 ·rename_i fn hfn;split at h
  ·cases h
  ·rename_i c hc;cases hn : (fn.name == "runtime.NumGoroutine") with
   |true=>rw[hn]at h;cases h
   |false=>
    rw[hn]at h;simp only[cond_false]at h;split at h
    ·rename_i b r hb hr;cases h;exact⟨fn,c,hfn,hc,by simpa using hn,hb,hr⟩
    ·cases h
theorem yH{f:Nat}{p:fq}(hp:I3 P f=some p){l:List AV}{args:Array Value}(hl:aB ρ μ l args.toList)(GG:Bool) :
  Cur P ρ orc μ G H nx {fn:=f,tm:=ic l .z .nil,todo:=[.code p.body],dfs:=[],mode:=.run,GG,vm:=none,res:=p.res} (Frame.enter P f args (if GG then .deferred else .normal)):=by
 obtain⟨fn,c,h1,h2,h3,h4,h5⟩:=vo hp;refine .run fn.ntmps ⟨rfl,⟨fn,h1,rfl,h5⟩,trivial,rfl,trivial,fun h=>absurd rfl h⟩ rfl rfl ?_;simp only[Frame.enter,h1,Option.map_some,Option.getD_some,Option.bind_some,h2];exact .plain _ _ _ _ (.cons _ _ _ _ (.code _ _ h4) .nil) (agD hl)
theorem kI.set{tm:T AV}{tmps:Array Value}(h:kI ρ μ nt tm tmps){k:Key}(cQ:k.toNat<nt){a:AV}{v:Value}(hv:aX ρ μ a v):kI ρ μ nt (aw k (some a) tm) (tmps.setIfInBounds k.toNat v):=by
 refine⟨by simp;exact h.1,fun q b hb=>?_⟩;by_cases hq:q=k
 ·subst hq;rw[gTSm]at hb;cases hb;have:q.toNat<tmps.size:=O5 cQ h.1;exact⟨v,by simp[this],hv⟩
 ·rw[aP _ _ _ _ hq]at hb;obtain⟨u,hu,hr⟩:=h.2 q b hb;refine⟨u,?_,hr⟩;rw[zqn]
  ·exact hu
  ·intro e;exact hq (Key.toNat_inj e.symm)
noncomputable def aqf:List Key→List AV→T AV→T AV
 |k ::l,v ::m,tm=>aqf l m (aw k (some v) tm)
 |_,_,tm=>tm
theorem Wg{R:Type}:∀(ks:List Key) (vs:List AV) (tm:T AV) (bad:R) (c:T AV→R),XJ ks vs tm bad c=bad∨(ks.length=vs.length∧XJ ks vs tm bad c=c (aqf ks vs tm))
 | [],[],tm,bad,c=>.inr ⟨rfl,rfl⟩
 | [],_ ::_,tm,bad,c=>.inl rfl
 |_ ::_,[],tm,bad,c=>.inl rfl
 |k ::l,v ::m,tm,bad,c=>by
  have e:XJ (k ::l) (v ::m) tm bad c=XJ l m (aw k (some v) tm) bad c:=by show yL k (some v) tm (fun tm=>XJ l m tm bad c)=_;rw[sTCe]
  rw[e];rcases Wg l m (aw k (some v) tm) bad c with h|⟨h1,h2⟩
  ·exact .inl h
  ·exact .inr ⟨by simp[h1],h2⟩
theorem ZP:∀{ks:List Key} {vs:List AV} {us:List Value} {tm:T AV} {tmps:Array Value},(∀k∈ks,k.toNat<nt)→ks.length=vs.length→aB ρ μ vs us→kI ρ μ nt tm tmps→
  kI ρ μ nt (aqf ks vs tm) (((ks.map Key.toNat).zip us).foldl (fun tmps (x:Nat×Value)=>tmps.setIfInBounds x.1 x.2) tmps)
 | [],[],_,_,_,_,_,.nil,h=>h
 | [],_ ::_,_,_,_,_,hl,_,_=>by cases hl
 |_ ::_,[],_,_,_,_,hl,_,_=>by cases hl
 |k ::ks,v ::vs,_,tm,tmps,hk,hl,.cons _ _ u us h h',ht=>by exact ZP (ks:=ks) (vs:=vs) (fun q hq=>hk q (by simp[hq])) (by simpa using hl) h' (ht.set (hk k (by simp)) h)
noncomputable def ki:List Key→T AV→T AV
 | [],tm=>tm
 |k ::l,tm=>ki l (aw k none tm)
theorem qa{R:Type}:∀(l:List Key) (tm:T AV) (c:T AV→R),Kx l tm c=c (ki l tm)
 | [],_,_=>rfl
 |k ::l,tm,c=>by show yL k none tm (fun tm=>Kx l tm c)=_;rw[sTCe,qa l];rfl
theorem Ud:∀(l:List Key) (tm:T AV) (q:Key) (a:AV),ag q (ki l tm)=some a→(∀k∈l,k≠q)∧ag q tm=some a
 | [],_,_,_,h=>⟨fun _ h=>(by cases h),h⟩
 |k ::l,tm,q,a,h=>by
  obtain⟨h1,h2⟩:=Ud l _ q a h;have bW:k≠q:=by intro e;subst e;rw[gTSm]at h2;cases h2
  rw[aP _ _ _ _ (fun e=>bW e.symm)]at h2;refine⟨fun x hx=>?_,h2⟩;rcases GP.1 hx with e|e
  ·rw[e];exact bW
  ·exact h1 x e
theorem gW.erase{ops:Array Oper}{pl:List aC}{bf:List Nat}{g:Gh}{EZ:Nat→Prop}{av:List (Nat×Key×ah)}{tm:T AV}{tmps:Array Value}{rest:List Nat}(S:gW P ρ orc nt ops pl bf μ G H nx g EZ av tm tmps rest){jm:List Key}(hd:NJ ops jm) :
  kI ρ μ nt (ki jm tm) tmps:=by
 refine⟨S.sz,fun q a hq=>?_⟩;obtain⟨h1,h2⟩:=Ud _ _ _ _ hq;have AB:∀j,nz ops j≠some q.toNat:=by intro j hj;obtain⟨k,hk,e⟩:=hd j _ hj;exact h1 k hk (Key.toNat_inj e)
 rw[S.a2 q fun j _=>AB j]at h2;exact S.c2 q a (fun j _=>AB j) h2
theorem LP.finish{k:List de}{tm:T AV}{K:List Item}{tmps:Array Value}(h:LP P ρ orc μ G H nx nt k tm K tmps){af af':mB}(hk:af.todo=k)(ht:af.tm=tm){fr:Frame}(hK:fr.todo=K)(hT:fr.tmps=tmps){a:AV}{v:Value}(hv:aX ρ μ a v)
  (hf:cY a af=some af'):ZQ P ρ orc μ G H nx nt af'.todo af'.tm (fr.finish v).todo (fr.finish v).tmps∧pk af'=pk af∧(∃tm2 k2,af'={af with tm:=tm2,todo:=k2})∧(∃tmps2 K2,fr.finish v={fr with tmps:=tmps2,todo:=K2}):=by
 cases h with
 |ops o l ops i rest k K tm tmps hp h ht'=>
  subst ht hT;simp only[cY,hk,fp,dP]at hf;subst hf;have hp0:=hp;simp only[lY]at hp;split at hp
  ·cases hp
  ·rename_i oo PH;split at hp
   ·rename_i Vq l' h1 h2;simp only[dP,List.cons.injEq]at hp;obtain⟨rfl,rfl⟩:=hp;obtain⟨lf,Xs,DF⟩:=iU h1;rw[cT hK PH];exact⟨.plain _ _ _ _ (.cons _ _ _ _ (.ops _ _ _ h2) h) (ht'.put DF hv),by simp[pk,hk],⟨_,_,rfl⟩,⟨_,_,rfl⟩⟩
   ·cases hp
 |staged ops pl bf g i po ad os xy items jm av k K tm tmps rest xz hf' hc hL We hd h NH Kv S=>
  subst ht hT;simp only[cY,hk,fp,dP]at hf;subst hf;obtain⟨hi,hDi,Gg⟩:=S.ready;obtain⟨o,Vq,PH,Xr,IT⟩:=S.UH.at hi;rw[xz]at IT;cases IT;rw[cT hK PH];have S4:=S.auR xz hL We PH hv;refine⟨.back ops pl bf _ os xy items jm av k K _ _ rest hf' hc hd h NH ?_ S4,by simp[pk,hk],⟨_,_,rfl⟩,⟨_,_,rfl⟩⟩;intro j hj hDj hrj;have hDj:(g.D j||j==i)=false:=hDj;rw[Bool.or_eq_false_iff]at hDj;have bW:j≠i:=by simpa using hDj.2
  have hj:hasB (Gm g.L i) j=true:=hj;rw[GI,Bool.or_eq_true,decide_eq_true_eq]at hj;have hjL:=hj.resolve_right (fun e=>bW e.symm);rcases Kv j hjL hrj with h|h
  ·have:=Gg j (S.KV j hjL) h;rw[hDj.1]at this;cases this
  ·exact h
 |rf key l k K tm tmps axZ h ht'=>
  subst ht hT;simp only[cY,hk,dP]at hf;subst hf;have e:fr.finish v={fr with todo:=.endRangeFunc l.c ::K}:=by simp[Frame.finish,hK]
  rw[e];exact⟨.plain _ _ _ _ (.cons _ _ _ _ (.endRF _ _ _ axZ rfl) h) ht',by simp[pk,hk],⟨_,_,rfl⟩,⟨_,_,rfl⟩⟩
def akr(tmps:Array Value):ResultVar→Sem Value
 |.tmp t=>pure (tmps.getD t undef)
 |.cell a t=>do loadVar t (←asAddr (tmps.getD a undef))
theorem Eo(hM:bB P ρ w0 μ G nx.toNat w)(hH:HSub H G){tm:T AV}{tmps:Array Value}(hT:kI ρ μ nt tm tmps):∀{rs:List ResultVar} {res:List RV} {l:List AV},UI P nt rs=some res→resultsA H tm res=some l→
  ∃vs,(rs.mapM (akr tmps)).run P w=.ok vs w∧aB ρ μ l vs
 | [],res,l,hp,hr=>by simp only[UI,dP]at hp;subst hp;simp only[resultsA,dP]at hr;subst hr;exact⟨[],by simp[xA],.nil⟩
 |.tmp t ::rs,res,l,hp,hr=>by
  simp only[UI]at hp;split at hp
  ·rename_i k r hk hrs;cases hp;simp only[resultsA]at hr;split at hr
   ·rename_i a l' ha RK;cases hr;obtain⟨vs,h1,h2⟩:=Eo hM hH hT hrs RK;obtain⟨v,hv,hvr⟩:=hT.2 _ _ ha;rw[(pR hk).1]at hv;refine⟨v ::vs,?_,.cons _ _ _ _ hvr h2⟩;have hg:tmps.getD t undef=v:=by simp[Array.getD_eq_getD_getElem?,hv]
    rw[List.mapM_cons];simp only[akr,sJ,xA,o4,hg,h1]
   ·cases hr
  ·cases hp
 |.cell a t ::rs,res,l,hp,hr=>by
  simp only[UI]at hp;split at hp
  ·rename_i k i r hk hi hrs;cases hp;simp only[resultsA]at hr;split at hr
   ·rename_i b off l' ha RK;split at hr
    ·rename_i x hx;cases hr;obtain⟨vs,h1,h2⟩:=Eo hM hH hT hrs RK;obtain⟨v,hv,hvr⟩:=hT.2 _ _ ha;rw[(pR hk).1]at hv;have hg:tmps.getD a undef=v:=by simp[Array.getD_eq_getD_getElem?,hv]
     cases hvr with|ptr _ _ lc ad DL qO=>
     subst qO;simp only[loadB]at hx;split at hx
     ·rename_i L ck hL;obtain⟨ii,d,z,e1,e2,e3,e4,e5,e6⟩:=kq hi;rw[e5,e6]at hx;obtain⟨u,hu,hur⟩:=I7 hM (hH _ _ hL) e1 e2 hx DL;refine⟨u ::vs,?_,.cons _ _ _ _ hur h2⟩;rw[List.mapM_cons];simp only[akr,sJ,xA,o4,hg,asAddr,hu,h1]
     ·cases hx
    ·cases hr
   ·cases hr
  ·cases hp
def MG(vs:List Value):Value:=if h:vs.toArray.size=1 then vs.toArray[0]else .tuple vs.toArray
theorem aez{l:List AV}{vs:List Value}(h:aB ρ μ l vs):aX ρ μ (nM l) (MG vs):=by
 cases h with
 |nil=>exact .tuple _ _ .nil
 |cons a l v vs h h'=>
  cases h' with
  |nil=>exact h
  |cons b l v2 vs h5 h6=>
   have:MG (v ::v2 ::vs)=.tuple (v ::v2 ::vs).toArray:=by simp[MG]
   rw[this];exact .tuple _ _ (.cons _ _ _ _ h (.cons _ _ _ _ h5 h6))
theorem Vj(hM:bB P ρ w0 μ G nx.toNat w)(hH:HSub H G){tm:T AV}{tmps:Array Value}(hT:kI ρ μ nt tm tmps){fn:Func}{res:List RV}{l:List AV}(hp:UI P nt fn.results.toList=some res)(hr:resultsA H tm res=some l) :
  ∃vs,(results fn tmps).run P w=.ok (MG vs) w∧aB ρ μ l vs:=by
 obtain⟨vs,h1,h2⟩:=Eo hM hH hT hp hr;have aKE:results fn tmps=(do
   let vs ←fn.results.mapM (akr tmps)
   pure (if h:vs.size=1 then vs[0]else .tuple vs)):=by
  unfold results;congr 1
 refine⟨vs,?_,h2⟩;have hm:fn.results.mapM (akr tmps)=Functor.map List.toArray (fn.results.toList.mapM (akr tmps)):=by rw[←List.mapM_toArray]
 rw[aKE,hm];simp only[map_eq_pure_bind,bind_assoc,pure_bind,sJ,h1,o4,xA];rfl
end
def Good(P:Program)(ρ:Nat→Int)(C:bP)(w0:W0)(μ0:Mu)(rest:List Frame)(m:Machine):SR→Prop
 |.next am'=>∃fR yu w',Steps P m (lone fR (yu++rest) w')∧BN P ρ C.orc w0 μ0 am' fR yu w'
 |.done f v h nx=>∃fR w' μ G u,Steps P m (lone fR rest w')∧fR.fn=f∧fR.leaving P w' (.returned u)∧aX ρ μ v u∧μ0.le μ∧bB P ρ w0 μ G nx.toNat w'∧HSub h G
 |.alt am1 am2=>(∃fR yu w',Steps P m (lone fR (yu++rest) w')∧BN P ρ C.orc w0 μ0 am1 fR yu w')∨∃fR yu w',Steps P m (lone fR (yu++rest) w')∧BN P ρ C.orc w0 μ0 am2 fR yu w'
 |_=>True
section
variable{P:Program}{ρ:Nat→Int}{C:bP}{nt:Nat}{w0:W0}{w:World}{μ0 μ:Mu}{G:Key→Option ah}{H:T ah}{nx:Key}{rest cs:List Frame}{fr:Frame}{af:mB}{jT:List mB}{K:List Item}{k:List de}
theorem Good.steps{m m':Machine}{r:SR}(h:Steps P m m')(g:Good P ρ C w0 μ0 rest m' r):Good P ρ C w0 μ0 rest m r:=by
 cases r with
 |next am'=>obtain⟨fR,yu,w',h1,h2⟩:=g;exact⟨fR,yu,w',h.trans h1,h2⟩
 |done f v hh nx=>obtain⟨fR,w',μ,G,u,h1,h2⟩:=g;exact⟨fR,w',μ,G,u,h.trans h1,h2⟩
 |pan v hh nx=>trivial
 |bad n m=>trivial
 |alt m1 m2=>
  rcases g with⟨fR,yu,w',h1,h2⟩|⟨fR,yu,w',h1,h2⟩
  ·exact .inl ⟨fR,yu,w',h.trans h1,h2⟩
  ·exact .inr ⟨fR,yu,w',h.trans h1,h2⟩
theorem Cn.todo(h:Cn P ρ μ nt af fr)(t:T AV)(k:List de)(T:Array Value)(K:List Item):Cn P ρ μ nt {af with tm:=t,todo:=k} {fr with tmps:=T,todo:=K}:=
 ⟨h.fn,h.fnr,h.dfs,h.kind,h.vm,h.rd⟩
theorem ala{af:mB}(h:nf P μ nt af.todo K):pk af=[]:=by
 unfold pk;split
 ·rename_i i d p k' e;rw[e]at h;cases h with|cons _ _ _ _ h _=>cases h
 ·rfl
theorem atf:∀{jT:List mB} {cs:List Frame},dR P ρ C.orc μ G H nx jT cs→∀x∈bL jT,x<nx.toNat
 | [],[],_,x,hx=>by cases hx
 | [],_ ::_,h,_,_=>h.elim
 |_ ::_,[],h,_,_=>h.elim
 |a ::jT,f ::cs,h,x,hx=>by
  simp only[bL,List.mem_append]at hx;rcases hx with hx|hx
  ·cases h.1 with
   |wait nt hb h1 h2 h=>
    unfold pk at hx;split at hx
    ·rename_i i d p k' e;rw[e]at h;generalize f.todo=KK at h;generalize f.tmps=TT at h;generalize a.tm=tt at h;cases h with
     |staged ops pl bf g i po ad os xy items jm av k K tm tmps rest xz hf hc hL We hd h NH Kv S=>obtain⟨y,hy,e⟩:=NI.1 hx;rw[←e];exact(S.pe y hy).2.2.2.2
    ·cases hx
   |unw h hm=>
    cases h with
    |run nt hb h1=>exact absurd h1 hm
    |ret nt hb h1 h2 h3 h=>unfold pk at hx;rcases h3 with h3|⟨k,h3⟩<;>rw[h3]at hx<;>cases hx
    |pan nt hb v u r h1 h2 hv h3 h=>unfold pk at hx;rw[h3]at hx;cases hx
  ·exact atf h.2 x hx
theorem dR.kept{μ':Mu}{G':Key→Option ah}{H':T ah}{nx':Key}(hm:μ.le μ')(hk:Kept H H' nx nx' μ μ' G G')(h:dR P ρ C.orc μ G H nx jT cs):dR P ρ C.orc μ' G' H' nx' jT cs:=
 h.cv hm hk.n fun b _ hg hl=>⟨hk.m b hl,hk.g b hg hl,hk.h b hg hl⟩
theorem dR.atg{E:List Nat}{μ':Mu}{G':Key→Option ah}{H':T ah}{nx':Key}(hm:μ.le μ')(hk:Ew E H H' nx nx' μ μ' G G')(hE:∀x∈E,x∉bL jT)(h:dR P ρ C.orc μ G H nx jT cs):dR P ρ C.orc μ' G' H' nx' jT cs:=
 h.cv hm hk.n fun b hb hg hl=>hk.k b (fun he=>hE _ he hb) hg hl
theorem tT(h0:μ0.le μ)(hM:bB P ρ w0 μ G nx.toNat w)(hH:HSub H G)(hb:Cn P ρ μ nt af fr)(h1:af.mode=.run)(h2:fr.mode=.run)(hk:nf P μ nt af.todo fr.todo)(hT:kI ρ μ nt af.tm fr.tmps)
  (hS:dR P ρ C.orc μ G H nx jT cs) (hn:(bL jT).Nodup):BN P ρ C.orc w0 μ0 ⟨af,jT,H,nx⟩ fr cs w:=
 ⟨μ,G,h0,hM,hH,.run nt hb h1 h2 (.plain _ _ _ _ hk hT),hS,by simp[bL,ala hk,hn]⟩
theorem Sus.finish{c c':mB}{cf:Frame}(h:Sus P ρ C.orc μ G H nx c cf){a:AV}{v:Value}(hv:aX ρ μ a v)(hf:cY a c=some c'):Cur P ρ C.orc μ G H nx c' (cf.finish v)∧pk c'=pk c:=by
 cases h with
 |wait nt hb h1 h2 h=>obtain⟨h3,h4,⟨tm2,k2,h5⟩,⟨T2,K2,h6⟩⟩:=h.finish rfl rfl rfl rfl hv hf;refine⟨?_,h4⟩;rw[h6]at h3 ⊢;subst h5;exact .run nt (hb.todo _ _ _ _) h1 h2 h3
 |unw h hm=>
  cases h with
  |run nt hb h1=>exact absurd h1 hm
  |ret nt hb h1 h2 h3 h=>rcases h3 with h3|⟨k,h3⟩<;>simp[cY,h3]at hf
  |pan nt hb v u r h1 h2 hv h3 h=>simp[cY,h3]at hf
noncomputable def cw(raw:Bool)(l:List AV)(H:T ah):List AV×T ah:=bif raw then(l,H)else bA (aS 9999) l H
theorem yZ{R:Type}(raw:Bool)(l:List AV)(H:T ah)(c:List AV→T ah→R):alb raw l H c=c (cw raw l H).1 (cw raw l H).2:=by
 cases raw
 ·show LM (ZM 9999) l H c=_;rw[yv (GD 9999)];rfl
 ·rfl
theorem LN(raw:Bool)(hM:bB P ρ w0 μ G nx.toNat w)(hH:HSub H G){l:List AV}{us:List Value}(h:aB ρ μ l us):∃μ' G',iu P ρ w0 w nx μ G H μ' G' (cw raw l H).2∧aB ρ μ' (cw raw l H).1 us:=by
 cases raw
 ·exact pZ (DC 9999) l us μ G H hM hH h
 ·exact⟨μ,G,iu.refl hM hH,h⟩
theorem GF(X:Ctx P ρ w0 C)(f:Nat)(args:List AV)(GG:Bool)(bad:SR)(c:mB→SR):GH C f args GG bad c=bad∨
  ∃p,I3 P f=some p∧GH C f args GG bad c=c {fn:=f,tm:=ic args .z .nil,todo:=[.code p.body],dfs:=[],mode:=.run,GG,vm:=none,res:=p.res}:=by
 unfold GH;split
 ·rename_i p hp;exact .inr ⟨p,X.fns f p hp,by rw[DD]⟩
 ·exact .inl rfl
theorem aiG{l:Nat}{L:Loop}{args:Array Value}(h:w.heap[l]?=some (.loop L))(hs:args.size=L.params.size) :
  (Instr.yield l args).run P w=.ok (.round l L.fn ((L.params.zip args).foldl (fun tmps (x:Nat×Value)=>tmps.setIfInBounds x.1 x.2) L.tmps) L.assign L.body) w:=by
 simp[Instr.yield,Instr.getLoop,getObj,Sem.run,h,hs]
theorem LO(hM:bB P ρ w0 μ G nx.toNat w){b:Key}{st:LS}{pd:Option aK}{fn:Nat}{tm:T AV}{res:List RV}{params:List Key}{as bd:aK}{dfs:Key}(hb:G b=some (.loop st pd fn tm res params as bd dfs)) :
  ∃l L nt ld,μ b=some l∧w.heap[l.c]?=some (.loop L)∧agY st L.state∧(∀n,Wf P n pd L.pending)∧L.fn=fn∧kI ρ μ nt tm L.tmps∧Xq params L.params.toList∧(∀k∈params,k.toNat<nt)∧alc P nt as L.assign∧alc P nt bd L.body∧μ dfs=some ld∧L.defers=ld.c∧ald P fn nt res:=by
 obtain⟨l,o,h1,h2,h3⟩:=hM.BO b _ hb;cases h3 with
 |loop st pd fn nt tm res params as bd dfs ld l L e1 e2 e3 e4 e5 e5' e6 e7 e8 e9 e10=>exact⟨l,L,nt,ld,h1,h2,e1,e2,e3,e4,e5,e5',e6,e7,e8,e9,e10⟩
theorem Ru(X:Ctx P ρ w0 C){ops:Array Oper}{i:Nat}{kZ:List Nat}{o:Oper}{po:aC}{r:OR}{tm2:T AV}(h0:μ0.le μ)(hM:bB P ρ w0 μ G nx.toNat w)(hH:HSub H G)(hb:Cn P ρ μ nt af fr)(h1:af.mode=.run)(hm:fr.mode=.run)
  (ht:fr.todo=.inRegion ops (i ::kZ) ::K) (ho:ops[i]?=some o) (Xr:OQ P nt ops o=some po) (hw:Region.wanted o (yielded ops fr.tmps)=true)
  (hE:Co P ρ μ nt o.op.operands.toList af.tm fr.eval) (ha:aOp C.orc po.op af.tm H nx=r) (hr:¬DE r)
  (hW:LP P ρ C.orc μ G H nx nt af.todo af.tm fr.todo fr.tmps) (hS:dR P ρ C.orc μ G H nx jT cs) (hn:(bL (af ::jT)).Nodup) (hT2:kI ρ μ nt tm2 fr.tmps) :
  Good P ρ C w0 μ0 rest (lone fr (cs++rest) w) (jn C r af {af with tm:=tm2,todo:=[]} jT H nx):=by
 obtain⟨lf,Xs,DF⟩:=iU Xr;have ale:Sus P ρ C.orc μ G H nx af fr:=.wait nt hb h1 hm hW;have Xt:(bL jT).Nodup:=(List.nodup_append.1 hn).2.1;cases r with
 |val a H' nx'=>exact absurd (qE _ _ _) hr
 |bad n=>exact absurd (dv _) hr
 |call f l=>
  have Ge:fr.roundOf=none∨fO o.op=false:=.inr (Cp lf (by rw[ha];intro f l e;cases e) (by rw[ha];intro n e;cases e));simp only[jn,yZ];have key : ∀ {fn : Func}, P.funcs[f]? = some fn → fn.body.isSome = true → fn.name ≠ "runtime.NumGoroutine" → ∃ args μ1 G1, step P (lone fr (cs ++ rest) w) = .next (lone (Frame.enter P f args .normal) (fr :: cs ++ rest) w) ∧
    iu P ρ w0 w nx μ G H μ1 G1 (cw (C.raw f) l H).2∧aB ρ μ1 (cw (C.raw f) l H).1 args.toList:=by
   intro fn f1 f2 f3;obtain⟨args,q1,q2⟩:=adH (w:=w) lf hE ha f1 f2 f3;obtain⟨μ1,G1,x1,x2⟩:=LN (C.raw f) hM hH q2;exact⟨args,μ1,G1,alf (P:=P) (cs:=cs++rest) hm ht ho hw Ge q1,x1,x2⟩
  generalize cw (C.raw f) l H=lh at key;obtain⟨l1,H1⟩:=lh;simp only at key ⊢;split
  ·rename_i v H2 bu adI;split
   ·rename_i af' hf;have hso:=X.sum f l1 H1 nx v H2 bu adI;obtain⟨fn,f1,f2,f3⟩:=X.has f l1 H1 nx _ adI;obtain⟨args,μ1,G1,fj,x1,x2⟩:=key f1 f2 f3;obtain⟨e,w',fR,⟨u,μ',G',rfl,y2,y3,y4,y5,y6⟩,avd,hfn,ave⟩:=hso args w μ1 G1 x1.M x1.hs x2 (fr ::cs++rest);have hS1:dR P ρ C.orc μ1 G1 H1 nx (af ::jT) (fr ::cs):=dR.kept x1.le x1.kept ⟨ale,hS⟩;have hS2:dR P ρ C.orc μ' G' H2 bu (af ::jT) (fr ::cs):=dR.kept y3 y6 hS1;obtain⟨ZO,hpk⟩:=hS2.1.finish y2 hf;refine⟨_,cs,w',Steps.trans (.head fj avd) (.one (step_leave_returned ave)),μ',G',Mu.le_trans h0 (Mu.le_trans x1.le y3),y4,y5,ZO,hS2.2,?_⟩;show(bL (af' ::jT)).Nodup;simp only[bL,hpk]at hn ⊢;exact hn
   ·trivial
  ·rcases GF X f l1 false (.bad 40 ⟨af,jT,H1,nx⟩) (fun fR=>.next ⟨fR,af ::jT,H1,nx⟩)with e|⟨p,hp,e⟩
   ·rw[e];trivial
   ·rw[e];obtain⟨fn,c,f1,f2,f3,f4,f5⟩:=vo hp;obtain⟨args,μ1,G1,fj,x1,x2⟩:=key f1 (by rw[f2];rfl) f3;refine⟨_,fr ::cs,w,.one fj,μ1,G1,Mu.le_trans h0 x1.le,x1.M,x1.hs,yH hp x2 false,dR.kept x1.le x1.kept ⟨ale,hS⟩,?_⟩;show(bL (_ ::af ::jT)).Nodup;simp only[bL,pk,List.nil_append];exact hn
 |yld key l=>
  have Ge:fr.roundOf=none∨fO o.op=false:=.inr (Cp lf (by rw[ha];intro f l e;cases e) (by rw[ha];intro n e;cases e));simp only[jn];split
  ·rename_i st pd fn tm res params as bd dfs hk;rcases Wg params l tm (SR.bad 41 ⟨af,jT,H,nx⟩) (fun tm=>.next ⟨{fn,tm,todo:=[.code as,.beginRound,.code bd],dfs:=[],mode:=.run,GG:=false,vm:=some key,res},af ::jT,H,nx⟩)with e|⟨hlen,e⟩
   ·rw[e];trivial
   ·rw[e];obtain⟨args,lc,q1,q2,q3⟩:=aiH (w:=w) lf hE ha;obtain⟨lc',L,ntl,ld,e0,e0',e1,e2,e3,e4,e5,e5',e6,e7,e8,e9,e10⟩:=LO hM (hH _ _ hk);rw[q1]at e0;cases e0;have yw:args.size=L.params.size:=by
     have a1:=q3.length;have a2:(params.map Key.toNat).length=L.params.toList.length:=by rw[e5]
     simp at a1 a2;omega
    rw[aiG e0' yw]at q2;have fj:=alg (P:=P) (cs:=cs++rest) hm ht ho hw Ge q2;refine⟨_,fr ::cs,w,.one fj,μ,G,h0,hM,hH,?_,⟨ale,hS⟩,?_⟩
    ·refine .run ntl ⟨e3,e10,trivial,rfl,⟨_,q1,rfl⟩,fun _=>rfl⟩ rfl rfl (.plain _ _ _ _ (.cons _ _ _ _ (.code _ _ e6) (.cons _ _ _ _ .beginRound (.cons _ _ _ _ (.code _ _ e7) .nil))) ?_);have:=ZP (ks:=params) e5' hlen q3 e4;have hl:(L.params.zip args).foldl (fun tmps (x:Nat×Value)=>tmps.setIfInBounds x.1 x.2) L.tmps=((params.map Key.toNat).zip args.toList).foldl (fun tmps (x:Nat×Value)=>tmps.setIfInBounds x.1 x.2) L.tmps:=by rw[e5,←Array.foldl_toList,Array.toList_zip]
     show kI ρ μ ntl (aqf params l tm) ((L.params.zip args).foldl (fun tmps (x:Nat×Value)=>tmps.setIfInBounds x.1 x.2) L.tmps);rw[hl];exact this
    ·show(bL (_ ::af ::jT)).Nodup;simp only[bL,pk,List.nil_append];exact hn
  ·trivial
 |pan a=>
  have Ge:fr.roundOf=none∨fO o.op=false:=.inr (Cp lf (by rw[ha];intro f l e;cases e) (by rw[ha];intro n e;cases e));obtain⟨v,q1,q2⟩:=aiI (w:=w) lf hE ha;have fj:=alh (P:=P) (cs:=cs++rest) hm ht ho hw Ge q1;refine⟨_,cs,w,.one fj,μ,G,h0,hM,hH,?_,hS,?_⟩
  ·exact .pan nt ⟨hb.fn,hb.fnr,hb.dfs,hb.kind,hb.vm,hb.rd⟩ a v false rfl rfl q2 rfl hT2
  ·show(bL (_ ::jT)).Nodup;simp only[bL,pk,List.nil_append];exact Xt
 |dfr f l=>
  simp only[jn];split
  ·rename_i hrn;split
   ·rename_i af' hf;obtain⟨c,ws,vs,q0,q1,q2,q3⟩:=aiJ (w:=w) lf hE ha;have LQ:fr.roundOf=none:=by
     have:=hb.vm;rw[hrn]at this;cases hh:fr.roundOf with
     |none=>rfl
     |some x=>rw[hh]at this;exact this.elim
    have fj:=ali (P:=P) (cs:=cs++rest) hm ht ho hw (.inl LQ) q2;obtain⟨h3,h4,⟨t2,k2,h5⟩,⟨T2,K2,h6⟩⟩:=hW.finish (fr:=fr) rfl rfl rfl rfl (aX.tuple (ρ:=ρ) (μ:=μ) [] #[] .nil) hf;have Qd:({fr with defers:=⟨.fn (.func f) ws,vs⟩ ::fr.defers}:Frame).finish undef={fr with defers:=⟨.fn (.func f) ws,vs⟩ ::fr.defers,tmps:=T2,todo:=K2}:=by have hf1:=cT ht ho undef;have hf2:=cT (fr:={fr with defers:=⟨.fn (.func f) ws,vs⟩ ::fr.defers}) ht ho undef;rw[hf2];have h6:fr.finish undef={fr with tmps:=T2,todo:=K2}:=h6;rw[hf1]at h6;have e1:=congrArg Frame.tmps h6;have e2:=congrArg Frame.todo h6;simp only at e1 e2;rw[e1,e2]
    rw[Qd]at fj;have h3:ZQ P ρ C.orc μ G H nx nt af'.todo af'.tm (fr.finish undef).todo (fr.finish undef).tmps:=h3;have h6:fr.finish undef={fr with tmps:=T2,todo:=K2}:=h6;rw[h6]at h3;refine⟨_,cs,w,.one fj,μ,G,h0,hM,hH,?_,hS,?_⟩
    ·subst h5;exact .run nt ⟨hb.fn,hb.fnr,⟨⟨ws,rfl,q3⟩,hb.dfs⟩,hb.kind,hb.vm,hb.rd⟩ h1 hm h3
    ·have:pk {af' with dfs:=Xu.fn f l ::af'.dfs}=pk af:=by rw[←h4];rfl
     show(bL (_ ::jT)).Nodup;simp only[bL,this];exact hn
   ·trivial
  ·trivial
 |recover=>
  simp only[jn];split
  ·rename_i c az5 hrn hdf;have LQ:fr.roundOf=none:=by
    have:=hb.vm;rw[hrn]at this;cases hh:fr.roundOf with
    |none=>rfl
    |some x=>rw[hh]at this;exact this.elim
   have hkd:fr.kind=.deferred:=by rw[hb.kind,hdf];rfl
   have q1:=UM (P:=P) (w:=w) (ev:=fr.eval) lf ha;cases cs with
   |nil=>exact hS.elim
   |cons cf yu=>
   split
   ·rename_i v Kw;split
    ·rename_i af' hf;cases hS.1 with
     |wait Q2 fF yG=>rw[yG]at Kw;cases Kw
     |unw UN bW=>
      cases UN with
      |run Q2 fF yG=>rw[yG]at Kw;cases Kw
      |ret Q2 fF yG=>rw[yG]at Kw;cases Kw
      |pan Q2 fF v' u r' yG Nq Xv UA hT'=>
       rw[yG]at Kw;simp only[alj.pan.injEq]at Kw;obtain⟨rfl,rfl⟩:=Kw;have adK:tryRecover fr (cf ::(yu++rest))=some (u,{cf with mode:=.panicking [{v:=u,recovered:=true}]} ::(yu++rest)):=by simp[tryRecover,hkd,Nq]
       have fj:=Qe (P:=P) (cs:=cf ::(yu++rest)) hm ht ho hw LQ q1 adK;obtain⟨ZO,hpk⟩:=ale.finish Xv hf;refine⟨_,{cf with mode:=.panicking [{v:=u,recovered:=true}]} ::yu,w,.one fj,μ,G,h0,hM,hH,ZO,⟨.unw (.pan Q2 ⟨fF.fn,fF.fnr,fF.dfs,fF.kind,fF.vm,fF.rd⟩ v' u true rfl rfl Xv UA hT') (by intro e;cases e),hS.2⟩,?_⟩;show(bL (_ ::_ ::az5)).Nodup;simp only[bL,hpk]at hn ⊢;exact hn
    ·trivial
   ·rename_i Kw;split
    ·rename_i af' hf;cases hS.1 with
     |wait Q2 fF yG=>rw[yG]at Kw;cases Kw
     |unw UN bW=>
      have adK:tryRecover fr (cf ::(yu++rest))=none:=by
       cases UN with
       |run Q2 fF yG=>rw[yG]at Kw;cases Kw
       |ret Q2 fF yG Nq=>simp[tryRecover,hkd,Nq]
       |pan Q2 fF v' u r' yG=>rw[yG]at Kw;cases Kw
      have fj:=Qf (P:=P) (cs:=cf ::(yu++rest)) hm ht ho hw LQ q1 adK;obtain⟨ZO,hpk⟩:=ale.finish (.nili) hf;refine⟨_,cf ::yu,w,.one fj,μ,G,h0,hM,hH,ZO,hS,?_⟩;show(bL (_ ::_ ::az5)).Nodup;simp only[bL,hpk]at hn ⊢;exact hn
    ·trivial
   ·trivial
  ·trivial
theorem alk(X:Ctx P ρ w0 C){l:List aC}(h0:μ0.le μ)(hM:bB P ρ w0 μ G nx.toNat w)(hH:HSub H G)(hb:Cn P ρ μ nt af fr)(h1:af.mode=.run)(hm:fr.mode=.run)
  {ops:Array Oper} {rs:List Nat} (hp:lY P nt ops rs=some l) (ht:fr.todo=.inRegion ops rs ::K) (hk:nf P μ nt k K) (hT:kI ρ μ nt af.tm fr.tmps) (hS:dR P ρ C.orc μ G H nx jT cs) (hn:(bL jT).Nodup) :
  Good P ρ C w0 μ0 rest (lone fr (cs++rest) w) (match kJ C.orc l af.tm H nx with
   |.fin tm h nx=>.next ⟨{af with tm,todo:=k},jT,h,nx⟩
   |.ev r rest tm h nx=>jn C r {af with tm,todo:=.ops rest ::k} {af with tm,todo:=[]} jT h nx):=by
 have key:=LR (P:=P) (ρ:=ρ) (orc:=C.orc) (nt:=nt) (w0:=w0) (cs:=cs++rest) (K:=K) (ops:=ops) X.orc l rs fr w μ G H nx af.tm hp hM hH hT hm ht;cases Qa:kJ C.orc l af.tm H nx with
 |fin aD h' nx'=>rw[Qa]at key;obtain⟨dT,w',μ',G',s1,s2,s3,s4,s5,s6⟩:=key;exact⟨_,cs,w',s1,tT (Mu.le_trans h0 s2) s3 s4 ((hb.mono s2).todo _ _ _ _) h1 hm (hk.mono s2) s5 (hS.kept s2 s6) hn⟩
 |ev r l' aD h' nx'=>
  rw[Qa]at key;rcases key with⟨n,rfl⟩|⟨dT,w',μ',G',i,kZ,po,ll,o,s1,s2,s3,s4,s5,s6,rfl,s8,s9,s10,s11,s12,s13⟩
  ·trivial
  ·have hE:=Ib (P:=P) (nt:=nt) (ops:=ops) (o:=o) (fr:={fr with tmps:=dT,todo:=.inRegion ops (i ::kZ) ::K}) s3 (fun k a _ hg=>s5.2 k a hg);refine Good.steps s1 ?_;have hpk:(bL ({af with tm:=aD,todo:=.ops (po ::ll) ::k} ::jT)).Nodup:=by simp only[bL,pk,List.nil_append];exact hn
   exact Ru (fr:={fr with tmps:=dT,todo:=.inRegion ops (i ::kZ) ::K}) (af:={af with tm:=aD,todo:=.ops (po ::ll) ::k}) X (Mu.le_trans h0 s2) s3 s4 ((hb.mono s2).todo _ _ _ _) h1 hm rfl s9 s10 s11 hE s12 s13
    (.ops po ll ops i kZ k K aD dT s8 (hk.mono s2) s5) (hS.kept s2 s6) hpk s5
theorem OX(X:Ctx P ρ w0 C){ops:Array Oper}{pl:List aC}{bf:List Nat}{g:Gh}{xy:List IIt}{items:List aN}{jm:SD}{av:List (Nat×Key×ah)}{rs:List Nat}(h0:μ0.le μ)(hM:bB P ρ w0 μ G nx.toNat w)(hH:HSub H G)(hb:Cn P ρ μ nt af fr)(h1:af.mode=.run)(hm:fr.mode=.run)
  (hf:xy.mapM (Gl pl)=some items) (hc:BH ops pl bf g.L xy=true) (hd:NJ ops jm.ds∧Cj bf jm.jK=true) (ht:fr.todo=.inRegion ops rs ::K) (hk:nf P μ nt k K)
  (S:gW P ρ C.orc nt ops pl bf μ G H nx g (fun _=>False) av af.tm fr.tmps rs) (hS:dR P ρ C.orc μ G H nx jT cs) (hn:(qF av++bL jT).Nodup) :
  Good P ρ C w0 μ0 rest (lone fr (cs++rest) w) (match iH C.orc jm.jK items av af.tm H nx with
   |.fin tm h nx=>.next ⟨{af with tm,todo:=k},jT,h,nx⟩
   |.ev r rest av tm h nx=>Kx jm.ds tm fun aD=>jn C r {af with tm,todo:=.staged rest jm av ::k} {af with tm:=aD,todo:=[]} jT h nx):=by
 have key:=ZR (P:=P) (ρ:=ρ) (orc:=C.orc) (nt:=nt) (w0:=w0) (cs:=cs++rest) (K:=K) (ops:=ops) (pl:=pl) (bf:=bf) hd.2 X.orc xy.length xy items rs g fr w μ G H nx af.tm av (fE _) hf hc hM hH S hm ht;have avh:∀x∈qF av,x∉bL jT:=fun x hx ZB=>(List.nodup_append.1 hn).2.2 x hx x ZB rfl;have Xt:=(List.nodup_append.1 hn).2.1;cases Qa:iH C.orc jm.jK items av af.tm H nx with
 |fin aD h' nx'=>rw[Qa]at key;obtain⟨dT,w',μ',G',s1,s2,s3,s4,s5,s6⟩:=key;exact⟨_,cs,w',s1,tT (Mu.le_trans h0 s2) s3 s4 ((hb.mono s2).todo _ _ _ _) h1 hm (hk.mono s2) s5 (hS.atg s2 s6 avh) Xt⟩
 |ev r Ky pend' aD h' nx'=>
  rw[Qa]at key;simp only[qa];rcases key with⟨n,rfl⟩|⟨dT,w',μ',G',g',i,po,o,ad,os,UO,l8,kZ,s1,s2,s3,s4,rfl,s6,s7,s8,s9,s10,s11,s12,S',s14,s15,s16,s17,s18,s19,s20⟩
  ·trivial
  ·have hsl:=S'.Rv s9 s10 s14;have hE:=Ib (P:=P) (nt:=nt) (ops:=ops) (o:=o) (fr:={fr with tmps:=dT,todo:=.inRegion ops (i ::kZ) ::K}) s3 hsl;refine Good.steps s1 ?_;have hpk:(bL ({af with tm:=aD,todo:=.staged (.H i po ad ::.R os ::l8) jm pend' ::k} ::jT)).Nodup:=by
    simp only[bL,pk];refine List.nodup_append.2 ⟨S'.nk,Xt,?_⟩;rintro x hx y hy rfl;rcases s20 x hx with h|h
    ·exact avh x h hy
    ·exact absurd (atf hS x hy) (by omega)
   exact Ru (fr:={fr with tmps:=dT,todo:=.inRegion ops (i ::kZ) ::K}) (af:={af with tm:=aD,todo:=.staged (.H i po ad ::.R os ::l8) jm pend' ::k}) X (Mu.le_trans h0 s2) s3 s4 ((hb.mono s2).todo _ _ _ _) h1 hm rfl s14 s15 s16 hE s17 s18
    (.staged ops pl bf g' i po ad os UO l8 jm pend' k K aD dT kZ s6 s7 s8 s9 s10 hd (hk.mono s2) s11 s12 S') (hS.atg s2 s19 avh) hpk (S'.erase hd.1)
end
section
variable{P:Program}{nt:Nat}{ops:Array Oper}
theorem akE{pl:List aC}{x:IIt}{y:aN}(h:Gl pl x=some y):iOf y=x:=by
 cases x with
 |L i=>obtain⟨a,_,rfl⟩:=map_some h;rfl
 |A i=>obtain⟨a,_,rfl⟩:=map_some h;rfl
 |H i l=>obtain⟨a,_,rfl⟩:=map_some h;rfl
 |R os=>
  obtain⟨l,hl,rfl⟩:=map_some h;show IIt.R (l.map (·.1))=IIt.R os;congr 1
  induction os generalizing l with
  |nil=>simp at hl;subst hl;rfl
  |cons i os ih=>obtain⟨b,r,e1,e2,rfl⟩:=jH hl;obtain⟨o,_,rfl⟩:=map_some e1;simp[ih r e2 (by simp[Gl,e2])]
theorem ac6{pl:List aC}:∀{xy:List IIt} {items:List aN},xy.mapM (Gl pl)=some items→items.map iOf=xy
 | [],items,h=>by simp at h;subst h;rfl
 |x ::xy,items,h=>by obtain⟨y,r,e1,e2,rfl⟩:=jH h;simp[akE e1,ac6 e2]
theorem Uw:∀{pl:List aC} {po:aC} {d:Key},po∈pl→po.dst=some d→d∈dstsOf pl
 | [],_,_,h,_=>by cases h
 |o ::l,po,d,h,hd=>by
  rcases GP.1 h with e|e
  ·subst e;simp[dstsOf,hd]
  ·have:=Uw e hd;simp only[dstsOf];split
   ·exact List.mem_cons_of_mem _ this
   ·exact this
theorem V8{pc:aK}(h:Lz P nt ops false=some pc):∃l,lY P nt ops (List.range ops.size)=some l∧pc=.ops l:=by
 unfold Lz at h;split at h
 ·cases h
 ·rename_i l hl;simp only[cond_false,dP]at h;exact⟨l,hl,h.symm⟩
def apq(P:Program)(nt:Nat)(ops:Array Oper)(bf:List Nat)(items:List aN)(d:SD):Prop:=∃pl xy jK,d=⟨dstsOf pl,jK⟩∧Reg P nt ops pl bf∧xy.mapM (Gl pl)=some items∧BH ops pl bf 0 xy=true∧NJ ops (dstsOf pl)∧Cj bf jK=true
theorem Lj{l:List aC}(hl:lY P nt ops (List.range ops.size)=some l){bf hs:List Nat}{items:List aN}{d:SD}(h:Ly ops l bf hs=some (items,d)):apq P nt ops bf items d:=by
 unfold Ly at h;simp only at h;split at h
 ·rename_i st fj;split at h
  ·rename_i st' asR;cases pB:(ava ops l bf (st'.map iOf)&&Cj bf (H7 (l.zip bf) (l.zip bf) 0))with
   |false=>rw[pB]at h;cases h
   |true=>
    rw[pB]at h;simp only[cond_true,dP,Prod.mk.injEq]at h;obtain⟨rfl,rfl⟩:=h;simp only[ava,jq]at pB;obtain⟨pB,ac4⟩:=pB;have as2:Reg P nt ops l bf:=⟨hl,pB.1⟩;refine⟨l,st'.map iOf,_,rfl,as2,by rw[ac6 asR];exact asR,pB.2,?_,ac4⟩;intro j t hj;obtain⟨o,po,ho,Xr,aLe⟩:=as2.at (Oq hj);obtain⟨_,_,hd⟩:=iU Xr;have hjd:o.dst=some t:=by simpa[nz,ho]using hj
    rcases hd with⟨e,_⟩|⟨k,e1,e2,_⟩
    ·rw[e]at hjd;cases hjd
    ·rw[hjd]at e1;simp only[dP]at e1;exact⟨k,Uw (List.mem_of_getElem? aLe) e2,e1.symm⟩
  ·cases h
 ·cases h
theorem Zv{pc:aK}(h:Lz P nt ops true=some pc):Edg ops (oY ops)∧((∃items d,pc=.staged items d∧apq P nt ops (oY ops) items d)∨
  ∃a b s1 d1 s2 d2,pc=.both s1 d1 s2 d2∧a<ops.size∧b<ops.size∧a≠b∧apq P nt ops (IA ops.size (oY ops) a b) s1 d1∧apq P nt ops (IA ops.size (oY ops) b a) s2 d2):=by
 unfold Lz at h;split at h
 ·cases h
 ·rename_i l hl;simp only[cond_true]at h;cases he:Lx ops (oY ops)with
  |false=>rw[he]at h;cases h
  |true=>
   rw[he]at h;simp only[cond_true]at h;refine⟨⟨he⟩,?_⟩;split at h
   ·rename_i st d fj;simp only[dP]at h;exact .inl ⟨st,d,h.symm,Lj hl fj⟩
   ·split at h
    ·rename_i a b hab;cases hc:(Nat.blt a ops.size&&Nat.blt b ops.size && !(Nat.beq a b))with
     |false=>rw[hc]at h;cases h
     |true=>
      rw[hc]at h;simp only[cond_true]at h;simp only[jq,bltN_eq,decide_eq_true_eq,Bool.not_eq_true',beqN_eq,decide_eq_false_iff_not]at hc;split at h
      ·rename_i s1 d1 s2 d2 h1 h2;simp only[dP]at h;exact .inr ⟨a,b,s1,d1,s2,d2,h.symm,hc.1.1,hc.1.2,hc.2,Lj hl h1,Lj hl h2⟩
      ·cases h
    ·cases h
end
section
variable{P:Program}{ρ:Nat→Int}{C:bP}{nt:Nat}{w0:W0}{w:World}{μ0 μ:Mu}{G:Key→Option ah}{H:T ah}{nx:Key}{rest cs:List Frame}{fr:Frame}{af:mB}{jT:List mB}{K:List Item}{k:List de}
theorem gW.init{ops:Array Oper}{pl:List aC}{bf:List Nat}(R:Reg P nt ops pl bf){tm:T AV}{tmps:Array Value}(hT:kI ρ μ nt tm tmps){rs:List Nat}(hv:sI ops.size bf (fun _=>false) rs) :
  gW P ρ C.orc nt ops pl bf μ G H nx {L:=0,D:=fun _=>false,a0:=fun k=>ag k tm,val:=fun _=>none} (fun _=>False) [] tm tmps rs:=by
 refine⟨R,hv,?_,?_,?_,?_,?_,?_,hT.1,?_,?_,?_,?_,?_,?_⟩
 ·intro i h;cases h
 ·intro i h;cases h
 ·intro i h;rw[show hasB 0 i=false from Ie i]at h;cases h
 ·intro i h;rw[show hasB 0 i=false from Ie i]at h;cases h
 ·intro k j h;rw[show hasB 0 j=false from Ie j]at h;cases h
 ·intro k _;rfl
 ·intro k j a h;cases h
 ·intro k a _ h;exact hT.2 k a h
 ·intro i h;rw[show hasB 0 i=false from Ie i]at h;cases h
 ·intro x h;cases h
 ·exact List.nodup_nil
 ·exact List.nodup_nil
theorem Zw(hM:bB P ρ w0 μ G nx.toNat w){x:Operand}{px:PX}{a:AV}(hp:pX P nt x=some px)(ha:px.at af.tm=some a)(hT:kI ρ μ nt af.tm fr.tmps):aX ρ μ a (fr.eval x):=
 aiA hM hp ha fun t k _ hk hg=>by rw[←hk];exact hT.2 k a hg
theorem Th(hM:bB P ρ w0 μ G nx.toNat w)(hH:HSub H G){b:Key}{st st':LS}{pd pd':Option aK}{fn:Nat}{tm:T AV}{res:List RV}{params:List Key}{as bd:aK}{dfs:Key}(hb:ag b H=some (.loop st pd fn tm res params as bd dfs))
  {l:Loc} (hl:μ b=some l) {L:Loop} (hL:w.heap[l.c]?=some (.loop L)) {s:LoopState} {pc:Option Code} (hs:agY st' s) (hpd:(∀n,Wf P n pd L.pending)→∀n,Wf P n pd' pc) :
  let w':={w with heap:=w.heap.setIfInBounds l.c (.loop {L with state:=s,pending:=pc})}
  let B':=ah.loop st' pd' fn tm res params as bd dfs
  ∃μ' G',μ.le μ'∧bB P ρ w0 μ' G' nx.toNat w'∧HSub (aw b (some B') H) G'∧Kept H (aw b (some B') H) nx nx μ μ' G G':=by
 intro w' B';have hg:=hH _ _ hb;obtain⟨l',L',ntl,ld,e0,e0',e1,e2,e3,e4,e5,e5',e6,e7,e8,e9,e10⟩:=LO hM hg;rw[hl]at e0;cases e0;rw[hL]at e0';cases e0';have Oc:l.c<w.heap.size:=hM.AX b l hl;have tY:w0.heap.size≤l.c:=(hM.own b _ l hg hl).resolve_left (by simp[ah.ro]);have hle:μ.le (μ.put b l):=Mu.G9 (.inr hl);obtain⟨m1,m2⟩:=hM.put (w':=w') b B' l (.loop {L with state:=s,pending:=pc}) (nx':=nx.toNat) (.inr hl)
  ⟨rfl,rfl,rfl,by simp[w'],fun j hj _=>by show(w.heap.setIfInBounds l.c _)[j]?=_;rw[zqn (Ne.symm hj)],fE _⟩
  (by show(w.heap.setIfInBounds l.c _)[l.c]?=_;simp[Oc])
  (.loop st' pd' fn ntl tm res params as bd dfs ld l _ hs (hpd e2) e3 (e4.mono hle) e5 e5' e6 e7 (hle.l _ _ e8) e9 e10)
  (fun b' B' l' g m' ne=>hM.sep b' b B' _ l' l g hg m' hl ne) tY (fE _) (hM.new b l hl) (hM.lo0 hg hl rfl)
 exact⟨_,_,m1,m2,hH.set b (some B'),Cy hb hl _ _⟩
inductive as3(P:Program)(nt:Nat)(fr:Frame):Option aK→Option Code→Prop
 |fin (h:fr.todo=[]):as3 P nt fr none none
 |ret (K:List Item) (h:fr.todo=.code .ret ::K):as3 P nt fr (some .ret) (some .ret)
 |exit (id:Nat) (K:List Item) (h:fr.todo=.code (.exit id) ::K) (he:exitTo id K=none):as3 P nt fr (some (.exit id)) (some (.exit id))
theorem Zx{l:Nat}{L:Loop}(h:w.heap[l]?=some (.loop L))(j:Option Code):(Instr.endRound l j).run P w=.ok (.bool j.isNone) {w with heap:=w.heap.setIfInBounds l (.loop {L with state:=if j.isNone then .ready else .done,pending:=j})}:=by simp[Instr.endRound,Instr.getLoop,getObj,setObj,Sem.run,h]
theorem Ti{l:Nat}{L:Loop}(h:w.heap[l]?=some (.loop L))(hs:L.state=.ready):(Instr.beginRound l).run P w=.ok () {w with heap:=w.heap.setIfInBounds l (.loop {L with state:=.busy,pending:=L.pending})}:=by simp[Instr.beginRound,Instr.getLoop,getObj,setObj,Sem.run,h,hs]
theorem aaU{l:Nat}{L:Loop}(h:w.heap[l]?=some (.loop L))(hs:L.state≠.busy):(Instr.endLoop l).run P w=.ok L.pending {w with heap:=w.heap.setIfInBounds l (.loop {L with state:=.exhausted,pending:=L.pending})}:=by simp[Instr.endLoop,Instr.getLoop,getObj,setObj,Sem.run,h,hs]
theorem KT(X:Ctx P ρ w0 C){j:Option aK}{jc:Option Code}(hj:as3 P nt fr j jc)(h0:μ0.le μ)(hM:bB P ρ w0 μ G nx.toNat w)(hH:HSub H G)(hb:Cn P ρ μ nt af fr)(h1:af.mode=.run)(hm:fr.mode=.run)
  (hk:af.todo=[]∨(∃k,af.todo=.code .ret ::k)∨∃id k,af.todo=.code (.exit id) ::k) (hjr:j=some .ret→∃k,af.todo=.code .ret ::k) (hjn:j=none→af.todo=[]) (hT:kI ρ μ nt af.tm fr.tmps) (hS:dR P ρ C.orc μ G H nx jT cs) (hn:(bL jT).Nodup) :
  Good P ρ C w0 μ0 rest (lone fr (cs++rest) w) (KJ j af jT H nx):=by
 unfold KJ;split
 ·rename_i hrn;have LQ:fr.roundOf=none:=by
   have:=hb.vm;rw[hrn]at this;cases hh:fr.roundOf with
   |none=>rfl
   |some x=>rw[hh]at this;exact this.elim
  cases hj with
  |fin ht=>refine⟨_,cs,w,.one (axx hm ht LQ),μ,G,h0,hM,hH,.ret nt ⟨hb.fn,hb.fnr,hb.dfs,hb.kind,hb.vm,hb.rd⟩ rfl rfl (.inl (hjn rfl)) hT,hS,?_⟩;show(bL (_ ::jT)).Nodup;simp only[bL,pk,hjn rfl,List.nil_append];exact hn
  |ret KK ht=>obtain⟨kk,FQ⟩:=hjr rfl;refine⟨_,cs,w,.one (axy hm ht LQ),μ,G,h0,hM,hH,.ret nt ⟨hb.fn,hb.fnr,hb.dfs,hb.kind,hb.vm,hb.rd⟩ rfl rfl (.inr ⟨kk,FQ⟩) hT,hS,?_⟩;show(bL (_ ::jT)).Nodup;simp only[bL,pk,FQ,List.nil_append];exact hn
  |exit id KK ht he=>trivial
 ·rename_i key hrn;cases jT with
  |nil=>trivial
  |cons c jT=>
  cases cs with
  |nil=>exact hS.elim
  |cons cf cs=>
  have hdf:af.GG=false:=hb.rd (by rw[hrn];intro e;cases e);have Nv:fr.kind=.normal:=by rw[hb.kind,hdf];rfl
  have LQ:∃lc,μ key=some lc∧fr.roundOf=some lc.c:=by
   have:=hb.vm;rw[hrn]at this;cases hh:fr.roundOf with
   |none=>rw[hh]at this;exact this.elim
   |some x=>rw[hh]at this;obtain⟨lc,e1,e2⟩:=this;exact⟨lc,e1,by rw[e2]⟩
  obtain⟨lc,DL,LQ⟩:=LQ;simp only;split
  ·rename_i st pd fn tm res params as bd dfs LK;simp only[sTCe];obtain⟨lc',L,ntl,ld,e0,e0',e1,e2,e3,e4,e5,e5',e6,e7,e8,e9,e10⟩:=LO hM (hH _ _ LK);rw[DL]at e0;cases e0;split
   ·rename_i c' hf;have hpd:(∀n,Wf P n pd L.pending)→∀n,Wf P n j jc:=by
     intro _ Q2;cases hj with
     |fin ht=>trivial
     |ret KK ht=>exact(rfl:ir P Q2 .ret=some .ret)
     |exit id KK ht he=>exact(rfl:ir P Q2 (.exit id)=some (.exit id))
    have hsr:agY (match (generalizing:=false) j with|none=>LS.ready|some _=>LS.done) (if jc.isNone then .ready else .done):=by cases hj<;>trivial
    obtain⟨μ',G',g1,g2,g3,g4⟩:=Th hM hH LK DL e0' hsr hpd;have eM:=Zx (P:=P) e0' jc;have fj:step P (lone fr (cf ::cs++rest) w)=.next (lone (cf.finish (.bool jc.isNone)) (cs++rest) {w with heap:=w.heap.setIfInBounds lc.c (.loop {L with state:=if jc.isNone then .ready else .done,pending:=jc})}):=by
     cases hj with
     |fin ht=>exact TQ hm ht LQ Nv eM
     |ret KK ht=>exact YO hm ht LQ Nv eM
     |exit id KK ht he=>exact VB hm ht he LQ Nv eM
    have hS':=hS.kept g1 g4;have hbv:aX ρ μ' (.bool (match (generalizing:=false) j with|none=>true|some _=>false)) (.bool jc.isNone):=by cases hj<;>exact .bool _
    obtain⟨q1,q2⟩:=hS'.1.finish hbv hf;refine⟨_,cs,_,.one fj,μ',G',Mu.le_trans h0 g1,g2,g3,q1,hS'.2,?_⟩;show(bL (c' ::jT)).Nodup;simp only[bL,q2]at hn ⊢;exact hn
   ·trivial
  ·trivial
theorem V9{fn:FuncId}{tmps:Array Value}{params:Array Tmp}{as bd:Code}:(Instr.enterLoop fn tmps params as bd none).run P w =
  .ok (w.heap.size+1,[⟨.collected w.heap.size,#[]⟩]) ((w.alloc (.deferred (some []))).alloc (.loop {state:=.ready,pending:=none,fn,tmps,params,assign:=as,body:=bd,defers:=w.heap.size})):=by
 simp[Instr.enterLoop,newObj,Sem.run]
theorem Ux{nt:Nat}:∀{l:List Nat} {ks:List Key},l.mapM (I2 nt)=some ks→Xq ks l∧∀k∈ks,k.toNat<nt
 | [],ks,h=>by simp at h;subst h;exact⟨rfl,fun _ h=>by cases h⟩
 |t ::l,ks,h=>by
  obtain⟨k,r,e1,e2,rfl⟩:=jH h;obtain⟨h1,h2⟩:=Ux e2;obtain⟨h3,h4⟩:=pR e1;refine⟨?_,fun q hq=>?_⟩
  ·show(k ::r).map Key.toNat=t ::l;rw[ZC,h3,h1]
  ·rcases GP.1 hq with e|e
   ·rw[e,h3];exact h4
   ·exact h2 q e
theorem ajs(X:Ctx P ρ w0 C){pc:aK}{c:Code}(hc:ir P nt c=some pc)(h0:μ0.le μ)(hM:bB P ρ w0 μ G nx.toNat w)(hH:HSub H G)(hb:Cn P ρ μ nt af fr)(h1:af.mode=.run)(hm:fr.mode=.run)
  (DK:af.todo=.code pc ::k) (ht:fr.todo=.code c ::K) (hk:nf P μ nt k K) (hT:kI ρ μ nt af.tm fr.tmps) (hS:dR P ρ C.orc μ G H nx jT cs) (hn:(bL jT).Nodup) :
  Good P ρ C w0 μ0 rest (lone fr (cs++rest) w) (b9 C af jT H nx):=by
 have go:∀(k':List de) (K':List Item),nf P μ nt k' K'→step P (lone fr (cs++rest) w)=.next (lone {fr with todo:=K'} (cs++rest) w)→Good P ρ C w0 μ0 rest (lone fr (cs++rest) w) (.next ⟨{af with todo:=k'},jT,H,nx⟩):=by intro k' K' Jn fj;exact⟨_,cs,w,.one fj,tT h0 hM hH (hb.todo af.tm k' fr.tmps K') h1 hm Jn hT hS hn⟩
 unfold b9;rw[DK];cases c with
 |skip=>simp only[ir,dP]at hc;subst hc;exact go _ _ hk (arS hm ht)
 |region id ops draw=>
  simp only[ir]at hc;cases draw with
  |false=>obtain⟨l,hl,rfl⟩:=V8 hc;exact go _ _ (.cons _ _ _ _ (.ops _ _ _ hl) hk) (ajT hm ht)
  |true=>
   obtain⟨aDg,Fk⟩:=Zv hc;obtain⟨t,fj⟩:=arW (P:=P) (cs:=cs++rest) (w:=w) hm ht;rw[X.mix]at fj;have hv:=aDg.ord (D:=fun _=>false) (fun i o h=>by cases h) (Uy aDg.down t);have one:∀(bf:List Nat) (items:List aN) (d:SD),apq P nt ops bf items d→sI ops.size bf (fun _=>false) (Region.schedule true ops t)→
     ∃fR yu w',Steps P (lone fr (cs++rest) w) (lone fR (yu++rest) w')∧BN P ρ C.orc w0 μ0 ⟨{af with todo:=.staged items d [] ::k},jT,H,nx⟩ fR yu w':=by
    rintro bf items d ⟨pl,xy,jK,rfl,as2,hf,avK,hd,ac4⟩ hv;refine⟨_,cs,_,.one fj,μ,G,h0,hM.drawn _ (Nat.le_succ _),hH,.run nt (hb.todo af.tm _ fr.tmps _) h1 hm (.ready ops pl _ _ xy items _ [] k K _ _ _ hf avK ⟨hd,ac4⟩ hk (gW.init as2 hT hv)),hS,?_⟩;show(bL (_ ::jT)).Nodup;simp only[bL,pk,List.map_nil,List.nil_append];exact hn
   rcases Fk with⟨items,d,rfl,pB⟩|⟨a,b,s1,d1,s2,d2,rfl,ha,wK,bW,aLg,aLh⟩
   ·exact one _ _ _ pB hv
   ·rcases sI.two ha bW rfl rfl (fun i h=>by cases h) wK hv with q|q
    ·exact .inl (one _ _ _ aLg q)
    ·exact .inr (one _ _ _ aLh q)
 |seq a b=>
  simp only[ir]at hc;split at hc
  ·rename_i a' b' ha fF;cases hc;exact go _ _ (.cons _ _ _ _ (.code _ _ ha) (.cons _ _ _ _ (.code _ _ fF) hk)) (axw hm ht)
  ·cases hc
 |cond x a b=>
  simp only[ir]at hc;split at hc
  ·rename_i x' a' b' hx ha fF;cases hc;simp only;split
   ·rename_i hxa;have hv:=Zw hM hx hxa hT;have he:fr.eval x=.bool true:=by generalize fr.eval x=u at hv;cases hv;rfl
    exact go _ _ (.cons _ _ _ _ (.code _ _ ha) hk) (ahV hm ht he)
   ·rename_i hxa;have hv:=Zw hM hx hxa hT;have he:fr.eval x=.bool false:=by generalize fr.eval x=u at hv;cases hv;rfl
    exact go _ _ (.cons _ _ _ _ (.code _ _ fF) hk) (ahV hm ht he)
   ·trivial
  ·cases hc
 |block id a=>
  simp only[ir]at hc;split at hc
  ·rename_i a' ha;cases hc;exact go _ _ (.cons _ _ _ _ (.code _ _ ha) (.cons _ _ _ _ (.inBlock _) hk)) (anG hm ht)
  ·cases hc
 |loop a=>
  simp only[ir]at hc;split at hc
  ·rename_i a' ha;cases hc;exact go _ _ (.cons _ _ _ _ (.code _ _ ha) (.cons _ _ _ _ (.inLoop _ _ ha) hk)) (arT hm ht)
  ·cases hc
 |rangeFunc f params a b=>
  simp only[ir]at hc;split at hc
  ·rename_i f' ps a' b' hf hps ha fF;cases hc;simp only;split
   ·rename_i g first cap hrn hfa
    simp only[sTCe];rcases GF X g (first ++ .yld nx.succ ::cap) false (.bad 61 ⟨af,jT,aw nx.succ (some (.loop .ready none af.fn af.tm af.res ps a' b' nx)) (aw nx (some (.dfs false)) H),nx⟩)
     (fun fR=>.next ⟨fR,{af with todo:=.inRF nx.succ ::k,dfs:=.coll nx ::af.dfs} ::jT,aw nx.succ (some (.loop .ready none af.fn af.tm af.res ps a' b' nx)) (aw nx (some (.dfs false)) H),nx.succ.succ⟩)with e|⟨p,hp,e⟩
    ·rw[e];trivial
    ·rw[e];have LQ:fr.roundOf=none:=by
      have:=hb.vm;rw[hrn]at this;cases hh:fr.roundOf with
      |none=>rfl
      |some x=>rw[hh]at this;exact this.elim
     obtain⟨fn,c,f1,f2,f3,f4,f5⟩:=vo hp;have hv:=Zw hM hf hfa hT;obtain⟨vs,ws,ev,hv1,hv2⟩:=ahw hv;have hs1:=kTSu nx;have hs2:=kTSu nx.succ;obtain⟨m1,M1⟩:=hM.alloc nx (.dfs false) (.deferred (some [])) 0 (nx':=nx.succ.toNat) hM.uZ (.dfs false _) (by omega) (by omega);have hu1:(μ.put nx ⟨w.heap.size,0,0⟩) nx=some ⟨w.heap.size,0,0⟩:=Mu.eL _ _ _;have yw:(w.alloc (.deferred (some []))).heap.size=w.heap.size+1:=by simp
     obtain⟨hkr,UB⟩:=Ux hps;have hn1:(μ.put nx ⟨w.heap.size,0,0⟩) nx.succ=none:=M1.uZ;have PC:Mu.le (μ.put nx ⟨w.heap.size,0,0⟩) ((μ.put nx ⟨w.heap.size,0,0⟩).put nx.succ ⟨(w.alloc (.deferred (some []))).heap.size,0,0⟩):=Mu.G9 (.inl hn1);obtain⟨m2,M2⟩:=M1.alloc nx.succ (.loop .ready none af.fn af.tm af.res ps a' b' nx) (.loop {state:=.ready,pending:=none,fn:=fr.fn,tmps:=fr.tmps,params,assign:=a,body:=b,defers:=w.heap.size}) 0 (nx':=nx.succ.succ.toNat) hn1
      (.loop .ready none af.fn nt af.tm af.res ps a' b' nx ⟨w.heap.size,0,0⟩ _ _ trivial (fun _=>trivial) hb.fn (hT.mono (Mu.le_trans m1 PC)) hkr UB ha fF (PC.l _ _ hu1) rfl hb.fnr) (by omega) (by omega)
     have hK:Kept H (aw nx.succ (some (.loop .ready none af.fn af.tm af.res ps a' b' nx)) (aw nx (some (.dfs false)) H)) nx nx.succ.succ μ _ G _:=(Iq (H:=H) (nx:=nx) (μ:=μ) (G:=G) ⟨w.heap.size,0,0⟩ (some (.dfs false)) (some (.dfs false))).trans
      (Iq (nx:=nx.succ) ⟨(w.alloc (.deferred (some []))).heap.size,0,0⟩ (some (.loop .ready none af.fn af.tm af.res ps a' b' nx)) (some (.loop .ready none af.fn af.tm af.res ps a' b' nx)))
     have hle:=Mu.le_trans m1 m2;have fj:=YP (P:=P) (cs:=cs++rest) (w:=w) hm ht LQ V9 ev f1 (by rw[f2];rfl) f3;have hu2:((μ.put nx ⟨w.heap.size,0,0⟩).put nx.succ ⟨(w.alloc (.deferred (some []))).heap.size,0,0⟩) nx.succ=some ⟨(w.alloc (.deferred (some []))).heap.size,0,0⟩:=Mu.eL _ _ _;refine⟨_,{fr with todo:=.inRangeFunc (w.heap.size+1) ::K,defers:=[⟨.collected w.heap.size,#[]⟩]++fr.defers} ::cs,_,.one fj,_,_,Mu.le_trans h0 hle,M2,(hH.set nx _).set nx.succ _,yH hp ?_ false,⟨?_,hS.kept hle hK⟩,?_⟩
     ·have hy:aX ρ ((μ.put nx ⟨w.heap.size,0,0⟩).put nx.succ ⟨(w.alloc (.deferred (some []))).heap.size,0,0⟩) (.yld nx.succ) (.func (.yield (w.heap.size+1)) #[] #[]):=.yld _ _ _ hu2 yw.symm;have:=(hv1.mono hle).append (aB.cons _ _ _ _ hy (hv2.mono hle));simpa using this
     ·refine .wait nt ⟨hb.fn,hb.fnr,⟨⟨_,m2.l _ _ hu1,rfl⟩,hb.dfs.mono hle⟩,hb.kind,?_,hb.rd⟩ h1 hm ?_
      ·have:=hb.vm;rw[hrn,LQ]at this;show aCM _ af.vm fr.roundOf;rw[hrn,LQ];trivial
      ·have:=LP.rf (P:=P) (ρ:=ρ) (orc:=C.orc) (nt:=nt) (G:=kn (kn G nx (some (ah.dfs false))) nx.succ (some (.loop .ready none af.fn af.tm af.res ps a' b' nx))) (H:=aw nx.succ (some (.loop .ready none af.fn af.tm af.res ps a' b' nx)) (aw nx (some (.dfs false)) H)) (nx:=nx.succ.succ) nx.succ _ k K af.tm fr.tmps hu2 (hk.mono hle) (hT.mono hle);simp only[yw]at this ⊢;exact this
     ·show(bL (_ ::_ ::jT)).Nodup;simp only[bL,pk,List.nil_append];exact hn
   ·trivial
  ·cases hc
 |exit id=>
  simp only[ir,dP]at hc;subst hc;obtain⟨x1,x2⟩:=agC (id:=id) hk;simp only;split
  ·rename_i k' Jn;obtain⟨K',e1,e2⟩:=x1 k' Jn;exact go _ _ e2 (arU hm ht e1)
  ·rename_i Jn;exact KT X (.exit id K ht (x2 Jn)) h0 hM hH hb h1 hm (.inr (.inr ⟨id,k,DK⟩)) (by intro e;cases e) (by intro e;cases e) hT hS hn
 |ret=>simp only[ir,dP]at hc;subst hc;exact KT X (.ret K ht) h0 hM hH hb h1 hm (.inr (.inl ⟨k,DK⟩)) (fun _=>⟨k,DK⟩) (by intro e;cases e) hT hS hn
 |scope a=>
  simp only[ir]at hc;split at hc
  ·rename_i a' ha;cases hc;exact go _ _ (.cons _ _ _ _ (.code _ _ ha) (.cons _ _ _ _ (.scope _) hk)) (anH hm ht)
  ·cases hc
 |label l=>simp only[ir,dP]at hc;subst hc;exact go _ _ hk (anI hm ht)
 |goto l=>simp[ir]at hc
 |refuse s=>simp[ir]at hc
end
section
variable{P:Program}{ρ:Nat→Int}{C:bP}{nt:Nat}{w0:W0}{w:World}{μ0 μ:Mu}{G:Key→Option ah}{H:T ah}{nx:Key}{rest cs:List Frame}{fr:Frame}{af:mB}{jT:List mB}{K:List Item}{k:List de}
theorem amJ(X:Ctx P ρ w0 C)(h0:μ0.le μ)(hM:bB P ρ w0 μ G nx.toNat w)(hH:HSub H G)(hb:Cn P ρ μ nt af fr)(h1:af.mode=.run)(hm:fr.mode=.run)
  (hTd:ZQ P ρ C.orc μ G H nx nt af.todo af.tm fr.todo fr.tmps) (hS:dR P ρ C.orc μ G H nx jT cs) (hn:(bL (af ::jT)).Nodup) :
  Good P ρ C w0 μ0 rest (lone fr (cs++rest) w) (b9 C af jT H nx):=by
 generalize DK:af.todo=AK at hTd;generalize htt:af.tm=TM at hTd;generalize ht:fr.todo=FK at hTd;generalize hft:fr.tmps=FT at hTd;cases hTd with
 |plain k0 K0 tm tmps hk hT=>
  subst htt hft;have hn:(bL jT).Nodup:=(List.nodup_append.1 hn).2.1;cases hk with
  |nil=>unfold b9;rw[DK];exact KT X (.fin ht) h0 hM hH hb h1 hm (.inl DK) (by intro e;cases e) (fun _=>DK) hT hS hn
  |cons a x k K h hk=>
   have go:∀(k':List de) (K':List Item),nf P μ nt k' K'→step P (lone fr (cs++rest) w)=.next (lone {fr with todo:=K'} (cs++rest) w)→Good P ρ C w0 μ0 rest (lone fr (cs++rest) w) (.next ⟨{af with todo:=k'},jT,H,nx⟩):=by intro k' K' Jn fj;exact⟨_,cs,w,.one fj,tT h0 hM hH (hb.todo af.tm k' fr.tmps K') h1 hm Jn hT hS hn⟩
   cases h with
   |code pc c h=>exact ajs X h h0 hM hH hb h1 hm DK ht hk hT hS hn
   |inBlock id=>unfold b9;rw[DK];exact go _ _ hk (aex hm ht)
   |scope c=>unfold b9;rw[DK];exact go _ _ hk (aey hm ht)
   |inLoop pc c h=>unfold b9;rw[DK];exact go _ _ (.cons _ _ _ _ (.code _ _ h) (.cons _ _ _ _ (.inLoop _ _ h) hk)) (ajt hm ht)
   |ops l ops rest h=>unfold b9;rw[DK];exact alk X h0 hM hH hb h1 hm h ht hk hT hS hn
   |inRF key l r h hr=>unfold b9;rw[DK];trivial
   |endRF key l r DL hr=>
    subst hr;unfold b9;rw[DK];simp only;split
    ·rename_i st pd fn tm res params as bd dfs LK;obtain⟨lc',L,ntl,ld,e0,e0',e1,e2,e3,e4,e5,e5',e6,e7,e8,e9,e10⟩:=LO hM (hH _ _ LK);rw[DL]at e0;cases e0;split
     ·trivial
     ·rename_i OV;simp only[sTCe];have aA3:L.state≠.busy:=by intro e;rw[e]at e1;cases st<;>first|exact e1.elim|exact OV rfl
      obtain⟨μ',G',g1,g2,g3,g4⟩:=Th (st':=.exhausted) (pd':=pd) (s:=.exhausted) (pc:=L.pending) hM hH LK DL e0' trivial (fun h=>h);have fj:=amK (P:=P) (cs:=cs++rest) hm ht (aaU e0' aA3);have Qd:∀(k':List de),nf P μ' nt k' ((L.pending.map Item.code).toList++K)→Good P ρ C w0 μ0 rest (lone fr (cs++rest) w) (.next ⟨{af with todo:=k'},jT,aw key (some (.loop .exhausted pd fn tm res params as bd dfs)) H,nx⟩):=by intro k' Jn;exact⟨_,cs,_,.one fj,tT (Mu.le_trans h0 g1) g2 g3 ((hb.mono g1).todo af.tm k' fr.tmps _) h1 hm Jn (hT.mono g1) (hS.kept g1 g4) hn⟩
      refine Qd _ ?_;cases pd with
      |none=>
       cases hp:L.pending with
       |none=>exact hk.mono g1
       |some c=>rw[hp]at e2;exact(e2 0).elim
      |some pc=>
       cases hp:L.pending with
       |none=>rw[hp]at e2;exact(e2 0).elim
       |some c=>rw[hp]at e2;exact .cons _ _ _ _ (.code _ _ (e2 nt)) (hk.mono g1)
    ·trivial
   |beginRound=>
    unfold b9;rw[DK];simp only;split
    ·trivial
    ·rename_i key hrn;have LQ:∃lc,μ key=some lc∧fr.roundOf=some lc.c:=by
      have:=hb.vm;rw[hrn]at this;cases hh:fr.roundOf with
      |none=>rw[hh]at this;exact this.elim
      |some x=>rw[hh]at this;obtain⟨lc,e1,e2⟩:=this;exact⟨lc,e1,by rw[e2]⟩
     obtain⟨lc,DL,LQ⟩:=LQ;split
     ·rename_i pd fn tm res params as bd dfs LK;simp only[sTCe];obtain⟨lc',L,ntl,ld,e0,e0',e1,e2,e3,e4,e5,e5',e6,e7,e8,e9,e10⟩:=LO hM (hH _ _ LK);rw[DL]at e0;cases e0;have aww:L.state=.ready:=by cases hs:L.state<;>rw[hs]at e1<;>first|rfl|exact e1.elim
      obtain⟨μ',G',g1,g2,g3,g4⟩:=Th (st':=.busy) (pd':=pd) (s:=.busy) (pc:=L.pending) hM hH LK DL e0' trivial (fun h=>h);have fj:=Vi (P:=P) (cs:=cs++rest) hm ht LQ (Ti e0' aww);exact⟨_,cs,_,.one fj,tT (Mu.le_trans h0 g1) g2 g3 ((hb.mono g1).todo af.tm k fr.tmps K) h1 hm (hk.mono g1) (hT.mono g1) (hS.kept g1 g4) hn⟩
     ·trivial
 |ready ops pl bf g xy items jm av k K tm tmps rs hf hc hd hk S=>subst htt hft;unfold b9;rw[DK];refine OX X h0 hM hH hb h1 hm hf hc hd ht hk S hS ?_;simp only[bL,pk,DK]at hn;exact hn
 |back ops pl bf g os xy items jm av k K tm tmps rs hf hc hd hk NH Kv S=>
  subst htt hft;unfold b9;rw[DK];simp only;rw[Yn];cases hrc:recheck C.orc jm.jK av af.tm H os with
  |false=>simp only[cond_false,qa];trivial
  |true=>simp only[cond_true];have S5:=S.WN hd.2 hrc NH Kv;refine OX X h0 hM hH hb h1 hm hf hc hd ht hk S5 hS ?_;simp only[bL,pk,DK]at hn;exact hn
theorem Og{b:Nat}(h:w.heap[b]?=some (.deferred (some []))):(Instr.takeDeferred b).run P w=.ok [] {w with heap:=w.heap.setIfInBounds b (.deferred none)}:=by simp[Instr.takeDeferred,getObj,setObj,Sem.run,h]
theorem aaV(X:Ctx P ρ w0 C)(h0:μ0.le μ)(hM:bB P ρ w0 μ G nx.toNat w)(hH:HSub H G)(hb:Cn P ρ μ nt af fr)(UN:Cur P ρ C.orc μ G H nx af fr)(bW:af.mode≠.run)(hS:dR P ρ C.orc μ G H nx jT cs)(hn:(bL (af ::jT)).Nodup) :
  Good P ρ C w0 μ0 rest (lone fr (cs++rest) w) (AU C af jT H nx):=by
 have hpk:pk af=[]:=by
  cases UN with
  |run nt hb h1=>exact absurd h1 bW
  |ret nt hb h1 h2 h3 h=>unfold pk;rcases h3 with h3|⟨k,h3⟩<;>rw[h3]
  |pan nt hb v u r h1 h2 hv h3 h=>unfold pk;rw[h3]
 have hfm:fr.mode≠.run:=by
  cases UN with
  |run nt hb h1=>exact absurd h1 bW
  |ret nt hb h1 h2 h3 h=>rw[h2];intro e;cases e
  |pan nt hb v u r h1 h2 hv h3 h=>rw[h2];intro e;cases e
 have Xt:(bL jT).Nodup:=(List.nodup_append.1 hn).2.1;have aRa:∃nt,Cn P ρ μ nt af fr∧kI ρ μ nt af.tm fr.tmps:=by
  cases UN with
  |run nt hb h1=>exact absurd h1 bW
  |ret nt hb h1 h2 h3 h=>exact⟨nt,hb,h⟩
  |pan nt hb v u r h1 h2 hv h3 h=>exact⟨nt,hb,h⟩
 have move:∀{μ':Mu} {G':Key→Option ah} {H':T ah} (ds:List Xu) (Ds:List Deferred),μ.le μ'→Tj ρ μ' ds Ds→Cur P ρ C.orc μ' G' H' nx {af with dfs:=ds} {fr with defers:=Ds}:=by
  intro μ' G' H' ds Ds hle hd;cases UN with
  |run nt hb h1=>exact absurd h1 bW
  |ret nt hb h1 h2 h3 h=>exact .ret nt ⟨hb.fn,hb.fnr,hd,hb.kind,(hb.mono hle).vm,hb.rd⟩ h1 h2 h3 (h.mono hle)
  |pan nt hb v u r h1 h2 hv h3 h=>exact .pan nt ⟨hb.fn,hb.fnr,hd,hb.kind,(hb.mono hle).vm,hb.rd⟩ v u r h1 h2 (hv.mono hle) h3 (h.mono hle)
 have hD:=hb.dfs;unfold AU;split
 ·rename_i b ds hds;split
  ·rename_i LK;simp only[sTCe];rw[hds]at hD;cases Yo:fr.defers with
   |nil=>rw[Yo]at hD;exact hD.elim
   |cons d Ds=>
   rw[Yo]at hD;obtain⟨⟨l,hl,rfl⟩,hD2⟩:=hD;have hg:=hH _ _ LK;obtain⟨l',o,e1,e2,e3⟩:=hM.BO b _ hg;rw[hl]at e1;cases e1;have aq5:w.heap[l.c]?=some (.deferred (some [])):=by cases e3 with|dfs _ _=>exact e2
   have Oc:l.c<w.heap.size:=hM.AX b l hl;have tY:w0.heap.size≤l.c:=(hM.own b _ l hg hl).resolve_left (by simp[ah.ro]);obtain⟨m1,m2⟩:=hM.put (w':={w with heap:=w.heap.setIfInBounds l.c (.deferred none)}) b (.dfs true) l (.deferred none) (nx':=nx.toNat) (.inr hl)
    ⟨rfl,rfl,rfl,by simp,fun j hj _=>by show(w.heap.setIfInBounds l.c _)[j]?=_;rw[zqn (Ne.symm hj)],fE _⟩
    (by show(w.heap.setIfInBounds l.c _)[l.c]?=_;simp[Oc])
    (.dfs true l)
    (fun b' B' l' g m' ne=>hM.sep b' b B' _ l' l g hg m' hl ne) tY (fE _) (hM.new b l hl) (hM.lo0 hg hl rfl)
   have fj:=Yp (P:=P) (cs:=cs++rest) hfm Yo (Og aq5);refine⟨_,cs,_,.one fj,_,_,Mu.le_trans h0 m1,m2,hH.set b _,move ds Ds m1 (hD2.mono m1),hS.kept m1 (Cy LK hl _ _),?_⟩;show(bL (_ ::jT)).Nodup;have:pk {af with dfs:=ds}=pk af:=rfl;simp only[bL,this,hpk,List.nil_append];exact Xt
  ·trivial
 ·rename_i f args ds hds;rcases GF X f args true (.bad 71 ⟨af,jT,H,nx⟩) (fun fR=>.next ⟨fR,{af with dfs:=ds} ::jT,H,nx⟩)with e|⟨p,hp,e⟩
  ·rw[e];trivial
  ·rw[e];rw[hds]at hD;cases Yo:fr.defers with
   |nil=>rw[Yo]at hD;exact hD.elim
   |cons d Ds=>
   rw[Yo]at hD;obtain⟨⟨ws,hd1,hd2⟩,hD2⟩:=hD;obtain⟨fn,c,f1,f2,f3,f4,f5⟩:=vo hp;have hi:(invoke d.target d.args).run P w=.ok (.enter f (d.args++ws)) w:=by rw[hd1];simp[invoke,qW f1 (by rw[f2];rfl) f3]
   have fj:=aaW (P:=P) (cs:=cs++rest) hfm Yo hd1 hi;refine⟨_,{fr with defers:=Ds} ::cs,w,.one fj,μ,G,h0,hM,hH,yH hp hd2 true,⟨.unw (move ds Ds μ.le_refl hD2) bW,hS⟩,?_⟩;show(bL (_ ::_ ::jT)).Nodup;have:pk {af with dfs:=ds}=pk af:=rfl;simp only[bL,this,hpk,List.nil_append];simp only[pk,List.nil_append];exact Xt
 ·rename_i hds;have Yo:fr.defers=[]:=by
   rw[hds]at hD;cases Yo:fr.defers with
   |nil=>rfl
   |cons d Ds=>rw[Yo]at hD;exact hD.elim
  split
  ·trivial
  ·rename_i CR;cases UN with
   |run nt hb h1=>exact absurd h1 bW
   |pan nt hb v u r h1=>rw[h1]at CR;cases CR
   |ret nt hb h1 h2 h3 hT=>
    split
    ·rename_i l hl;obtain⟨fn,g1,g2,g3⟩:=hb.fnr.ex;have WO:P.funcs[fr.fn]?=some fn:=by rw[hb.fn];exact g1
     rw[g2]at g3;obtain⟨vs,q1,q2⟩:=Vj hM hH hT g3 hl;rw[yZ];obtain⟨μ1,G1,x1,x2⟩:=LN (C.ma af.fn) hM hH q2;have q2:=aez x2;have hS:=dR.kept x1.le x1.kept hS;have h0:=Mu.le_trans h0 x1.le;have hM:=x1.M;have hH:=x1.hs;have hb:=hb.mono x1.le;have hT:=hT.mono x1.le;generalize cw (C.ma af.fn) l H=lh at q2 hS hM hH;obtain⟨l1,H1⟩:=lh;simp only at q2 hS hM hH ⊢;clear x1 x2;generalize hvv:MG vs=v at q1 q2;unfold L6;cases jT with
     |nil=>
      cases cs with
      |cons _ _=>exact hS.elim
      |nil=>
      cases hdf:af.GG with
      |true=>trivial
      |false=>
       have Nv:fr.kind=.normal:=by rw[hb.kind,hdf];rfl
       exact⟨fr,w,μ1,G1,v,Steps.refl _ _,hb.fn,⟨h2,Yo,Nv,fn,WO,q1⟩,q2,h0,hM,hH⟩
     |cons c jT=>
      cases cs with
      |nil=>exact hS.elim
      |cons cf cs=>
      have hn2:(bL (c ::jT)).Nodup:=Xt;cases hdf:af.GG with
      |true=>
       have Nv:fr.kind=.deferred:=by rw[hb.kind,hdf];rfl
       have fj:=KU (P:=P) (c:=cf) (cs:=cs++rest) h2 Yo Nv WO q1;simp only[cond_true];cases hS.1 with
       |wait Q2 fF yG=>rw[yG];trivial
       |unw hc Kw=>
        cases hc with
        |run Q2 fF yG=>exact absurd yG Kw
        |ret Q2 fF yG Nq UA hT'=>
         have Rk:settle cf.mode=cf.mode:=by rw[Nq];rfl
         rw[Rk]at fj;rw[yG];exact⟨_,cs,w,.one fj,μ1,G1,h0,hM,hH,.ret Q2 fF yG Nq UA hT',hS.2,hn2⟩
        |pan Q2 fF v' u' r' yG Nq Xv UA hT'=>
         rw[yG];cases r' with
         |true=>
          have Rk:settle cf.mode=.returning:=by rw[Nq];rfl
          rw[Rk]at fj;refine⟨_,cs,w,.one fj,μ1,G1,h0,hM,hH,.ret Q2 ⟨fF.fn,fF.fnr,fF.dfs,fF.kind,fF.vm,fF.rd⟩ rfl rfl (.inl UA) hT',hS.2,?_⟩;exact hn2
         |false=>
          have Rk:settle cf.mode=cf.mode:=by rw[Nq];rfl
          rw[Rk]at fj;exact⟨_,cs,w,.one fj,μ1,G1,h0,hM,hH,.pan Q2 fF v' u' false yG Nq Xv UA hT',hS.2,hn2⟩
      |false=>
       have Nv:fr.kind=.normal:=by rw[hb.kind,hdf];rfl
       have fj:=aju (P:=P) (c:=cf) (cs:=cs++rest) h2 Yo Nv WO q1;simp only[cond_false];split
       ·rename_i c' hf;obtain⟨k1,k2⟩:=hS.1.finish q2 hf;refine⟨_,cs,w,.one fj,μ1,G1,h0,hM,hH,k1,hS.2,?_⟩;show(bL (c' ::jT)).Nodup;simp only[bL,k2]at hn2 ⊢;exact hn2
       ·trivial
    ·trivial
  ·rename_i v CR;cases UN with
   |run nt hb h1=>exact absurd h1 bW
   |ret nt hb h1=>rw[h1]at CR;cases CR
   |pan nt hb v' u r h1 h2 hv h3 hT=>
    rw[h1]at CR;simp only[alj.pan.injEq]at CR;obtain⟨rfl,rfl⟩:=CR;obtain⟨fn,g1,g2,g3⟩:=hb.fnr.ex;have WO:P.funcs[fr.fn]?=some fn:=by rw[hb.fn];exact g1
    cases jT with
    |nil=>trivial
    |cons c jT=>
     cases cs with
     |nil=>exact hS.elim
     |cons cf cs=>
     simp only;cases hS.1 with
     |unw hc Kw=>
      cases hc with
      |run Q2 fF yG=>exact absurd yG Kw
      |ret Q2 fF yG=>rw[yG];trivial
      |pan Q2 fF v2 u2 r2 yG=>rw[yG];trivial
     |wait Q2 fF yG Nq hW=>
      rw[yG];have fj:=aaX (P:=P) (c:=cf) (cs:=cs++rest) (w:=w) h2 Yo WO;have hra:cf.raise [{v:=u,recovered:=false}]={cf with mode:=.panicking [{v:=u,recovered:=false}]}:=by simp[Frame.raise,Nq]
      rw[hra]at fj;refine⟨_,cs,w,.one fj,μ,G,h0,hM,hH,.pan Q2 ⟨fF.fn,fF.fnr,fF.dfs,fF.kind,fF.vm,fF.rd⟩ v' u false rfl rfl hv rfl ?_,hS.2,?_⟩
      ·show kI ρ μ Q2 (match c.todo with|.staged _ d _ ::_=>Kx d.ds c.tm (fun t=>t)|_=>c.tm) cf.tmps;generalize cf.todo=KK at hW;generalize hTT:cf.tmps=TT at hW;generalize c.todo=kk at hW;generalize c.tm=tt at hW;cases hW with
       |ops o l ops i rest k K tm tmps hp h ht=>exact ht
       |rf key l k K tm tmps hk h ht=>exact ht
       |staged ops pl bf g i po ad os xy items jm av k K tm tmps rest xz hf hc hL We hd h NH Kv S=>simp only[qa];exact S.erase hd.1
      ·have hn2:(bL (c ::jT)).Nodup:=Xt;show(bL (_ ::jT)).Nodup;simp only[bL,pk,List.nil_append]at hn2 ⊢;exact(List.nodup_append.1 hn2).2.1
  ·trivial
theorem AP(X:Ctx P ρ w0 C){am:AM}(h:BN P ρ C.orc w0 μ0 am fr cs w):Good P ρ C w0 μ0 rest (lone fr (cs++rest) w) (iI C am):=by
 obtain⟨μ,G,h0,hM,hH,hc,hS,hn⟩:=h.ex;unfold iI;split
 ·rename_i hm;cases hc with
  |run nt hb h1 h2 h=>exact amJ X h0 hM hH hb h1 h2 h hS hn
  |ret nt hb h1=>rw[h1]at hm;cases hm
  |pan nt hb v u r h1=>rw[h1]at hm;cases hm
 ·rename_i hm;have bW:am.fr.mode≠.run:=fun e=>hm e;have hb:∃nt,Cn P ρ μ nt am.fr fr:=by
   cases hc with
   |run nt hb h1 h2 h=>exact⟨nt,hb⟩
   |ret nt hb h1=>exact⟨nt,hb⟩
   |pan nt hb v u r h1=>exact⟨nt,hb⟩
  obtain⟨nt,hb⟩:=hb;exact aaV X h0 hM hH hb hc bW hS hn
theorem Cr(C:bP)(n:Nat)(m:AM):vp C (n+1) m=match iI C m with
  |.next m=>vp C n m
  |r=>r:=rfl
theorem zO(X:Ctx P ρ w0 C):∀(n:Nat) {am:AM} {fr:Frame} {cs:List Frame} {w:World},BN P ρ C.orc w0 μ0 am fr cs w→Good P ρ C w0 μ0 rest (lone fr (cs++rest) w) (vp C n am)
 |0,am,fr,cs,w,h=>⟨fr,cs,w,Steps.refl _ _,h⟩
 |n+1,am,fr,cs,w,h=>by
  have h1:=AP (rest:=rest) X h;rw[Cr];cases hs:iI C am with
  |next m=>rw[hs]at h1;obtain⟨fR,yu,w',s1,h2⟩:=h1;exact Good.steps s1 (zO X n h2)
  |done f v hh nx=>rw[hs]at h1;exact h1
  |pan v hh nx=>trivial
  |bad k m=>trivial
  |alt m1 m2=>rw[hs]at h1;exact h1
end
noncomputable def ai(f:Nat)(p:fq)(l:List AV):mB:={fn:=f,tm:=ic l .z .nil,todo:=[.code p.body],dfs:=[],mode:=.run,GG:=false,vm:=none,res:=p.res}
section
variable{P:Program}{ρ:Nat→Int}{C:bP}{w0:W0}{w:World}{μ0:Mu}{G0:Key→Option ah}{H H':T ah}{nx nx':Key}
inductive Ev(C:bP)(S:AM→Prop):AM→Prop
 |now {m:AM} (h:S m):Ev C S m
 |step {m m':AM} (e:iI C m=.next m') (h:Ev C S m'):Ev C S m
 |alt {m m1 m2:AM} (e:iI C m=.alt m1 m2) (h1:Ev C S m1) (h2:Ev C S m2):Ev C S m
theorem Ev.bind{S S':AM→Prop}{m:AM}(h:Ev C S m)(hs:∀m',S m'→Ev C S' m'):Ev C S' m:=by
 induction h with
 |now h=>exact hs _ h
 |step e _ ih=>exact .step e ih
 |alt e _ _ ih1 ih2=>exact .alt e ih1 ih2
theorem Ev.mono{S S':AM→Prop}{m:AM}(h:Ev C S m)(hs:∀m',S m'→S' m'):Ev C S' m:=h.bind fun m' q=>.now (hs m' q)
theorem Ev.same{S:AM→Prop}{m m2:AM}(hs:iI C m=iI C m2)(hn:¬S m2)(h:Ev C S m2):Ev C S m:=by
 cases h with
 |now h=>exact absurd h hn
 |step e h=>exact .step (hs.trans e) h
 |alt e h1 h2=>exact .alt (hs.trans e) h1 h2
theorem alo(a b:Nat)(m m1:AM)(h:vp C a m=.next m1):vp C (a+b) m=vp C b m1:=by
 induction a generalizing m with
 |zero=>have:SR.next m=SR.next m1:=h;cases this;rw[Nat.zero_add]
 |succ a ih=>
  rw[Cr]at h;have e:a+1+b=(a+b)+1:=by omega
  rw[e,Cr];cases hs:iI C m with
  |next m2=>rw[hs]at h;exact ih m2 h
  |done f v hh nx=>rw[hs]at h;cases h
  |pan v hh nx=>rw[hs]at h;cases h
  |bad k m=>rw[hs]at h;cases h
  |alt m1 m2=>rw[hs]at h;cases h
theorem Ev.alp{S:AM→Prop}:∀(n:Nat) {m m':AM},vp C n m=.next m'→Ev C S m'→Ev C S m
 |0,m,m',h,q=>by have:SR.next m=SR.next m':=h;cases this;exact q
 |n+1,m,m',h,q=>by
  rw[Cr]at h;cases hs:iI C m with
  |next m2=>rw[hs]at h;exact .step hs (Ev.alp n h q)
  |done f v hh nx=>rw[hs]at h;cases h
  |pan v hh nx=>rw[hs]at h;cases h
  |bad k m=>rw[hs]at h;cases h
  |alt m1 m2=>rw[hs]at h;cases h
def To(C:bP)(m m':AM):Prop:=∃n,vp C n m=.next m'
theorem To.refl(m:AM):To C m m:=⟨0,rfl⟩
theorem To.head{m m1 m2:AM}(h:iI C m=.next m1)(h':To C m1 m2):To C m m2:=by obtain⟨n,hn⟩:=h';exact⟨n+1,by rw[Cr,h];exact hn⟩
theorem To.one{m m1:AM}(h:iI C m=.next m1):To C m m1:=.head h (.refl _)
theorem To.trans{m m1 m2:AM}(h:To C m m1)(h':To C m1 m2):To C m m2:=by obtain⟨a,ha⟩:=h;obtain⟨b,hb⟩:=h';exact⟨a+b,by rw[alo a b m m1 ha];exact hb⟩
theorem To.ev{S:AM→Prop}{m m':AM}(h:To C m m')(q:Ev C S m'):Ev C S m:=by obtain⟨n,hn⟩:=h;exact Ev.alp n hn q
theorem Ev.sound(X:Ctx P ρ w0 C){S:AM→Prop}{rest:List Frame}{am:AM}(h:Ev C S am):∀{fr:Frame} {cs:List Frame} {w:World},BN P ρ C.orc w0 μ0 am fr cs w→
  ∃am' fR yu w',S am'∧Steps P (lone fr (cs++rest) w) (lone fR (yu++rest) w')∧BN P ρ C.orc w0 μ0 am' fR yu w':=by
 induction h with
 |now h=>intro fr cs w hm;exact⟨_,fr,cs,w,h,Steps.refl _ _,hm⟩
 |step e _ ih=>intro fr cs w hm;have hg:=AP (rest:=rest) X hm;rw[e]at hg;obtain⟨fR,yu,w',s1,h2⟩:=hg;obtain⟨am',I6,cs2,w2,q,s2,h3⟩:=ih h2;exact⟨am',I6,cs2,w2,q,s1.trans s2,h3⟩
 |alt e _ _ ih1 ih2=>
  intro fr cs w hm;have hg:=AP (rest:=rest) X hm;rw[e]at hg;rcases hg with⟨fR,yu,w',s1,h2⟩|⟨fR,yu,w',s1,h2⟩
  ·obtain⟨am',I6,cs2,w2,q,s2,h3⟩:=ih1 h2;exact⟨am',I6,cs2,w2,q,s1.trans s2,h3⟩
  ·obtain⟨am',I6,cs2,w2,q,s2,h3⟩:=ih2 h2;exact⟨am',I6,cs2,w2,q,s1.trans s2,h3⟩
end
end Go.Sx
