/- A part of the proof. No condition. -/
import Derived.Test.YtecbfpngkfdkoaaGreatP4
set_option linter.unusedSimpArgs false
set_option linter.unusedVariables false
set_option linter.unusedSectionVars false
namespace Go.Sx
open Go.RowKit
def sf(p:List (Nat×Key×ah)):List Nat:=p.map (·.2.1.toNat)
def Ls(P:Program)(ρ:Nat→Int)(orc:jR)(nt:Nat)(w0:W0)(cs:List Frame)(K:List Item)(ops:Array Oper)(pl:List aA)(bf:List Nat)(fr:Frame)(w:World)(μ:Mu)(G:Key→Option ah)(H:T ah)(nx:Key)(au:List (Nat×Key×ah)):RS→Prop
 |.fin ay h' nx'=>∃eQ w' μ' G',Steps P (lone fr cs w) (lone {fr with tmps:=eQ,todo:=K} cs w')∧μ.le μ'∧bA P ρ w0 μ' G' nx'.toNat w'∧HSub h' G'∧lV ρ μ' nt ay eQ∧FI (sf au) H h' nx nx' μ μ' G G'
 |.ev r LF pend' ay h' nx'=>(∃n,r=.bad n)∨∃eQ w' μ' G' g' i po o ad os Wq mW me,
   Steps P (lone fr cs w) (lone {fr with tmps:=eQ,todo:=.inRegion ops (i ::me) ::K} cs w')∧μ.le μ'∧bA P ρ w0 μ' G' nx'.toNat w'∧HSub h' G'∧
   LF=.H i po ad ::.R os ::mW∧pl[i]?=some po∧Wq.mapM (HT pl)=some mW∧BH ops pl bf (MH (Gh.L g') i) Wq=true∧hasB g'.L i=false∧(∀j,j<ops.size→hasB (gK bf i) j=true→hasB g'.L j=true)∧
   (∀i po,(i,po)∈os→pl[i]?=some po∧HR ops bf i=true∧uc pl i=0)∧(∀j,hasB g'.L j=true→iv pl j=true→hasB (gK bf i) j=true∨∃po,(j,po)∈os)∧
   iw P ρ orc nt ops pl bf μ' G' h' nx' g' (fun i=>iv pl i=true) pend' ay eQ (i ::me)∧ops[i]?=some o∧P9 P nt ops o=some po∧Region.wanted o (yielded ops eQ)=true∧
   aOp orc po.op ay h' nx'=r∧¬EO r∧FI (sf au) H h' nx nx' μ μ' G G'∧(∀x∈sf pend',x∈sf au∨nx.toNat≤x)
section
variable{P:Program}{ρ:Nat→Int}{orc:jR}{nt:Nat}{ops:Array Oper}{pl:List aA}{bf:List Nat}{w0:W0}{cs:List Frame}{K:List Item}
theorem Ls.step{fr:Frame}{w:World}{μ:Mu}{G:Key→Option ah}{H:T ah}{nx:Key}{au:List (Nat×Key×ah)}{tmps2:Array Value}{rest2:List Nat}{w2:World}{μ2:Mu}{G2:Key→Option ah}{H2:T ah}{aN:Key}{pend2:List (Nat×Key×ah)}{r:RS}
  (ei:Steps P (lone fr cs w) (lone {fr with tmps:=tmps2,todo:=.inRegion ops rest2 ::K} cs w2)) (hle:μ.le μ2) (hk:FI (sf au) H H2 nx aN μ μ2 G G2) (hE:∀x∈sf pend2,x∈sf au∨nx.toNat≤x)
  (h:Ls P ρ orc nt w0 cs K ops pl bf {fr with tmps:=tmps2,todo:=.inRegion ops rest2 ::K} w2 μ2 G2 H2 aN pend2 r):Ls P ρ orc nt w0 cs K ops pl bf fr w μ G H nx au r:=by
 cases r with
 |fin ay h' nx'=>obtain⟨eQ,w',μ',G',s1,s2,s3,s4,s5,s6⟩:=h;exact⟨eQ,w',μ',G',ei.trans s1,Mu.le_trans hle s2,s3,s4,s5,hk.trans s6 hE⟩
 |ev rr it pd ay h' nx'=>
  rcases h with hb|⟨eQ,w',μ',G',g',i,po,o,ad,os,Wq,mW,me,s1,s2,s3,s4,s5,s6,s7,s8,s9,s10,s11,s12,s13,s14,s15,s16,s17,s18,s19,s20⟩
  ·exact .inl hb
  ·refine .inr ⟨eQ,w',μ',G',g',i,po,o,ad,os,Wq,mW,me,ei.trans s1,Mu.le_trans hle s2,s3,s4,s5,s6,s7,s8,s9,s10,s11,s12,s13,s14,s15,s16,s17,s18,hk.trans s19 hE,fun x hx=>?_⟩;rcases s20 x hx with h|h
   ·exact hE x h
   ·exact .inr (Nat.le_trans hk.n h)
theorem ku{α β:Type}{f:α→Option β}{a:α}{l:List α}{r:List β}(h:(a ::l).mapM f=some r):∃b r',f a=some b∧l.mapM f=some r'∧r=b ::r':=by
 rw[List.mapM_cons]at h;cases hf:f a with
 |none=>rw[hf]at h;cases h
 |some b=>
  cases hl:l.mapM f with
  |none=>rw[hf]at h;simp[hl]at h
  |some r'=>rw[hf]at h;simp[hl]at h;exact⟨b,r',rfl,rfl,h.symm⟩
theorem aax(orc:jR)(kB:List (Nat×List Nat))(i:Nat)(o:aA)(rest:List aS)(au:List (Nat×Key×ah))(tm:T AV)(h:T ah)(nx:Key):jn orc kB (.L i o ::rest) au tm h nx=(match di o.guard tm with
   |none=>.ev (.bad 31) (.L i o ::rest) au tm h nx
   |some false=>ze o.dst (some (.tuple [])) tm fun tm=>jn orc kB rest au tm h nx
   |some true=>match lightOp orc o.op tm (zf (HF i kB) au h)with
    |some v=>ze o.dst (some v) tm fun tm=>jn orc kB rest au tm h nx
    |none=>.ev (.bad 32) (.L i o ::rest) au tm h nx):=rfl
theorem aay(orc:jR)(kB:List (Nat×List Nat))(i:Nat)(o:aA)(rest:List aS)(au:List (Nat×Key×ah))(tm:T AV)(h:T ah)(nx:Key):jn orc kB (.A i o ::rest) au tm h nx=(match di o.guard tm with
   |none=>.ev (.bad 33) (.A i o ::rest) au tm h nx
   |some false=>ze o.dst (some (.tuple [])) tm fun tm=>jn orc kB rest au tm h nx
   |some true=>match allocOp o.op tm with
    |some (v,b)=>ze o.dst (some (v nx)) tm fun tm=>jn orc kB rest ((i,nx,b) ::au) tm h nx.succ
    |none=>.ev (.bad 34) (.A i o ::rest) au tm h nx):=rfl
theorem aaz(orc:jR)(kB:List (Nat×List Nat))(i:Nat)(o:aA)(l:List Nat)(rest:List aS)(au:List (Nat×Key×ah))(tm:T AV)(h:T ah)(nx:Key):jn orc kB (.H i o l ::rest) au tm h nx=(HS l au h fun au h=>match di o.guard tm with
   |none=>.ev (.bad 35) (.H i o l ::rest) au tm h nx
   |some false=>ze o.dst (some (.tuple [])) tm fun tm=>jn orc kB rest au tm h nx
   |some true=>match aOp orc o.op tm h nx with
    |.val v h nx=>ze o.dst (some v) tm fun tm=>jn orc kB rest au tm h nx
    |r=>.ev r (.H i o l ::rest) au tm h nx):=rfl
theorem ZG(orc:jR)(kB:List (Nat×List Nat))(os:List (Nat×aA))(rest:List aS)(au:List (Nat×Key×ah))(tm:T AV)(h:T ah)(nx:Key):jn orc kB (.R os ::rest) au tm h nx =
  (bif recheck orc kB au tm h os then jn orc kB rest au tm h nx else .ev (.bad 36) (.R os ::rest) au tm h nx):=rfl
theorem aqo{os:List Nat}{l:List (Nat×aA)}(h:(os.mapM fun i=>(pl[i]?).map fun o=>(i,o))=some l):(∀i po,(i,po)∈l→i∈os∧pl[i]?=some po)∧(∀i∈os,∃po,(i,po)∈l):=by
 induction os generalizing l with
 |nil=>simp at h;subst h;simp
 |cons a os ih=>
  obtain⟨b,r,h1,h2,rfl⟩:=ku h;obtain⟨po,YQ,rfl⟩:=map_some h1;obtain⟨e1,e2⟩:=ih h2;refine⟨fun i Xc hm=>?_,fun i hi=>?_⟩
  ·rcases OG.1 hm with h|h
   ·cases h;exact⟨by simp,YQ⟩
   ·exact⟨List.mem_cons_of_mem _ (e1 i Xc h).1,(e1 i Xc h).2⟩
  ·rcases OG.1 hi with h|h
   ·subst h;exact⟨po,by simp⟩
   ·obtain⟨q,hq⟩:=e2 i h;exact⟨q,List.mem_cons_of_mem _ hq⟩
theorem ayn{μ:Mu}{G:Key→Option ah}{nx:Key}{w:World}(hM:bA P ρ w0 μ G nx.toNat w):G nx=none:=by
 cases h:G nx with
 |none=>rfl
 |some B=>obtain⟨l,o,h1,_⟩:=hM.lW nx B h;exact absurd (hM.new nx l h1) (Nat.lt_irrefl _)
theorem YF{α:Type}{f:α→Nat}:∀{l:List α},(l.map f).Nodup→∀x∈l,∀y∈l,f x=f y→x=y
 | [],_,x,hx,_,_,_=>by cases hx
 |a ::l,h,x,hx,y,hy,e=>by
  simp only[zqx,List.nodup_cons]at h;rcases OG.1 hx with L7|L7<;>rcases OG.1 hy with ZJ|ZJ
  ·rw[L7,ZJ]
  ·exact(h.1 (We.2 ⟨y,ZJ,by rw[←e,L7]⟩)).elim
  ·exact(h.1 (We.2 ⟨x,L7,by rw[e,ZJ]⟩)).elim
  ·exact YF h.2 x L7 y ZJ e
theorem Ey{α:Type}{f:α→Nat}(p:α→Bool){l:List α}(h:(l.map f).Nodup):((l.filter p).map f).Nodup:=
 List.Nodup.sublist (List.Sublist.map f List.filter_sublist) h
theorem iw.HS{μ:Mu}{G:Key→Option ah}{H:T ah}{nx:Key}{g:Gh}{au:List (Nat×Key×ah)}{tm:T AV}{tmps:Array Value}{rest:List Nat}(S:iw P ρ orc nt ops pl bf μ G H nx g (fun _=>False) au tm tmps rest){l:List Nat}(hl:∀j∈l,j<ops.size→g.D j=true) :
  iw P ρ orc nt ops pl bf μ G (dJ (au.filter fun x=>memN x.1 l) H) nx g (fun i=>iv pl i=true) (au.filter fun x=>!(memN x.1 l)) tm tmps rest:=by
 refine⟨S.Th,S.ord,S.cl,S.sub,S.L8,S.lcl,S.a1,S.a2,S.sz,S.c1,S.c2,?_,?_,Ey _ S.nk,Ey _ S.ni⟩
 ·intro i hi hD;cases S.pd i hi hD with
  |skip po oh h1 h2 h3 h4 h5=>exact .skip po oh h1 h2 h3 h4 fun x hx=>h5 x ((List.mem_filter.1 hx).1)
  |light po oh v h1 h2 h3 yG h4 h5 h6=>
   refine .light po oh v h1 h2 h3 yG (fun hu=>?_) h5 fun x hx=>h6 x ((List.mem_filter.1 hx).1);obtain⟨V,a1,_⟩:=h4 (fun h=>h);refine⟨_,?_,VOk.refl _ _ _ _⟩;rw[←a1];apply Od;have:iv pl i=OM po.op:=by simp[iv,h1]
   rw[this]at hu;simpa using hu
  |alloc po oh f B k h1 h2 h3 yG h4 h5 h6=>
   refine .alloc po oh f B k h1 h2 h3 yG h4 h5 (List.mem_filter.2 ⟨h6,?_⟩);show(!(memN i l))=true;cases hm:memN i l with
   |false=>rfl
   |true=>rw[hl i (Og hm) (S.L8 i hi)]at hD;cases hD
 ·intro x hx;obtain⟨L7,hx2⟩:=List.mem_filter.1 hx;obtain⟨p1,p2,p3,p4,p5⟩:=S.pe x L7;refine⟨p1,p2,p3,BC p4 fun y hy e=>?_,p5⟩;obtain⟨ZJ,hy2⟩:=List.mem_filter.1 hy;have:=YF S.nk y ZJ x L7 e;subst this;rw[hy2]at hx2;cases hx2
theorem YG{kB:List (Nat×List Nat)}(hor:fK ρ orc){rest:List Nat}{g:Gh}{fr:Frame}{w:World}{μ:Mu}{G:Key→Option ah}{H:T ah}{nx:Key}{tm:T AV}{au:List (Nat×Key×ah)}(hc:BH ops pl bf g.L []=true)(hM:bA P ρ w0 μ G nx.toNat w)(hH:HSub H G)
  (S:iw P ρ orc nt ops pl bf μ G H nx g (fun _=>False) au tm fr.tmps rest) (hm:fr.mode=.run) (ht:fr.todo=.inRegion ops rest ::K):Ls P ρ orc nt w0 cs K ops pl bf fr w μ G H nx au (jn orc kB [] au tm H nx):=by
 have CX:∀j,j<ops.size→hasB g.L j=true:=by intro j hj;simp only[BH,wG]at hc;exact hc j (by simpa using hj)
 have gM:jn orc kB [] au tm H nx=.fin tm (dJ au H) nx:=by show Ig au H (fun h=>RS.fin tm h nx)=_;rw[Jm]
 rw[gM];obtain⟨eQ,w',μ',G',D',me,s1,s2,s3,s4,s5,s6,rfl⟩:=ahF (cs:=cs) hM hH hor S CX hm ht;have hD:∀j,j<ops.size→D' j=true:=s5.ord;refine⟨eQ,w',μ',G',s1.trans (.one (KZ hm rfl)),s2,s3,Mo s4 (fun x hx=>(s5.pe x hx).2.1 (hD _ (s5.L8 _ (s5.pe x hx).1))),?_,?_⟩
 ·refine⟨s5.sz,fun k a ha=>?_⟩;by_cases h:∃j,pC ops j=some k.toNat
  ·obtain⟨j,hj⟩:=h;have bW:=PD hj;exact s5.c1 k j a (hD j bW) hj (by rw[←s5.a1 k j (CX j bW) hj];exact ha)
  ·have sx:∀j,pC ops j≠some k.toNat:=fun j hj=>h ⟨j,hj⟩;exact s5.c2 k a (fun j _=>sx j) (by rw[←s5.a2 k (fun j _=>sx j)];exact ha)
 ·refine⟨fun b hb hg hl=>?_,fg _⟩;have bX:∀x∈au,x.2.1.toNat≠b.toNat:=fun x hx e=>hb (We.2 ⟨x,hx,e⟩);obtain⟨k1,k2⟩:=s6 b (fun x hx e=>bX x hx (by rw[e]));exact⟨k1,k2,BC hg bX⟩
theorem aa3{kB:List (Nat×List Nat)}(aec:CA bf kB=true)(hor:fK ρ orc):∀(n:Nat) (xI:List IIt) (items:List aS) (rest:List Nat) (g:Gh) (fr:Frame) (w:World) (μ:Mu) (G:Key→Option ah) (H:T ah) (nx:Key) (tm:T AV) (au:List (Nat×Key×ah)),xI.length≤n→
  xI.mapM (HT pl)=some items→BH ops pl bf g.L xI=true→bA P ρ w0 μ G nx.toNat w→HSub H G→iw P ρ orc nt ops pl bf μ G H nx g (fun _=>False) au tm fr.tmps rest→fr.mode=.run→fr.todo=.inRegion ops rest ::K→
  Ls P ρ orc nt w0 cs K ops pl bf fr w μ G H nx au (jn orc kB items au tm H nx):=by
 intro n
 induction n with
 |zero=>intro xI items rest g fr w μ G H nx tm au hn hf hc hM hH S hm ht;have:xI=[]:=zqr (by omega);subst this;simp at hf;subst hf;exact YG hor hc hM hH S hm ht
 |succ n ih=>
  intro xI items rest g fr w μ G H nx tm au hn hf hc hM hH S hm ht;cases xI with
  |nil=>simp at hf;subst hf;exact YG hor hc hM hH S hm ht
  |cons x xI=>
   obtain⟨y,LF,hy,hf',rfl⟩:=ku hf;have hn':xI.length≤n:=by simpa using hn
   have hrefl:Steps P (lone fr cs w) (lone {fr with tmps:=fr.tmps,todo:=.inRegion ops rest ::K} cs w):=by rw[←ht];exact Steps.refl _ _
   cases x with
   |L i=>
    obtain⟨po,ud,rfl⟩:=map_some hy;simp only[BH,mP,bltN_eq,decide_eq_true_eq,Bool.not_eq_true',Jw]at hc;obtain⟨⟨⟨⟨hi,hk⟩,hL⟩,hb⟩,hc⟩:=hc;have hk:=rZ hk;have hii:hasB (gK bf i) i=false:=by
     cases h:hasB (gK bf i) i with
     |false=>rfl
     |true=>have:=hb i hi h;rw[hL]at this;cases this
    have htm:=S.aqn hi hL hb;have hnp:∀x∈au,x.1≠i:=by intro x hx e;have:=(S.pe x hx).1;rw[e,hL]at this;cases this
    rw[aax];cases hw:di po.guard tm with
    |none=>exact Or.inl ⟨_,rfl⟩
    |some b=>
     cases b with
     |false=>simp only[fO];have S':=S.add (nx':=nx) (pend':=au) (v:=.tuple []) ud hL hb (fun _ h=>h) (fun _ h=>.inl h) (.skip po tm ud (Ak hii htm) hw (by simp[Az]) hnp) (fun y hy hny=>absurd hy hny) (fg _) S.nk S.ni;exact ih xI LF rest _ fr w μ G H nx _ au hn' hf' hc hM hH S' hm ht
     |true=>
      cases hl:lightOp orc po.op tm (zf (HF i kB) au H)with
      |none=>exact Or.inl ⟨_,rfl⟩
      |some v=>simp only[fO];have S':=S.add (nx':=nx) (pend':=au) (v:=v) ud hL hb (fun _ h=>h) (fun _ h=>.inl h) (.light po tm v ud (Ak hii htm) hw hk (fun _=>⟨_,hl,VOk.view aec _ _ _⟩) (by simp[Az]) hnp) (fun y hy hny=>absurd hy hny) (fg _) S.nk S.ni;exact ih xI LF rest _ fr w μ G H nx _ au hn' hf' hc hM hH S' hm ht
   |A i=>
    obtain⟨po,ud,rfl⟩:=map_some hy;simp only[BH,mP,bltN_eq,decide_eq_true_eq,Bool.not_eq_true',Jw]at hc;obtain⟨⟨⟨⟨hi,hk⟩,hL⟩,hb⟩,hc⟩:=hc;have hk:=rZ hk;have hii:hasB (gK bf i) i=false:=by
     cases h:hasB (gK bf i) i with
     |false=>rfl
     |true=>have:=hb i hi h;rw[hL]at this;cases this
    have htm:=S.aqn hi hL hb;have hnp:∀x∈au,x.1≠i:=by intro x hx e;have:=(S.pe x hx).1;rw[e,hL]at this;cases this
    have hss:=kTSu nx;rw[aay];cases hw:di po.guard tm with
    |none=>exact Or.inl ⟨_,rfl⟩
    |some b=>
     cases b with
     |false=>simp only[fO];have S':=S.add (nx':=nx) (pend':=au) (v:=.tuple []) ud hL hb (fun _ h=>h) (fun _ h=>.inl h) (.skip po tm ud (Ak hii htm) hw (by simp[Az]) hnp) (fun y hy hny=>absurd hy hny) (fg _) S.nk S.ni;exact ih xI LF rest _ fr w μ G H nx _ au hn' hf' hc hM hH S' hm ht
     |true=>
      cases hl:allocOp po.op tm with
      |none=>exact Or.inl ⟨_,rfl⟩
      |some fB=>
       obtain⟨f,B⟩:=fB;simp only[fO];have hgn:=ayn hM;have hHn:ae nx H=none:=by
        cases h:ae nx H with
        |none=>rfl
        |some B=>rw[hH nx B h]at hgn;cases hgn
       have S':=S.add (nx':=nx.succ) (pend':=(i,nx,B) ::au) (v:=f nx) ud hL hb (fun _ h=>List.mem_cons_of_mem _ h) (fun y h=>by rcases OG.1 h with h|h;exact .inr (by rw[h]);exact .inl h)
        (.alloc po tm f B nx ud (Ak hii htm) hw hk hl (by simp[Az]) (by simp))
        (fun y hy hny=>by have:y=(i,nx,B):=(OG.1 hy).resolve_right hny;subst this;exact⟨hM.vG,hgn,hHn,by show nx.toNat<nx.succ.toNat;omega⟩) (by omega)
        (by simp only[zqx,List.nodup_cons];refine⟨fun h=>?_,S.nk⟩;obtain⟨x,hx,e⟩:=We.1 h;have:=(S.pe x hx).2.2.2.2;omega)
        (by simp only[zqx,List.nodup_cons];refine⟨fun h=>?_,S.ni⟩;obtain⟨x,hx,e⟩:=We.1 h;exact hnp x hx e)
       have:=ih xI LF rest _ fr w μ G H nx.succ _ ((i,nx,B) ::au) hn' hf' hc (hM.aAY (by omega)) hH S' hm ht;refine Ls.step (tmps2:=fr.tmps) (rest2:=rest) (w2:=w) (pend2:=(i,nx,B) ::au) hrefl μ.le_refl ⟨fun b _ hg hl=>⟨rfl,rfl,hg⟩,Nat.le_of_lt (show nx.toNat<nx.succ.toNat by omega)⟩ ?_ (by rw[←ht];exact this);intro x hx;simp only[sf,zqx,OG]at hx;rcases hx with h|h
       ·exact .inr (Nat.le_of_eq h.symm)
       ·exact .inl h
   |H i ad=>
    obtain⟨po,ud,rfl⟩:=map_some hy;cases xI with
    |nil=>simp[BH]at hc
    |cons x2 Wq=>
    cases x2 with
    |L _=>simp[BH]at hc
    |A _=>simp[BH]at hc
    |H _ _=>simp[BH]at hc
    |R osn=>
    obtain⟨y2,mW,hy2,hf2,rfl⟩:=ku hf';obtain⟨os,hos,rfl⟩:=map_some hy2;obtain⟨aKQ,aKR⟩:=aqo hos;have hn2:Wq.length≤n:=by simp at hn;omega
    simp only[BH,mP,bltN_eq,decide_eq_true_eq,Bool.not_eq_true',Jw]at hc;obtain⟨⟨⟨⟨⟨⟨⟨⟨hi,hk⟩,hL⟩,hb⟩,ad7⟩,sm⟩,LC⟩,aKS⟩,hc⟩:=hc;have hk:=rZ hk;have aC3:∀j q,(j,q)∈os→pl[j]?=some q∧HR ops bf j=true∧uc pl j=0:=by intro j q hj;obtain⟨e1,e2⟩:=aKQ j q hj;have:=wG.1 aKS j e1;simp only[mP]at this;exact⟨e2,this.2,rZ this.1.2⟩
    have avs:∀j,hasB g.L j=true→iv pl j=true→hasB (gK bf i) j=true∨∃q,(j,q)∈os:=by
     intro j hj hr;have:=wG.1 LC j (by simpa using S.L8 j hj);simp only[hj,hr,Bool.not_true,Bool.false_or,Bool.or_eq_true]at this;rcases this with h|h
     ·exact .inl h
     ·exact .inr (aKR j (by simpa using h))
    have ayp:∀j,j<ops.size→hasB g.L j=true∨j=i∨∃q,q<ops.size∧hasB (gK bf j) q=true∧hasB g.L q=false:=by
     intro j hj;have:=wG.1 ad7 j (by simpa using hj);simp only[Bool.or_eq_true,Bool.not_eq_true']at this;rcases this with(h|h)|h
     ·exact .inl h
     ·exact .inr (.inl (rZ h))
     ·refine .inr (.inr (Classical.byContradiction fun sx=>?_));have:aez ops.size (gK bf j) g.L=true:=Jw.2 fun q hq hbq=>by
       cases hLq:hasB g.L q with
       |true=>rfl
       |false=>exact absurd ⟨q,hq,hbq,hLq⟩ sx
      rw[this]at h;cases h
    obtain⟨Oh,w1,μ1,G1,D1,aO5,s1,s2,s3,s4,S1,s6,r1,rfl⟩:=aaE (cs:=cs) hM hH hor S hi hL ayp hm ht;have aC4:∀j∈ad,j<ops.size→D1 j=true:=by intro j hj bW;exact S1.ready.2.2 j bW (wG.1 sm j hj)
    have S2:=S1.HS (l:=ad) aC4;rw[aaz,zH];generalize hpf:(au.filter fun x=>!(memN x.1 ad))=pend2 at S2;generalize hHf:dJ (au.filter fun x=>memN x.1 ad) H=H2 at S2;have hH2:HSub H2 G1:=by rw[←hHf];refine Mo s4 fun x hx=>?_;obtain⟨L7,hx2⟩:=List.mem_filter.1 hx;exact(S1.pe x L7).2.1 (aC4 _ (Og hx2) (S1.L8 _ (S1.pe x L7).1))
    have aC5:∀x∈pend2,x∈au:=by intro x hx;rw[←hpf]at hx;exact(List.mem_filter.1 hx).1
    have aqp:∀x∈sf pend2,x∈sf au∨nx.toNat≤x:=by intro x hx;obtain⟨y,hy,e⟩:=We.1 hx;exact .inl (We.2 ⟨y,aC5 y hy,e⟩)
    have hK2:FI (sf au) H H2 nx nx μ μ1 G G1:=by refine⟨fun b iS hg cD=>?_,fg _⟩;have bX:∀x∈au,x.2.1.toNat≠b.toNat:=fun x hx e=>iS (We.2 ⟨x,hx,e⟩);obtain⟨k1,k2⟩:=s6 b (fun x hx e=>bX x hx (by rw[e]));rw[←hHf];exact⟨k1,k2,BC hg fun x hx=>bX x ((List.mem_filter.1 hx).1)⟩
    obtain⟨o,Xc,Q8,YQ,JZ⟩:=S.Th.at hi;rw[ud]at JZ;cases JZ;obtain⟨mg,YR,EP⟩:=jz YQ;have hsl:=S2.Tu hL hb Q8;have hE:=Ju (P:=P) (nt:=nt) (o:=o) (fr:={fr with tmps:=Oh,todo:=.inRegion ops (i ::r1) ::K}) s3 hsl;have go:∀(a:AV) (v:Value) (w3:World) (μ3:Mu) (G3:Key→Option ah) (H3:T ah) (bY:Key),step P (lone {fr with tmps:=Oh,todo:=.inRegion ops (i ::r1) ::K} cs w1)=.next (lone {fr with tmps:=JX o.dst v Oh,todo:=.inRegion ops r1 ::K} cs w3)→
      aY ρ μ3 a v→μ1.le μ3→bA P ρ w0 μ3 G3 bY.toNat w3→HSub H3 G3→Kept H2 H3 nx bY μ1 μ3 G1 G3→Ls P ρ orc nt w0 cs K ops pl bf fr w μ G H nx au (jn orc kB (.R os ::mW) pend2 (cr po.dst a tm) H3 bY):=by
     intro a v w3 μ3 G3 H3 bY ei hv hle hM3 hH3 hK3;have S3:=S2.cF hle hK3.n (G':=G3) (H':=H3) (fun x hx=>by obtain⟨p1,p2,p3,p4,p5⟩:=S2.pe x hx;exact⟨hK3.m _ p5,hK3.g _ p4 p5,hK3.h _ p4 p5⟩)
     have S4:=S3.avm ud hL hb Q8 hv;rw[ZG];cases hrc:recheck orc kB pend2 (cr po.dst a tm) H3 os with
     |false=>exact Or.inl ⟨_,rfl⟩
     |true=>
      simp only[cond_true];have S5:=S4.Yk aec hrc aC3 (by
       intro j hj hDj hrj;have hDj:(D1 j||j==i)=false:=hDj;rw[Bool.or_eq_false_iff]at hDj;have bX:j≠i:=by simpa using hDj.2
       have hj:hasB (MH g.L i) j=true:=hj;rw[MP,Bool.or_eq_true,decide_eq_true_eq]at hj;have hjL:=hj.resolve_right (fun e=>bX e.symm);rcases avs j hjL hrj with h|h
       ·have:=S1.ready.2.2 j (S.L8 j hjL) h;have:D1 j=true:=this;rw[hDj.1]at this;cases this
       ·exact h)
      have hE3:=ih Wq mW r1 _ {fr with tmps:=JX o.dst v Oh,todo:=.inRegion ops r1 ::K} w3 μ3 G3 H3 bY _ pend2 hn2 hf2 hc hM3 hH3 S5 hm rfl;exact Ls.step (s1.trans (.one ei)) (Mu.le_trans s2 hle) (hK2.trans (hK3.toE (sf pend2)) aqp) (fun x hx=>(aqp x hx)) hE3
    have evt:∀r:OR,Region.wanted o (yielded ops Oh)=true→aOp orc po.op tm H2 nx=r→¬EO r→Ls P ρ orc nt w0 cs K ops pl bf fr w μ G H nx au (.ev r (.H i po ad ::.R os ::mW) pend2 tm H2 nx):=by intro r sY ha hr;exact Or.inr ⟨Oh,w1,μ1,G1,{g with D:=D1},i,po,o,ad,os,Wq,mW,r1,s1,s2,s3,hH2,rfl,ud,hf2,hc,hL,hb,aC3,avs,S2,Q8,YQ,sY,ha,hr,hK2,aqp⟩
    show Ls P ρ orc nt w0 cs K ops pl bf fr w μ G H nx au (match di po.guard tm with
     |none=>.ev (.bad 35) (.H i po ad ::.R os ::mW) pend2 tm H2 nx
     |some false=>ze po.dst (some (.tuple [])) tm fun tm=>jn orc kB (.R os ::mW) pend2 tm H2 nx
     |some true=>match aOp orc po.op tm H2 nx with
      |.val v h nx=>ze po.dst (some v) tm fun tm=>jn orc kB (.R os ::mW) pend2 tm h nx
      |r=>.ev r (.H i po ad ::.R os ::mW) pend2 tm H2 nx)
    cases hw:di po.guard tm with
    |none=>exact Or.inl ⟨_,rfl⟩
    |some b=>
     have sY:=DB YR hsl hw;cases b with
     |false=>simp only[fO];have ei:=Mb (P:=P) (cs:=cs) (w:=w1) (fr:={fr with tmps:=Oh,todo:=.inRegion ops (i ::r1) ::K}) hm rfl Q8 sY;rw[dm rfl Q8]at ei;exact go _ _ w1 μ1 G1 H2 nx ei (.tuple _ _ .nil) μ1.le_refl s3 hH2 (Kept.refl _ _ _ _)
     |true=>
      cases ha:aOp orc po.op tm H2 nx with
      |val a H3 bY=>
       simp only[fO];obtain⟨n,w3,μ3,G3,q1,q2,q3,q4,q5,q6⟩:=YC s3 hH2 hor mg hE ha;have SV:fr.roundOf=none∨gi o.op=false:=.inr (CG mg (by rw[ha];intro f l e;cases e) (by rw[ha];intro n e;cases e));cases n with
       |value v=>have ei:=ZS (P:=P) (cs:=cs) (fr:={fr with tmps:=Oh,todo:=.inRegion ops (i ::r1) ::K}) hm rfl Q8 sY SV q1;rw[dm rfl Q8]at ei;exact go _ _ w3 μ3 G3 H3 bY ei q2 q3 q4 q5 q6
       |skip=>have q2:a=.tuple []:=q2;subst q2;have ei:=aiO (P:=P) (cs:=cs) (fr:={fr with tmps:=Oh,todo:=.inRegion ops (i ::r1) ::K}) hm rfl Q8 sY SV q1;rw[dm rfl Q8]at ei;exact go _ _ w3 μ3 G3 H3 bY ei (.tuple _ _ .nil) q3 q4 q5 q6
       |_=>exact q2.elim
      |bad n=>exact Or.inl ⟨_,rfl⟩
      |call f args=>exact evt _ sY ha (by rintro(⟨_,_,_,e⟩|⟨_,e⟩)<;>cases e)
      |yld k args=>exact evt _ sY ha (by rintro(⟨_,_,_,e⟩|⟨_,e⟩)<;>cases e)
      |pan v=>exact evt _ sY ha (by rintro(⟨_,_,_,e⟩|⟨_,e⟩)<;>cases e)
      |dfr f args=>exact evt _ sY ha (by rintro(⟨_,_,_,e⟩|⟨_,e⟩)<;>cases e)
      |recover=>exact evt _ sY ha (by rintro(⟨_,_,_,e⟩|⟨_,e⟩)<;>cases e)
   |R os=>simp[BH]at hc
end
def MQ(P:Program)(ρ:Nat→Int)(w0:W0)(f:Nat)(l:List AV)(H:T ah)(nx:Key)(a:AV)(H':T ah)(nx':Key):Prop:=∀(args:Array Value) (w:World) (μ:Mu) (G:Key→Option ah),bA P ρ w0 μ G nx.toNat w→HSub H G→az ρ μ l args.toList→
 Calls P f args w fun e w'=>∃u μ' G',e=.returned u∧aY ρ μ' a u∧μ.le μ'∧bA P ρ w0 μ' G' nx'.toNat w'∧HSub H' G'∧Kept H H' nx nx' μ μ' G G'
structure Ctx(P:Program)(ρ:Nat→Int)(w0:W0)(C:bQ):Prop where
 sum:∀f l H nx a H' nx',C.sum f l H nx=some (a,H',nx')→MQ P ρ w0 f l H nx a H' nx'
 has : ∀ f l H nx r, C.sum f l H nx = some r → ∃ fn, P.funcs[f]? = some fn ∧ fn.body.isSome = true ∧ fn.name ≠ "runtime.NumGoroutine"
 orc:fK ρ C.orc
 fns:∀f p,(bif Nat.beq (Key.gj 12 f).toNat f then ae (Key.gj 12 f) C.fns else none)=some p→J9 P f=some p
 mix:P.follows .mixedOrders=true
section
variable{P:Program}{ρ:Nat→Int}{orc:jR}{nt:Nat}{w0:W0}{w:World}{μ:Mu}{G:Key→Option ah}{H:T ah}{nx:Key}
theorem ahs{id:Nat}{k:List dD}{K:List Item}(h:pn P μ nt k K) :
  (∀k',nT id k=some k'→∃K',exitTo id K=some K'∧pn P μ nt k' K')∧(nT id k=none→exitTo id K=none):=by
 induction h with
 |nil=>exact⟨fun k' e=>(by cases e),fun _=>rfl⟩
 |cons a x l k h h' ih=>
  cases h with
  |inBlock id'=>
   simp only[nT,exitTo,beqN_eq];by_cases e:id'=id
   ·subst e;simp only[decide_true,cond_true,beq_self_eq_true,if_true];exact⟨fun k' e=>(by cases e;exact⟨_,rfl,h'⟩),fun e=>(by cases e)⟩
   ·have:(id'==id)=false:=by simpa using e
    simp only[e,decide_false,cond_false,this,XY,if_false];exact ih
  |code pc c h=>exact ih
  |inLoop pc c h=>exact ih
  |ops l ops rest h=>exact ih
  |inRF k l r h hr=>exact ih
  |endRF k l r h hr=>exact ih
  |beginRound=>exact ih
  |scope c=>exact ih
noncomputable def iN:List AV→Key→T AV→T AV
 | [],_,tm=>tm
 |v ::l,k,tm=>iN l k.succ (aw k (some v) tm)
theorem EN{R:Type}:∀(l:List AV) (k:Key) (tm:T AV) (c:T AV→R),Y8 l k tm c=c (iN l k tm)
 | [],_,_,_=>rfl
 |v ::l,k,tm,c=>by show yM k (some v) tm (fun tm=>Y8 l k.succ tm c)=_;rw[sTCe,EN l];rfl
theorem Rh:∀(l:List AV) (k:Key) (tm:T AV) (q:Key) (a:AV),ae q (iN l k tm)=some a→(k.toNat≤q.toNat∧l[q.toNat-k.toNat]?=some a)∨ae q tm=some a
 | [],_,_,_,_,h=>.inr h
 |v ::l,k,tm,q,a,h=>by
  have hs:=kTSu k;rcases Rh l k.succ _ q a h with⟨h1,h2⟩|h1
  ·refine .inl ⟨by omega,?_⟩;have:q.toNat-k.toNat=(q.toNat-k.succ.toNat)+1:=by omega
   rw[this];simpa using h2
  ·by_cases e:q=k
   ·subst e;rw[gTSm]at h1;cases h1;exact .inl ⟨fg _,by simp⟩
   ·rw[aU _ _ _ _ e]at h1;exact .inr h1
theorem aht{args:Array Value}{l:List AV}(h:az ρ μ l args.toList):lV ρ μ nt (iN l .z .nil) (args++Array.replicate (nt-args.size) undef):=by
 refine⟨by simp;omega,fun q a hq=>?_⟩;rcases Rh l .z .nil q a hq with⟨_,h2⟩|h2
 ·have h2:l[q.toNat]?=some a:=by simpa[Key.toNat]using h2
  obtain⟨v,hv,hr⟩:=h.get _ _ h2;refine⟨v,?_,hr⟩;have cD:q.toNat<args.size:=by
   rcases MO q.toNat args.size with h'|h'
   ·exact h'
   ·rw[zqo (by simpa using h')]at hv;cases hv
  rw[Array.getElem?_append_left cD];simpa using hv
 ·simp at h2
theorem vX {f : Nat} {p : fe} (h : J9 P f = some p) : ∃ fn c, P.funcs[f]? = some fn ∧ fn.body = some c ∧ fn.name ≠ "runtime.NumGoroutine" ∧ iQ P fn.ntmps c = some p.body ∧ Wk P fn.ntmps fn.results.toList = some p.res := by
 unfold J9 at h;split at h
 ·cases h
 ·rename_i fn hfn;split at h
  ·cases h
  ·rename_i c hc;cases hn : (fn.name == "runtime.NumGoroutine") with
   |true=>rw[hn]at h;cases h
   |false=>
    rw[hn]at h;simp only[cond_false]at h;split at h
    ·rename_i b r hb hr;cases h;exact⟨fn,c,hfn,hc,by simpa using hn,hb,hr⟩
    ·cases h
theorem yE{f:Nat}{p:fe}(hp:J9 P f=some p){l:List AV}{args:Array Value}(hl:az ρ μ l args.toList)(H6:Bool) :
  Cur P ρ orc μ G H nx {fn:=f,tm:=iN l .z .nil,todo:=[.code p.body],dfs:=[],mode:=.run,H6,vW:=none,res:=p.res} (Frame.enter P f args (if H6 then .deferred else .normal)):=by
 obtain⟨fn,c,h1,h2,h3,h4,h5⟩:=vX hp;refine .run fn.ntmps ⟨rfl,⟨fn,h1,rfl,h5⟩,trivial,rfl,trivial,fun h=>absurd rfl h⟩ rfl rfl ?_;simp only[Frame.enter,h1,Option.map_some,Option.getD_some,Option.bind_some,h2];exact .plain _ _ _ _ (.cons _ _ _ _ (.code _ _ h4) .nil) (aht hl)
theorem lV.set{tm:T AV}{tmps:Array Value}(h:lV ρ μ nt tm tmps){k:Key}(cD:k.toNat<nt){a:AV}{v:Value}(hv:aY ρ μ a v):lV ρ μ nt (aw k (some a) tm) (tmps.setIfInBounds k.toNat v):=by
 refine⟨by simp;exact h.1,fun q b hb=>?_⟩;by_cases hq:q=k
 ·subst hq;rw[gTSm]at hb;cases hb;have:q.toNat<tmps.size:=OX cD h.1;exact⟨v,by simp[this],hv⟩
 ·rw[aU _ _ _ _ hq]at hb;obtain⟨u,hu,hr⟩:=h.2 q b hb;refine⟨u,?_,hr⟩;rw[zqn]
  ·exact hu
  ·intro e;exact hq (Key.toNat_inj e.symm)
noncomputable def arh:List Key→List AV→T AV→T AV
 |k ::l,v ::m,tm=>arh l m (aw k (some v) tm)
 |_,_,tm=>tm
theorem XW{R:Type}:∀(ks:List Key) (vs:List AV) (tm:T AV) (bad:R) (c:T AV→R),Y9 ks vs tm bad c=bad∨(ks.length=vs.length∧Y9 ks vs tm bad c=c (arh ks vs tm))
 | [],[],tm,bad,c=>.inr ⟨rfl,rfl⟩
 | [],_ ::_,tm,bad,c=>.inl rfl
 |_ ::_,[],tm,bad,c=>.inl rfl
 |k ::l,v ::m,tm,bad,c=>by
  have e:Y9 (k ::l) (v ::m) tm bad c=Y9 l m (aw k (some v) tm) bad c:=by show yM k (some v) tm (fun tm=>Y9 l m tm bad c)=_;rw[sTCe]
  rw[e];rcases XW l m (aw k (some v) tm) bad c with h|⟨h1,h2⟩
  ·exact .inl h
  ·exact .inr ⟨by simp[h1],h2⟩
theorem aa1:∀{ks:List Key} {vs:List AV} {us:List Value} {tm:T AV} {tmps:Array Value},(∀k∈ks,k.toNat<nt)→ks.length=vs.length→az ρ μ vs us→lV ρ μ nt tm tmps→
  lV ρ μ nt (arh ks vs tm) (((ks.map Key.toNat).zip us).foldl (fun tmps (x:Nat×Value)=>tmps.setIfInBounds x.1 x.2) tmps)
 | [],[],_,_,_,_,_,.nil,h=>h
 | [],_ ::_,_,_,_,_,hl,_,_=>by cases hl
 |_ ::_,[],_,_,_,_,hl,_,_=>by cases hl
 |k ::ks,v ::vs,_,tm,tmps,hk,hl,.cons _ _ u us h h',ht=>by exact aa1 (ks:=ks) (vs:=vs) (fun q hq=>hk q (by simp[hq])) (by simpa using hl) h' (ht.set (hk k (by simp)) h)
noncomputable def kV:List Key→T AV→T AV
 | [],tm=>tm
 |k ::l,tm=>kV l (aw k none tm)
theorem qW{R:Type}:∀(l:List Key) (tm:T AV) (c:T AV→R),LD l tm c=c (kV l tm)
 | [],_,_=>rfl
 |k ::l,tm,c=>by show yM k none tm (fun tm=>LD l tm c)=_;rw[sTCe,qW l];rfl
theorem VN:∀(l:List Key) (tm:T AV) (q:Key) (a:AV),ae q (kV l tm)=some a→(∀k∈l,k≠q)∧ae q tm=some a
 | [],_,_,_,h=>⟨fun _ h=>(by cases h),h⟩
 |k ::l,tm,q,a,h=>by
  obtain⟨h1,h2⟩:=VN l _ q a h;have bX:k≠q:=by intro e;subst e;rw[gTSm]at h2;cases h2
  rw[aU _ _ _ _ (fun e=>bX e.symm)]at h2;refine⟨fun x hx=>?_,h2⟩;rcases OG.1 hx with e|e
  ·rw[e];exact bX
  ·exact h1 x e
theorem iw.erase{ops:Array Oper}{pl:List aA}{bf:List Nat}{g:Gh}{Gk:Nat→Prop}{au:List (Nat×Key×ah)}{tm:T AV}{tmps:Array Value}{rest:List Nat}(S:iw P ρ orc nt ops pl bf μ G H nx g Gk au tm tmps rest){jT:List Key}(hd:OP ops jT) :
  lV ρ μ nt (kV jT tm) tmps:=by
 refine⟨S.sz,fun q a hq=>?_⟩;obtain⟨h1,h2⟩:=VN _ _ _ _ hq;have sx:∀j,pC ops j≠some q.toNat:=by intro j hj;obtain⟨k,hk,e⟩:=hd j _ hj;exact h1 k hk (Key.toNat_inj e)
 rw[S.a2 q fun j _=>sx j]at h2;exact S.c2 q a (fun j _=>sx j) h2
theorem ML.finish{k:List dD}{tm:T AV}{K:List Item}{tmps:Array Value}(h:ML P ρ orc μ G H nx nt k tm K tmps){af af':nN}(hk:af.todo=k)(ht:af.tm=tm){fr:Frame}(hK:fr.todo=K)(hT:fr.tmps=tmps){a:AV}{v:Value}(hv:aY ρ μ a v)
  (hf:dw a af=some af'):aa2 P ρ orc μ G H nx nt af'.todo af'.tm (fr.finish v).todo (fr.finish v).tmps∧pk af'=pk af∧(∃aJ k2,af'={af with tm:=aJ,todo:=k2})∧(∃tmps2 K2,fr.finish v={fr with tmps:=tmps2,todo:=K2}):=by
 cases h with
 |ops o l ops i rest k K tm tmps hp h ht'=>
  subst ht hT;simp only[dw,hk,fO,eM]at hf;subst hf;have hp0:=hp;simp only[pB]at hp;split at hp
  ·cases hp
  ·rename_i oo Q8;split at hp
   ·rename_i Xc l' h1 h2;simp only[eM,List.cons.injEq]at hp;obtain⟨rfl,rfl⟩:=hp;obtain⟨mg,YR,EP⟩:=jz h1;rw[dm hK Q8];exact⟨.plain _ _ _ _ (.cons _ _ _ _ (.ops _ _ _ h2) h) (ht'.put EP hv),by simp[pk,hk],⟨_,_,rfl⟩,⟨_,_,rfl⟩⟩
   ·cases hp
 |staged ops pl bf g i po ad os xI items jT au k K tm tmps rest ud hf' hc hL XU hd h hos LC S=>
  subst ht hT;simp only[dw,hk,fO,eM]at hf;subst hf;obtain⟨hi,hDi,qx⟩:=S.ready;obtain⟨o,Xc,Q8,YQ,JZ⟩:=S.Th.at hi;rw[ud]at JZ;cases JZ;rw[dm hK Q8];have S4:=S.avm ud hL XU Q8 hv;refine⟨.back ops pl bf _ os xI items jT au k K _ _ rest hf' hc hd h hos ?_ S4,by simp[pk,hk],⟨_,_,rfl⟩,⟨_,_,rfl⟩⟩;intro j hj hDj hrj;have hDj:(g.D j||j==i)=false:=hDj;rw[Bool.or_eq_false_iff]at hDj;have bX:j≠i:=by simpa using hDj.2
  have hj:hasB (MH g.L i) j=true:=hj;rw[MP,Bool.or_eq_true,decide_eq_true_eq]at hj;have hjL:=hj.resolve_right (fun e=>bX e.symm);rcases LC j hjL hrj with h|h
  ·have:=qx j (S.L8 j hjL) h;rw[hDj.1]at this;cases this
  ·exact h
 |rf key l k K tm tmps ax6 h ht'=>
  subst ht hT;simp only[dw,hk,eM]at hf;subst hf;have e:fr.finish v={fr with todo:=.endRangeFunc l.c ::K}:=by simp[Frame.finish,hK]
  rw[e];exact⟨.plain _ _ _ _ (.cons _ _ _ _ (.endRF _ _ _ ax6 rfl) h) ht',by simp[pk,hk],⟨_,_,rfl⟩,⟨_,_,rfl⟩⟩
def ali(tmps:Array Value):ResultVar→Sem Value
 |.tmp t=>pure (tmps.getD t undef)
 |.cell a t=>do loadVar t (←asAddr (tmps.getD a undef))
theorem FG(hM:bA P ρ w0 μ G nx.toNat w)(hH:HSub H G){tm:T AV}{tmps:Array Value}(hT:lV ρ μ nt tm tmps):∀{rs:List ResultVar} {res:List RV} {l:List AV},Wk P nt rs=some res→resultsA H tm res=some l→
  ∃vs,(rs.mapM (ali tmps)).run P w=.ok vs w∧az ρ μ l vs
 | [],res,l,hp,hr=>by simp only[Wk,eM]at hp;subst hp;simp only[resultsA,eM]at hr;subst hr;exact⟨[],by simp[xJ],.nil⟩
 |.tmp t ::rs,res,l,hp,hr=>by
  simp only[Wk]at hp;split at hp
  ·rename_i k r hk hrs;cases hp;simp only[resultsA]at hr;split at hr
   ·rename_i a l' ha Yi;cases hr;obtain⟨vs,h1,h2⟩:=FG hM hH hT hrs Yi;obtain⟨v,hv,hvr⟩:=hT.2 _ _ ha;rw[(qR hk).1]at hv;refine⟨v ::vs,?_,.cons _ _ _ _ hvr h2⟩;have hg:tmps.getD t undef=v:=by simp[Array.getD_eq_getD_getElem?,hv]
    rw[List.mapM_cons];simp only[ali,tJ,xJ,qv,hg,h1]
   ·cases hr
  ·cases hp
 |.cell a t ::rs,res,l,hp,hr=>by
  simp only[Wk]at hp;split at hp
  ·rename_i k i r hk hi hrs;cases hp;simp only[resultsA]at hr;split at hr
   ·rename_i b off l' ha Yi;split at hr
    ·rename_i x hx;cases hr;obtain⟨vs,h1,h2⟩:=FG hM hH hT hrs Yi;obtain⟨v,hv,hvr⟩:=hT.2 _ _ ha;rw[(qR hk).1]at hv;have hg:tmps.getD a undef=v:=by simp[Array.getD_eq_getD_getElem?,hv]
     cases hvr with|ptr _ _ lc ad EY sm=>
     subst sm;simp only[loadB]at hx;split at hx
     ·rename_i L ck hL;obtain⟨ii,d,z,e1,e2,e3,e4,e5,e6⟩:=lx hi;rw[e5,e6]at hx;obtain⟨u,hu,hur⟩:=Kc hM (hH _ _ hL) e1 e2 hx EY;refine⟨u ::vs,?_,.cons _ _ _ _ hur h2⟩;rw[List.mapM_cons];simp only[ali,tJ,xJ,qv,hg,asAddr,hu,h1]
     ·cases hx
    ·cases hr
   ·cases hr
  ·cases hp
def NP(vs:List Value):Value:=if h:vs.toArray.size=1 then vs.toArray[0]else .tuple vs.toArray
theorem afl{l:List AV}{vs:List Value}(h:az ρ μ l vs):aY ρ μ (pG l) (NP vs):=by
 cases h with
 |nil=>exact .tuple _ _ .nil
 |cons a l v vs h h'=>
  cases h' with
  |nil=>exact h
  |cons b l v2 vs h5 h6=>
   have:NP (v ::v2 ::vs)=.tuple (v ::v2 ::vs).toArray:=by simp[NP]
   rw[this];exact .tuple _ _ (.cons _ _ _ _ h (.cons _ _ _ _ h5 h6))
theorem WZ(hM:bA P ρ w0 μ G nx.toNat w)(hH:HSub H G){tm:T AV}{tmps:Array Value}(hT:lV ρ μ nt tm tmps){fn:Func}{res:List RV}{l:List AV}(hp:Wk P nt fn.results.toList=some res)(hr:resultsA H tm res=some l) :
  ∃vs,(results fn tmps).run P w=.ok (NP vs) w∧az ρ μ l vs:=by
 obtain⟨vs,h1,h2⟩:=FG hM hH hT hp hr;have aKa:results fn tmps=(do
   let vs ←fn.results.mapM (ali tmps)
   pure (if h:vs.size=1 then vs[0]else .tuple vs)):=by
  unfold results;congr 1
 refine⟨vs,?_,h2⟩;have hm:fn.results.mapM (ali tmps)=Functor.map List.toArray (fn.results.toList.mapM (ali tmps)):=by rw[←List.mapM_toArray]
 rw[aKa,hm];simp only[map_eq_pure_bind,bind_assoc,pure_bind,tJ,h1,qv,xJ];rfl
end
def Good(P:Program)(ρ:Nat→Int)(C:bQ)(w0:W0)(μ0:Mu)(rest:List Frame)(m:Machine):SR→Prop
 |.next am'=>∃iR Jt w',Steps P m (lone iR (Jt++rest) w')∧HD P ρ C.orc w0 μ0 am' iR Jt w'
 |.done f v h nx=>∃iR w' μ G u,Steps P m (lone iR rest w')∧iR.fn=f∧iR.leaving P w' (.returned u)∧aY ρ μ v u∧μ0.le μ∧bA P ρ w0 μ G nx.toNat w'∧HSub h G
 |_=>True
section
variable{P:Program}{ρ:Nat→Int}{C:bQ}{nt:Nat}{w0:W0}{w:World}{μ0 μ:Mu}{G:Key→Option ah}{H:T ah}{nx:Key}{rest cs:List Frame}{fr:Frame}{af:nN}{lp:List nN}{K:List Item}{k:List dD}
theorem Good.steps{m m':Machine}{r:SR}(h:Steps P m m')(g:Good P ρ C w0 μ0 rest m' r):Good P ρ C w0 μ0 rest m r:=by
 cases r with
 |next am'=>obtain⟨iR,Jt,w',h1,h2⟩:=g;exact⟨iR,Jt,w',h.trans h1,h2⟩
 |done f v hh nx=>obtain⟨iR,w',μ,G,u,h1,h2⟩:=g;exact⟨iR,w',μ,G,u,h.trans h1,h2⟩
 |pan v hh nx=>trivial
 |bad n m=>trivial
theorem CD.todo(h:CD P ρ μ nt af fr)(t:T AV)(k:List dD)(T:Array Value)(K:List Item):CD P ρ μ nt {af with tm:=t,todo:=k} {fr with tmps:=T,todo:=K}:=
 ⟨h.fn,h.fnr,h.dfs,h.kind,h.vW,h.rd⟩
theorem alT{af:nN}(h:pn P μ nt af.todo K):pk af=[]:=by
 unfold pk;split
 ·rename_i i d p k' e;rw[e]at h;cases h with|cons _ _ _ _ h _=>cases h
 ·rfl
theorem atN:∀{lp:List nN} {cs:List Frame},eL P ρ C.orc μ G H nx lp cs→∀x∈bR lp,x<nx.toNat
 | [],[],_,x,hx=>by cases hx
 | [],_ ::_,h,_,_=>h.elim
 |_ ::_,[],h,_,_=>h.elim
 |a ::lp,f ::cs,h,x,hx=>by
  simp only[bR,List.mem_append]at hx;rcases hx with hx|hx
  ·cases h.1 with
   |wait nt hb h1 h2 h=>
    unfold pk at hx;split at hx
    ·rename_i i d p k' e;rw[e]at h;generalize f.todo=KK at h;generalize f.tmps=TT at h;generalize a.tm=tt at h;cases h with
     |staged ops pl bf g i po ad os xI items jT au k K tm tmps rest ud hf hc hL XU hd h hos LC S=>obtain⟨y,hy,e⟩:=We.1 hx;rw[←e];exact(S.pe y hy).2.2.2.2
    ·cases hx
   |unw h hm=>
    cases h with
    |run nt hb h1=>exact absurd h1 hm
    |ret nt hb h1 h2 h3 h=>unfold pk at hx;rcases h3 with h3|⟨k,h3⟩<;>rw[h3]at hx<;>cases hx
    |pan nt hb v u r h1 h2 hv h3 h=>unfold pk at hx;rw[h3]at hx;cases hx
  ·exact atN h.2 x hx
theorem eL.kept{μ':Mu}{G':Key→Option ah}{H':T ah}{nx':Key}(hm:μ.le μ')(hk:Kept H H' nx nx' μ μ' G G')(h:eL P ρ C.orc μ G H nx lp cs):eL P ρ C.orc μ' G' H' nx' lp cs:=
 h.cF hm hk.n fun b _ hg hl=>⟨hk.m b hl,hk.g b hg hl,hk.h b hg hl⟩
theorem eL.atO{E:List Nat}{μ':Mu}{G':Key→Option ah}{H':T ah}{nx':Key}(hm:μ.le μ')(hk:FI E H H' nx nx' μ μ' G G')(hE:∀x∈E,x∉bR lp)(h:eL P ρ C.orc μ G H nx lp cs):eL P ρ C.orc μ' G' H' nx' lp cs:=
 h.cF hm hk.n fun b hb hg hl=>hk.k b (fun he=>hE _ he hb) hg hl
theorem ue(h0:μ0.le μ)(hM:bA P ρ w0 μ G nx.toNat w)(hH:HSub H G)(hb:CD P ρ μ nt af fr)(h1:af.mode=.run)(h2:fr.mode=.run)(hk:pn P μ nt af.todo fr.todo)(hT:lV ρ μ nt af.tm fr.tmps)
  (hS:eL P ρ C.orc μ G H nx lp cs) (hn:(bR lp).Nodup):HD P ρ C.orc w0 μ0 ⟨af,lp,H,nx⟩ fr cs w:=
 ⟨μ,G,h0,hM,hH,.run nt hb h1 h2 (.plain _ _ _ _ hk hT),hS,by simp[bR,alT hk,hn]⟩
theorem Sus.finish{c c':nN}{cf:Frame}(h:Sus P ρ C.orc μ G H nx c cf){a:AV}{v:Value}(hv:aY ρ μ a v)(hf:dw a c=some c'):Cur P ρ C.orc μ G H nx c' (cf.finish v)∧pk c'=pk c:=by
 cases h with
 |wait nt hb h1 h2 h=>obtain⟨h3,h4,⟨aJ,k2,h5⟩,⟨T2,K2,h6⟩⟩:=h.finish rfl rfl rfl rfl hv hf;refine⟨?_,h4⟩;rw[h6]at h3 ⊢;subst h5;exact .run nt (hb.todo _ _ _ _) h1 h2 h3
 |unw h hm=>
  cases h with
  |run nt hb h1=>exact absurd h1 hm
  |ret nt hb h1 h2 h3 h=>rcases h3 with h3|⟨k,h3⟩<;>simp[dw,h3]at hf
  |pan nt hb v u r h1 h2 hv h3 h=>simp[dw,h3]at hf
noncomputable def dc(raw:Bool)(l:List AV)(H:T ah):List AV×T ah:=bif raw then(l,H)else bG (aM 9999) l H
theorem yV{R:Type}(raw:Bool)(l:List AV)(H:T ah)(c:List AV→T ah→R):alU raw l H c=c (dc raw l H).1 (dc raw l H).2:=by
 cases raw
 ·show OO (frz 9999) l H c=_;rw[yp (H4 9999)];rfl
 ·rfl
theorem MJ(raw:Bool)(hM:bA P ρ w0 μ G nx.toNat w)(hH:HSub H G){l:List AV}{us:List Value}(h:az ρ μ l us):∃μ' G',jO P ρ w0 w nx μ G H μ' G' (dc raw l H).2∧az ρ μ' (dc raw l H).1 us:=by
 cases raw
 ·exact qV (EM 9999) l us μ G H hM hH h
 ·exact⟨μ,G,jO.refl hM hH,h⟩
theorem H5(X:Ctx P ρ w0 C)(f:Nat)(args:List AV)(H6:Bool)(bad:SR)(c:nN→SR):H7 C f args H6 bad c=bad∨
  ∃p,J9 P f=some p∧H7 C f args H6 bad c=c {fn:=f,tm:=iN args .z .nil,todo:=[.code p.body],dfs:=[],mode:=.run,H6,vW:=none,res:=p.res}:=by
 unfold H7;split
 ·rename_i p hp;exact .inr ⟨p,X.fns f p hp,by rw[EN]⟩
 ·exact .inl rfl
theorem ajB{l:Nat}{L:Loop}{args:Array Value}(h:w.heap[l]?=some (.loop L))(hs:args.size=L.params.size) :
  (Instr.yield l args).run P w=.ok (.round l L.fn ((L.params.zip args).foldl (fun tmps (x:Nat×Value)=>tmps.setIfInBounds x.1 x.2) L.tmps) L.assign L.body) w:=by
 simp[Instr.yield,Instr.getLoop,getObj,Sem.run,h,hs]
theorem MK(hM:bA P ρ w0 μ G nx.toNat w){b:Key}{st:LS}{pd:Option aI}{fn:Nat}{tm:T AV}{res:List RV}{params:List Key}{as bd:aI}{dfs:Key}(hb:G b=some (.loop st pd fn tm res params as bd dfs)) :
  ∃l L nt ld,μ b=some l∧w.heap[l.c]?=some (.loop L)∧ahN st L.state∧(∀n,XV P n pd L.pending)∧L.fn=fn∧lV ρ μ nt tm L.tmps∧YP params L.params.toList∧(∀k∈params,k.toNat<nt)∧alV P nt as L.assign∧alV P nt bd L.body∧μ dfs=some ld∧L.defers=ld.c∧alW P fn nt res:=by
 obtain⟨l,o,h1,h2,h3⟩:=hM.lW b _ hb;cases h3 with
 |loop st pd fn nt tm res params as bd dfs ld l L e1 e2 e3 e4 e5 e5' e6 e7 e8 e9 e10=>exact⟨l,L,nt,ld,h1,h2,e1,e2,e3,e4,e5,e5',e6,e7,e8,e9,e10⟩
theorem Ts(X:Ctx P ρ w0 C){ops:Array Oper}{i:Nat}{me:List Nat}{o:Oper}{po:aA}{r:OR}{aJ:T AV}(h0:μ0.le μ)(hM:bA P ρ w0 μ G nx.toNat w)(hH:HSub H G)(hb:CD P ρ μ nt af fr)(h1:af.mode=.run)(hm:fr.mode=.run)
  (ht:fr.todo=.inRegion ops (i ::me) ::K) (ho:ops[i]?=some o) (YQ:P9 P nt ops o=some po) (hw:Region.wanted o (yielded ops fr.tmps)=true)
  (hE:CE P ρ μ nt o.op.operands.toList af.tm fr.eval) (ha:aOp C.orc po.op af.tm H nx=r) (hr:¬EO r)
  (hW:ML P ρ C.orc μ G H nx nt af.todo af.tm fr.todo fr.tmps) (hS:eL P ρ C.orc μ G H nx lp cs) (hn:(bR (af ::lp)).Nodup) (hT2:lV ρ μ nt aJ fr.tmps) :
  Good P ρ C w0 μ0 rest (lone fr (cs++rest) w) (jU C r af {af with tm:=aJ,todo:=[]} lp H nx):=by
 obtain⟨mg,YR,EP⟩:=jz YQ;have alX:Sus P ρ C.orc μ G H nx af fr:=.wait nt hb h1 hm hW;have hnp:(bR lp).Nodup:=(List.nodup_append.1 hn).2.1;cases r with
 |val a H' nx'=>exact absurd (se _ _ _) hr
 |bad n=>exact absurd (dN _) hr
 |call f l=>
  have SV:fr.roundOf=none∨gi o.op=false:=.inr (CG mg (by rw[ha];intro f l e;cases e) (by rw[ha];intro n e;cases e));simp only[jU,yV];have key : ∀ {fn : Func}, P.funcs[f]? = some fn → fn.body.isSome = true → fn.name ≠ "runtime.NumGoroutine" → ∃ args μ1 G1, step P (lone fr (cs ++ rest) w) = .next (lone (Frame.enter P f args .normal) (fr :: cs ++ rest) w) ∧
    jO P ρ w0 w nx μ G H μ1 G1 (dc (C.raw f) l H).2∧az ρ μ1 (dc (C.raw f) l H).1 args.toList:=by
   intro fn f1 f2 f3;obtain⟨args,q1,q2⟩:=aeB (w:=w) mg hE ha f1 f2 f3;obtain⟨μ1,G1,x1,x2⟩:=MJ (C.raw f) hM hH q2;exact⟨args,μ1,G1,alY (P:=P) (cs:=cs++rest) hm ht ho hw SV q1,x1,x2⟩
  generalize dc (C.raw f) l H=lh at key;obtain⟨l1,H1⟩:=lh;simp only at key ⊢;split
  ·rename_i v H2 aN aeC;split
   ·rename_i af' hf;have hso:=X.sum f l1 H1 nx v H2 aN aeC;obtain⟨fn,f1,f2,f3⟩:=X.has f l1 H1 nx _ aeC;obtain⟨args,μ1,G1,ei,x1,x2⟩:=key f1 f2 f3;obtain⟨e,w',iR,⟨u,μ',G',rfl,y2,y3,y4,y5,y6⟩,avC,hfn,avD⟩:=hso args w μ1 G1 x1.M x1.hs x2 (fr ::cs++rest);have hS1:eL P ρ C.orc μ1 G1 H1 nx (af ::lp) (fr ::cs):=eL.kept x1.le x1.kept ⟨alX,hS⟩;have hS2:eL P ρ C.orc μ' G' H2 aN (af ::lp) (fr ::cs):=eL.kept y3 y6 hS1;obtain⟨aa0,hpk⟩:=hS2.1.finish y2 hf;refine⟨_,cs,w',Steps.trans (.head ei avC) (.one (step_leave_returned avD)),μ',G',Mu.le_trans h0 (Mu.le_trans x1.le y3),y4,y5,aa0,hS2.2,?_⟩;show(bR (af' ::lp)).Nodup;simp only[bR,hpk]at hn ⊢;exact hn
   ·trivial
  ·rcases H5 X f l1 false (.bad 40 ⟨af,lp,H1,nx⟩) (fun iR=>.next ⟨iR,af ::lp,H1,nx⟩)with e|⟨p,hp,e⟩
   ·rw[e];trivial
   ·rw[e];obtain⟨fn,c,f1,f2,f3,f4,f5⟩:=vX hp;obtain⟨args,μ1,G1,ei,x1,x2⟩:=key f1 (by rw[f2];rfl) f3;refine⟨_,fr ::cs,w,.one ei,μ1,G1,Mu.le_trans h0 x1.le,x1.M,x1.hs,yE hp x2 false,eL.kept x1.le x1.kept ⟨alX,hS⟩,?_⟩;show(bR (_ ::af ::lp)).Nodup;simp only[bR,pk,List.nil_append];exact hn
 |yld key l=>
  have SV:fr.roundOf=none∨gi o.op=false:=.inr (CG mg (by rw[ha];intro f l e;cases e) (by rw[ha];intro n e;cases e));simp only[jU];split
  ·rename_i st pd fn tm res params as bd dfs hk;rcases XW params l tm (SR.bad 41 ⟨af,lp,H,nx⟩) (fun tm=>.next ⟨{fn,tm,todo:=[.code as,.beginRound,.code bd],dfs:=[],mode:=.run,H6:=false,vW:=some key,res},af ::lp,H,nx⟩)with e|⟨hlen,e⟩
   ·rw[e];trivial
   ·rw[e];obtain⟨args,lc,q1,q2,q3⟩:=ajC (w:=w) mg hE ha;obtain⟨lc',L,ntl,ld,e0,Tt,e1,e2,e3,e4,e5,e5',e6,e7,e8,e9,e10⟩:=MK hM (hH _ _ hk);rw[q1]at e0;cases e0;have yq:args.size=L.params.size:=by
     have a1:=q3.length;have a2:(params.map Key.toNat).length=L.params.toList.length:=by rw[e5]
     simp at a1 a2;omega
    rw[ajB Tt yq]at q2;have ei:=alZ (P:=P) (cs:=cs++rest) hm ht ho hw SV q2;refine⟨_,fr ::cs,w,.one ei,μ,G,h0,hM,hH,?_,⟨alX,hS⟩,?_⟩
    ·refine .run ntl ⟨e3,e10,trivial,rfl,⟨_,q1,rfl⟩,fun _=>rfl⟩ rfl rfl (.plain _ _ _ _ (.cons _ _ _ _ (.code _ _ e6) (.cons _ _ _ _ .beginRound (.cons _ _ _ _ (.code _ _ e7) .nil))) ?_);have:=aa1 (ks:=params) e5' hlen q3 e4;have hl:(L.params.zip args).foldl (fun tmps (x:Nat×Value)=>tmps.setIfInBounds x.1 x.2) L.tmps=((params.map Key.toNat).zip args.toList).foldl (fun tmps (x:Nat×Value)=>tmps.setIfInBounds x.1 x.2) L.tmps:=by rw[e5,←Array.foldl_toList,Array.toList_zip]
     show lV ρ μ ntl (arh params l tm) ((L.params.zip args).foldl (fun tmps (x:Nat×Value)=>tmps.setIfInBounds x.1 x.2) L.tmps);rw[hl];exact this
    ·show(bR (_ ::af ::lp)).Nodup;simp only[bR,pk,List.nil_append];exact hn
  ·trivial
 |pan a=>
  have SV:fr.roundOf=none∨gi o.op=false:=.inr (CG mg (by rw[ha];intro f l e;cases e) (by rw[ha];intro n e;cases e));obtain⟨v,q1,q2⟩:=ajD (w:=w) mg hE ha;have ei:=al0 (P:=P) (cs:=cs++rest) hm ht ho hw SV q1;refine⟨_,cs,w,.one ei,μ,G,h0,hM,hH,?_,hS,?_⟩
  ·exact .pan nt ⟨hb.fn,hb.fnr,hb.dfs,hb.kind,hb.vW,hb.rd⟩ a v false rfl rfl q2 rfl hT2
  ·show(bR (_ ::lp)).Nodup;simp only[bR,pk,List.nil_append];exact hnp
 |dfr f l=>
  simp only[jU];split
  ·rename_i hrn;split
   ·rename_i af' hf;obtain⟨c,ws,vs,q0,q1,q2,q3⟩:=ajE (w:=w) mg hE ha;have MM:fr.roundOf=none:=by
     have:=hb.vW;rw[hrn]at this;cases hh:fr.roundOf with
     |none=>rfl
     |some x=>rw[hh]at this;exact this.elim
    have ei:=al1 (P:=P) (cs:=cs++rest) hm ht ho hw (.inl MM) q2;obtain⟨h3,h4,⟨t2,k2,h5⟩,⟨T2,K2,h6⟩⟩:=hW.finish (fr:=fr) rfl rfl rfl rfl (aY.tuple (ρ:=ρ) (μ:=μ) [] #[] .nil) hf;have RG:({fr with defers:=⟨.fn (.func f) ws,vs⟩ ::fr.defers}:Frame).finish undef={fr with defers:=⟨.fn (.func f) ws,vs⟩ ::fr.defers,tmps:=T2,todo:=K2}:=by have hf1:=dm ht ho undef;have hf2:=dm (fr:={fr with defers:=⟨.fn (.func f) ws,vs⟩ ::fr.defers}) ht ho undef;rw[hf2];have h6:fr.finish undef={fr with tmps:=T2,todo:=K2}:=h6;rw[hf1]at h6;have e1:=congrArg Frame.tmps h6;have e2:=congrArg Frame.todo h6;simp only at e1 e2;rw[e1,e2]
    rw[RG]at ei;have h3:aa2 P ρ C.orc μ G H nx nt af'.todo af'.tm (fr.finish undef).todo (fr.finish undef).tmps:=h3;have h6:fr.finish undef={fr with tmps:=T2,todo:=K2}:=h6;rw[h6]at h3;refine⟨_,cs,w,.one ei,μ,G,h0,hM,hH,?_,hS,?_⟩
    ·subst h5;exact .run nt ⟨hb.fn,hb.fnr,⟨⟨ws,rfl,q3⟩,hb.dfs⟩,hb.kind,hb.vW,hb.rd⟩ h1 hm h3
    ·have:pk {af' with dfs:=YS.fn f l ::af'.dfs}=pk af:=by rw[←h4];rfl
     show(bR (_ ::lp)).Nodup;simp only[bR,this];exact hn
   ·trivial
  ·trivial
 |recover=>
  simp only[jU];split
  ·rename_i c aAd hrn hdf;have MM:fr.roundOf=none:=by
    have:=hb.vW;rw[hrn]at this;cases hh:fr.roundOf with
    |none=>rfl
    |some x=>rw[hh]at this;exact this.elim
   have hkd:fr.kind=.deferred:=by rw[hb.kind,hdf];rfl
   have q1:=Wn (P:=P) (w:=w) (ev:=fr.eval) mg ha;cases cs with
   |nil=>exact hS.elim
   |cons cf Jt=>
   split
   ·rename_i v Kb;split
    ·rename_i af' hf;cases hS.1 with
     |wait SX iS CB=>rw[CB]at Kb;cases Kb
     |unw Wo bX=>
      cases Wo with
      |run SX iS CB=>rw[CB]at Kb;cases Kb
      |ret SX iS CB=>rw[CB]at Kb;cases Kb
      |pan SX iS v' u r' CB SU YT Wd hT'=>
       rw[CB]at Kb;simp only[al2.pan.injEq]at Kb;obtain⟨rfl,rfl⟩:=Kb;have aeD:tryRecover fr (cf ::(Jt++rest))=some (u,{cf with mode:=.panicking [{v:=u,recovered:=true}]} ::(Jt++rest)):=by simp[tryRecover,hkd,SU]
       have ei:=RH (P:=P) (cs:=cf ::(Jt++rest)) hm ht ho hw MM q1 aeD;obtain⟨aa0,hpk⟩:=alX.finish YT hf;refine⟨_,{cf with mode:=.panicking [{v:=u,recovered:=true}]} ::Jt,w,.one ei,μ,G,h0,hM,hH,aa0,⟨.unw (.pan SX ⟨iS.fn,iS.fnr,iS.dfs,iS.kind,iS.vW,iS.rd⟩ v' u true rfl rfl YT Wd hT') (by intro e;cases e),hS.2⟩,?_⟩;show(bR (_ ::_ ::aAd)).Nodup;simp only[bR,hpk]at hn ⊢;exact hn
    ·trivial
   ·rename_i Kb;split
    ·rename_i af' hf;cases hS.1 with
     |wait SX iS CB=>rw[CB]at Kb;cases Kb
     |unw Wo bX=>
      have aeD:tryRecover fr (cf ::(Jt++rest))=none:=by
       cases Wo with
       |run SX iS CB=>rw[CB]at Kb;cases Kb
       |ret SX iS CB SU=>simp[tryRecover,hkd,SU]
       |pan SX iS v' u r' CB=>rw[CB]at Kb;cases Kb
      have ei:=RI (P:=P) (cs:=cf ::(Jt++rest)) hm ht ho hw MM q1 aeD;obtain⟨aa0,hpk⟩:=alX.finish (.nili) hf;refine⟨_,cf ::Jt,w,.one ei,μ,G,h0,hM,hH,aa0,hS,?_⟩;show(bR (_ ::_ ::aAd)).Nodup;simp only[bR,hpk]at hn ⊢;exact hn
    ·trivial
   ·trivial
  ·trivial
theorem al3(X:Ctx P ρ w0 C){l:List aA}(h0:μ0.le μ)(hM:bA P ρ w0 μ G nx.toNat w)(hH:HSub H G)(hb:CD P ρ μ nt af fr)(h1:af.mode=.run)(hm:fr.mode=.run)
  {ops:Array Oper} {rs:List Nat} (hp:pB P nt ops rs=some l) (ht:fr.todo=.inRegion ops rs ::K) (hk:pn P μ nt k K) (hT:lV ρ μ nt af.tm fr.tmps) (hS:eL P ρ C.orc μ G H nx lp cs) (hn:(bR lp).Nodup) :
  Good P ρ C w0 μ0 rest (lone fr (cs++rest) w) (match lX C.orc l af.tm H nx with
   |.fin tm h nx=>.next ⟨{af with tm,todo:=k},lp,h,nx⟩
   |.ev r rest tm h nx=>jU C r {af with tm,todo:=.ops rest ::k} {af with tm,todo:=[]} lp h nx):=by
 have key:=MN (P:=P) (ρ:=ρ) (orc:=C.orc) (nt:=nt) (w0:=w0) (cs:=cs++rest) (K:=K) (ops:=ops) X.orc l rs fr w μ G H nx af.tm hp hM hH hT hm ht;cases RF:lX C.orc l af.tm H nx with
 |fin ay h' nx'=>rw[RF]at key;obtain⟨eQ,w',μ',G',s1,s2,s3,s4,s5,s6⟩:=key;exact⟨_,cs,w',s1,ue (Mu.le_trans h0 s2) s3 s4 ((hb.mono s2).todo _ _ _ _) h1 hm (hk.mono s2) s5 (hS.kept s2 s6) hn⟩
 |ev r l' ay h' nx'=>
  rw[RF]at key;rcases key with⟨n,rfl⟩|⟨eQ,w',μ',G',i,me,po,ll,o,s1,s2,s3,s4,s5,s6,rfl,s8,s9,s10,s11,s12,s13⟩
  ·trivial
  ·have hE:=Ju (P:=P) (nt:=nt) (ops:=ops) (o:=o) (fr:={fr with tmps:=eQ,todo:=.inRegion ops (i ::me) ::K}) s3 (fun k a _ hg=>s5.2 k a hg);refine Good.steps s1 ?_;have hpk:(bR ({af with tm:=ay,todo:=.ops (po ::ll) ::k} ::lp)).Nodup:=by simp only[bR,pk,List.nil_append];exact hn
   exact Ts (fr:={fr with tmps:=eQ,todo:=.inRegion ops (i ::me) ::K}) (af:={af with tm:=ay,todo:=.ops (po ::ll) ::k}) X (Mu.le_trans h0 s2) s3 s4 ((hb.mono s2).todo _ _ _ _) h1 hm rfl s9 s10 s11 hE s12 s13
    (.ops po ll ops i me k K ay eQ s8 (hk.mono s2) s5) (hS.kept s2 s6) hpk s5
theorem Qb(X:Ctx P ρ w0 C){ops:Array Oper}{pl:List aA}{bf:List Nat}{g:Gh}{xI:List IIt}{items:List aS}{jT:SD}{au:List (Nat×Key×ah)}{rs:List Nat}(h0:μ0.le μ)(hM:bA P ρ w0 μ G nx.toNat w)(hH:HSub H G)(hb:CD P ρ μ nt af fr)(h1:af.mode=.run)(hm:fr.mode=.run)
  (hf:xI.mapM (HT pl)=some items) (hc:BH ops pl bf g.L xI=true) (hd:OP ops jT.ds∧CA bf jT.kB=true) (ht:fr.todo=.inRegion ops rs ::K) (hk:pn P μ nt k K)
  (S:iw P ρ C.orc nt ops pl bf μ G H nx g (fun _=>False) au af.tm fr.tmps rs) (hS:eL P ρ C.orc μ G H nx lp cs) (hn:(sf au++bR lp).Nodup) :
  Good P ρ C w0 μ0 rest (lone fr (cs++rest) w) (match jn C.orc jT.kB items au af.tm H nx with
   |.fin tm h nx=>.next ⟨{af with tm,todo:=k},lp,h,nx⟩
   |.ev r rest au tm h nx=>LD jT.ds tm fun ay=>jU C r {af with tm,todo:=.staged rest jT au ::k} {af with tm:=ay,todo:=[]} lp h nx):=by
 have key:=aa3 (P:=P) (ρ:=ρ) (orc:=C.orc) (nt:=nt) (w0:=w0) (cs:=cs++rest) (K:=K) (ops:=ops) (pl:=pl) (bf:=bf) hd.2 X.orc xI.length xI items rs g fr w μ G H nx af.tm au (fg _) hf hc hM hH S hm ht;have avG:∀x∈sf au,x∉bR lp:=fun x hx hx'=>(List.nodup_append.1 hn).2.2 x hx x hx' rfl;have hnp:=(List.nodup_append.1 hn).2.1;cases RF:jn C.orc jT.kB items au af.tm H nx with
 |fin ay h' nx'=>rw[RF]at key;obtain⟨eQ,w',μ',G',s1,s2,s3,s4,s5,s6⟩:=key;exact⟨_,cs,w',s1,ue (Mu.le_trans h0 s2) s3 s4 ((hb.mono s2).todo _ _ _ _) h1 hm (hk.mono s2) s5 (hS.atO s2 s6 avG) hnp⟩
 |ev r LF pend' ay h' nx'=>
  rw[RF]at key;simp only[qW];rcases key with⟨n,rfl⟩|⟨eQ,w',μ',G',g',i,po,o,ad,os,Wq,mW,me,s1,s2,s3,s4,rfl,s6,s7,s8,s9,s10,s11,s12,S',s14,s15,s16,s17,s18,s19,s20⟩
  ·trivial
  ·have hsl:=S'.Tu s9 s10 s14;have hE:=Ju (P:=P) (nt:=nt) (ops:=ops) (o:=o) (fr:={fr with tmps:=eQ,todo:=.inRegion ops (i ::me) ::K}) s3 hsl;refine Good.steps s1 ?_;have hpk:(bR ({af with tm:=ay,todo:=.staged (.H i po ad ::.R os ::mW) jT pend' ::k} ::lp)).Nodup:=by
    simp only[bR,pk];refine List.nodup_append.2 ⟨S'.nk,hnp,?_⟩;rintro x hx y hy rfl;rcases s20 x hx with h|h
    ·exact avG x h hy
    ·exact absurd (atN hS x hy) (by omega)
   exact Ts (fr:={fr with tmps:=eQ,todo:=.inRegion ops (i ::me) ::K}) (af:={af with tm:=ay,todo:=.staged (.H i po ad ::.R os ::mW) jT pend' ::k}) X (Mu.le_trans h0 s2) s3 s4 ((hb.mono s2).todo _ _ _ _) h1 hm rfl s14 s15 s16 hE s17 s18
    (.staged ops pl bf g' i po ad os Wq mW jT pend' k K ay eQ me s6 s7 s8 s9 s10 hd (hk.mono s2) s11 s12 S') (hS.atO s2 s19 avG) hpk (S'.erase hd.1)
end
section
variable{P:Program}{nt:Nat}{ops:Array Oper}
theorem aly{pl:List aA}{x:IIt}{y:aS}(h:HT pl x=some y):iOf y=x:=by
 cases x with
 |L i=>obtain⟨a,_,rfl⟩:=map_some h;rfl
 |A i=>obtain⟨a,_,rfl⟩:=map_some h;rfl
 |H i l=>obtain⟨a,_,rfl⟩:=map_some h;rfl
 |R os=>
  obtain⟨l,hl,rfl⟩:=map_some h;show IIt.R (l.map (·.1))=IIt.R os;congr 1
  induction os generalizing l with
  |nil=>simp at hl;subst hl;rfl
  |cons i os ih=>obtain⟨b,r,e1,e2,rfl⟩:=ku hl;obtain⟨o,_,rfl⟩:=map_some e1;simp[ih r e2 (by simp[HT,e2])]
theorem aee{pl:List aA}:∀{xI:List IIt} {items:List aS},xI.mapM (HT pl)=some items→items.map iOf=xI
 | [],items,h=>by simp at h;subst h;rfl
 |x ::xI,items,h=>by obtain⟨y,r,e1,e2,rfl⟩:=ku h;simp[aly e1,aee e2]
theorem V8:∀{pl:List aA} {po:aA} {d:Key},po∈pl→po.dst=some d→d∈dstsOf pl
 | [],_,_,h,_=>by cases h
 |o ::l,po,d,h,hd=>by
  rcases OG.1 h with e|e
  ·subst e;simp[dstsOf,hd]
  ·have:=V8 e hd;simp only[dstsOf];split
   ·exact List.mem_cons_of_mem _ this
   ·exact this
theorem XQ{pc:aI}(h:MI P nt ops false=some pc):∃l,pB P nt ops (List.range ops.size)=some l∧pc=.ops l:=by
 unfold MI at h;split at h
 ·cases h
 ·rename_i l hl;simp only[cond_false,eM]at h;exact⟨l,hl,h.symm⟩
theorem aaR{pc:aI}(h:MI P nt ops true=some pc):∃pl xI items kB,pc=.staged items ⟨dstsOf pl,kB⟩∧XX P nt ops pl (sc ops)∧xI.mapM (HT pl)=some items∧BH ops pl (sc ops) 0 xI=true∧OP ops (dstsOf pl)∧CA (sc ops) kB=true:=by
 unfold MI at h;split at h
 ·cases h
 ·rename_i l hl;simp only[cond_true]at h;split at h
  ·rename_i st ei;split at h
   ·rename_i st' atv;cases vH:(avB ops l (sc ops) (st'.map iOf)&&CA (sc ops) (Js (l.zip (sc ops)) (l.zip (sc ops)) 0))with
    |false=>rw[vH]at h;cases h
    |true=>
     rw[vH]at h;simp only[cond_true,eM]at h;simp only[avB,mP]at vH;obtain⟨vH,aec⟩:=vH;have aqu:XX P nt ops l (sc ops):=⟨hl,vH.1.1,vH.1.2⟩;refine⟨l,st'.map iOf,st',_,h.symm,aqu,by rw[aee atv];exact atv,vH.2,?_,aec⟩;intro j t hj;obtain⟨o,po,ho,YQ,aK2⟩:=aqu.at (PD hj);obtain⟨_,_,hd⟩:=jz YQ;have hjd:o.dst=some t:=by simpa[pC,ho]using hj
     rcases hd with⟨e,_⟩|⟨k,e1,e2,_⟩
     ·rw[e]at hjd;cases hjd
     ·rw[hjd]at e1;simp only[eM]at e1;exact⟨k,V8 (List.mem_of_getElem? aK2) e2,e1.symm⟩
   ·cases h
  ·cases h
end
section
variable{P:Program}{ρ:Nat→Int}{C:bQ}{nt:Nat}{w0:W0}{w:World}{μ0 μ:Mu}{G:Key→Option ah}{H:T ah}{nx:Key}{rest cs:List Frame}{fr:Frame}{af:nN}{lp:List nN}{K:List Item}{k:List dD}
theorem iw.init{ops:Array Oper}{pl:List aA}{bf:List Nat}(R:XX P nt ops pl bf){tm:T AV}{tmps:Array Value}(hT:lV ρ μ nt tm tmps){rs:List Nat}(hv:SG ops (fun _=>false) rs) :
  iw P ρ C.orc nt ops pl bf μ G H nx {L:=0,D:=fun _=>false,a0:=fun k=>ae k tm,val:=fun _=>none} (fun _=>False) [] tm tmps rs:=by
 refine⟨R,hv,?_,?_,?_,?_,?_,?_,hT.1,?_,?_,?_,?_,?_,?_⟩
 ·intro i o h;cases h
 ·intro i h;cases h
 ·intro i h;rw[show hasB 0 i=false from Jv i]at h;cases h
 ·intro i h;rw[show hasB 0 i=false from Jv i]at h;cases h
 ·intro k j h;rw[show hasB 0 j=false from Jv j]at h;cases h
 ·intro k _;rfl
 ·intro k j a h;cases h
 ·intro k a _ h;exact hT.2 k a h
 ·intro i h;rw[show hasB 0 i=false from Jv i]at h;cases h
 ·intro x h;cases h
 ·exact List.nodup_nil
 ·exact List.nodup_nil
theorem aaS(hM:bA P ρ w0 μ G nx.toNat w){x:Operand}{px:PX}{a:AV}(hp:pX P nt x=some px)(ha:px.at af.tm=some a)(hT:lV ρ μ nt af.tm fr.tmps):aY ρ μ a (fr.eval x):=
 aju hM hp ha fun t k _ hk hg=>by rw[←hk];exact hT.2 k a hg
theorem UO(hM:bA P ρ w0 μ G nx.toNat w)(hH:HSub H G){b:Key}{st st':LS}{pd pd':Option aI}{fn:Nat}{tm:T AV}{res:List RV}{params:List Key}{as bd:aI}{dfs:Key}(hb:ae b H=some (.loop st pd fn tm res params as bd dfs))
  {l:Loc} (hl:μ b=some l) {L:Loop} (hL:w.heap[l.c]?=some (.loop L)) {s:LoopState} {pc:Option Code} (hs:ahN st' s) (hpd:(∀n,XV P n pd L.pending)→∀n,XV P n pd' pc) :
  let w':={w with heap:=w.heap.setIfInBounds l.c (.loop {L with state:=s,pending:=pc})}
  let B':=ah.loop st' pd' fn tm res params as bd dfs
  ∃μ' G',μ.le μ'∧bA P ρ w0 μ' G' nx.toNat w'∧HSub (aw b (some B') H) G'∧Kept H (aw b (some B') H) nx nx μ μ' G G':=by
 intro w' B';have hg:=hH _ _ hb;obtain⟨l',L',ntl,ld,e0,Tt,e1,e2,e3,e4,e5,e5',e6,e7,e8,e9,e10⟩:=MK hM hg;rw[hl]at e0;cases e0;rw[hL]at Tt;cases Tt;have UK:l.c<w.heap.size:=hM.BP b l hl;have uo:w0.heap.size≤l.c:=(hM.own b _ l hg hl).resolve_left (by simp[ah.ro]);have hle:μ.le (μ.put b l):=Mu.Ir (.inr hl);obtain⟨m1,m2⟩:=hM.put (w':=w') b B' l (.loop {L with state:=s,pending:=pc}) (nx':=nx.toNat) (.inr hl)
  ⟨rfl,rfl,rfl,by simp[w'],fun j hj _=>by show(w.heap.setIfInBounds l.c _)[j]?=_;rw[zqn (Ne.symm hj)],fg _⟩
  (by show(w.heap.setIfInBounds l.c _)[l.c]?=_;simp[UK])
  (.loop st' pd' fn ntl tm res params as bd dfs ld l _ hs (hpd e2) e3 (e4.mono hle) e5 e5' e6 e7 (hle.l _ _ e8) e9 e10)
  (fun b' B' l' g m' ne=>hM.sep b' b B' _ l' l g hg m' hl ne) uo (fg _) (hM.new b l hl) (hM.lo0 hg hl rfl)
 exact⟨_,_,m1,m2,hH.set b (some B'),CZ hb hl _ _⟩
inductive atE(P:Program)(nt:Nat)(fr:Frame):Option aI→Option Code→Prop
 |fin (h:fr.todo=[]):atE P nt fr none none
 |ret (K:List Item) (h:fr.todo=.code .ret ::K):atE P nt fr (some .ret) (some .ret)
 |exit (id:Nat) (K:List Item) (h:fr.todo=.code (.exit id) ::K) (he:exitTo id K=none):atE P nt fr (some (.exit id)) (some (.exit id))
theorem aaT{l:Nat}{L:Loop}(h:w.heap[l]?=some (.loop L))(j:Option Code):(Instr.endRound l j).run P w=.ok (.bool j.isNone) {w with heap:=w.heap.setIfInBounds l (.loop {L with state:=if j.isNone then .ready else .done,pending:=j})}:=by simp[Instr.endRound,Instr.getLoop,getObj,setObj,Sem.run,h]
theorem UP{l:Nat}{L:Loop}(h:w.heap[l]?=some (.loop L))(hs:L.state=.ready):(Instr.beginRound l).run P w=.ok () {w with heap:=w.heap.setIfInBounds l (.loop {L with state:=.busy,pending:=L.pending})}:=by simp[Instr.beginRound,Instr.getLoop,getObj,setObj,Sem.run,h,hs]
theorem abY{l:Nat}{L:Loop}(h:w.heap[l]?=some (.loop L))(hs:L.state≠.busy):(Instr.endLoop l).run P w=.ok L.pending {w with heap:=w.heap.setIfInBounds l (.loop {L with state:=.exhausted,pending:=L.pending})}:=by simp[Instr.endLoop,Instr.getLoop,getObj,setObj,Sem.run,h,hs]
theorem L5(X:Ctx P ρ w0 C){j:Option aI}{jc:Option Code}(hj:atE P nt fr j jc)(h0:μ0.le μ)(hM:bA P ρ w0 μ G nx.toNat w)(hH:HSub H G)(hb:CD P ρ μ nt af fr)(h1:af.mode=.run)(hm:fr.mode=.run)
  (hk:af.todo=[]∨(∃k,af.todo=.code .ret ::k)∨∃id k,af.todo=.code (.exit id) ::k) (hjr:j=some .ret→∃k,af.todo=.code .ret ::k) (hjn:j=none→af.todo=[]) (hT:lV ρ μ nt af.tm fr.tmps) (hS:eL P ρ C.orc μ G H nx lp cs) (hn:(bR lp).Nodup) :
  Good P ρ C w0 μ0 rest (lone fr (cs++rest) w) (LP j af lp H nx):=by
 unfold LP;split
 ·rename_i hrn;have MM:fr.roundOf=none:=by
   have:=hb.vW;rw[hrn]at this;cases hh:fr.roundOf with
   |none=>rfl
   |some x=>rw[hh]at this;exact this.elim
  cases hj with
  |fin ht=>refine⟨_,cs,w,.one (axD hm ht MM),μ,G,h0,hM,hH,.ret nt ⟨hb.fn,hb.fnr,hb.dfs,hb.kind,hb.vW,hb.rd⟩ rfl rfl (.inl (hjn rfl)) hT,hS,?_⟩;show(bR (_ ::lp)).Nodup;simp only[bR,pk,hjn rfl,List.nil_append];exact hn
  |ret KK ht=>obtain⟨kk,yG⟩:=hjr rfl;refine⟨_,cs,w,.one (axE hm ht MM),μ,G,h0,hM,hH,.ret nt ⟨hb.fn,hb.fnr,hb.dfs,hb.kind,hb.vW,hb.rd⟩ rfl rfl (.inr ⟨kk,yG⟩) hT,hS,?_⟩;show(bR (_ ::lp)).Nodup;simp only[bR,pk,yG,List.nil_append];exact hn
  |exit id KK ht he=>trivial
 ·rename_i key hrn;cases lp with
  |nil=>trivial
  |cons c lp=>
  cases cs with
  |nil=>exact hS.elim
  |cons cf cs=>
  have hdf:af.H6=false:=hb.rd (by rw[hrn];intro e;cases e);have OH:fr.kind=.normal:=by rw[hb.kind,hdf];rfl
  have MM:∃lc,μ key=some lc∧fr.roundOf=some lc.c:=by
   have:=hb.vW;rw[hrn]at this;cases hh:fr.roundOf with
   |none=>rw[hh]at this;exact this.elim
   |some x=>rw[hh]at this;obtain⟨lc,e1,e2⟩:=this;exact⟨lc,e1,by rw[e2]⟩
  obtain⟨lc,EY,MM⟩:=MM;simp only;split
  ·rename_i st pd fn tm res params as bd dfs QG;simp only[sTCe];obtain⟨lc',L,ntl,ld,e0,Tt,e1,e2,e3,e4,e5,e5',e6,e7,e8,e9,e10⟩:=MK hM (hH _ _ QG);rw[EY]at e0;cases e0;split
   ·rename_i c' hf;have hpd:(∀n,XV P n pd L.pending)→∀n,XV P n j jc:=by
     intro _ SX;cases hj with
     |fin ht=>trivial
     |ret KK ht=>exact(rfl:iQ P SX .ret=some .ret)
     |exit id KK ht he=>exact(rfl:iQ P SX (.exit id)=some (.exit id))
    have hsr:ahN (match (generalizing:=false) j with|none=>LS.ready|some _=>LS.done) (if jc.isNone then .ready else .done):=by cases hj<;>trivial
    obtain⟨μ',G',g1,g2,g3,g4⟩:=UO hM hH QG EY Tt hsr hpd;have gM:=aaT (P:=P) Tt jc;have ei:step P (lone fr (cf ::cs++rest) w)=.next (lone (cf.finish (.bool jc.isNone)) (cs++rest) {w with heap:=w.heap.setIfInBounds lc.c (.loop {L with state:=if jc.isNone then .ready else .done,pending:=jc})}):=by
     cases hj with
     |fin ht=>exact Vp hm ht MM OH gM
     |ret KK ht=>exact aab hm ht MM OH gM
     |exit id KK ht he=>exact Xp hm ht he MM OH gM
    have hS':=hS.kept g1 g4;have hbv:aY ρ μ' (.bool (match (generalizing:=false) j with|none=>true|some _=>false)) (.bool jc.isNone):=by cases hj<;>exact .bool _
    obtain⟨q1,q2⟩:=hS'.1.finish hbv hf;refine⟨_,cs,_,.one ei,μ',G',Mu.le_trans h0 g1,g2,g3,q1,hS'.2,?_⟩;show(bR (c' ::lp)).Nodup;simp only[bR,q2]at hn ⊢;exact hn
   ·trivial
  ·trivial
theorem XR{fn:FuncId}{tmps:Array Value}{params:Array Tmp}{as bd:Code}:(Instr.enterLoop fn tmps params as bd none).run P w =
  .ok (w.heap.size+1,[⟨.collected w.heap.size,#[]⟩]) ((w.alloc (.deferred (some []))).alloc (.loop {state:=.ready,pending:=none,fn,tmps,params,assign:=as,body:=bd,defers:=w.heap.size})):=by
 simp[Instr.enterLoop,newObj,Sem.run]
theorem V9{nt:Nat}:∀{l:List Nat} {ks:List Key},l.mapM (J8 nt)=some ks→YP ks l∧∀k∈ks,k.toNat<nt
 | [],ks,h=>by simp at h;subst h;exact⟨rfl,fun _ h=>by cases h⟩
 |t ::l,ks,h=>by
  obtain⟨k,r,e1,e2,rfl⟩:=ku h;obtain⟨h1,h2⟩:=V9 e2;obtain⟨h3,h4⟩:=qR e1;refine⟨?_,fun q hq=>?_⟩
  ·show(k ::r).map Key.toNat=t ::l;rw[zqx,h3,h1]
  ·rcases OG.1 hq with e|e
   ·rw[e,h3];exact h4
   ·exact h2 q e
theorem akp(X:Ctx P ρ w0 C){pc:aI}{c:Code}(hc:iQ P nt c=some pc)(h0:μ0.le μ)(hM:bA P ρ w0 μ G nx.toNat w)(hH:HSub H G)(hb:CD P ρ μ nt af fr)(h1:af.mode=.run)(hm:fr.mode=.run)
  (EK:af.todo=.code pc ::k) (ht:fr.todo=.code c ::K) (hk:pn P μ nt k K) (hT:lV ρ μ nt af.tm fr.tmps) (hS:eL P ρ C.orc μ G H nx lp cs) (hn:(bR lp).Nodup) :
  Good P ρ C w0 μ0 rest (lone fr (cs++rest) w) (cK C af lp H nx):=by
 have go:∀(k':List dD) (K':List Item),pn P μ nt k' K'→step P (lone fr (cs++rest) w)=.next (lone {fr with todo:=K'} (cs++rest) w)→Good P ρ C w0 μ0 rest (lone fr (cs++rest) w) (.next ⟨{af with todo:=k'},lp,H,nx⟩):=by intro k' K' KG ei;exact⟨_,cs,w,.one ei,ue h0 hM hH (hb.todo af.tm k' fr.tmps K') h1 hm KG hT hS hn⟩
 unfold cK;rw[EK];cases c with
 |skip=>simp only[iQ,eM]at hc;subst hc;exact go _ _ hk (asJ hm ht)
 |region id ops draw=>
  simp only[iQ]at hc;cases draw with
  |false=>obtain⟨l,hl,rfl⟩:=XQ hc;exact go _ _ (.cons _ _ _ _ (.ops _ _ _ hl) hk) (akJ hm ht)
  |true=>obtain⟨pl,xI,items,kB,rfl,aqu,hf,aK4,hd,aec⟩:=aaR hc;obtain⟨t,ei⟩:=asL (P:=P) (cs:=cs++rest) (w:=w) hm ht;rw[X.mix]at ei;have hv:=Wa aqu.down t;refine⟨_,cs,_,.one ei,μ,G,h0,hM.drawn _ (Nat.le_succ _),hH,.run nt (hb.todo af.tm _ fr.tmps _) h1 hm (.ready ops pl _ _ xI items _ [] k K _ _ _ hf aK4 ⟨hd,aec⟩ hk (iw.init aqu hT hv)),hS,?_⟩;show(bR (_ ::lp)).Nodup;simp only[bR,pk,List.map_nil,List.nil_append];exact hn
 |seq a b=>
  simp only[iQ]at hc;split at hc
  ·rename_i a' b' ha iS;cases hc;exact go _ _ (.cons _ _ _ _ (.code _ _ ha) (.cons _ _ _ _ (.code _ _ iS) hk)) (axC hm ht)
  ·cases hc
 |cond x a b=>
  simp only[iQ]at hc;split at hc
  ·rename_i x' a' b' hx ha iS;cases hc;simp only;split
   ·rename_i hxa;have hv:=aaS hM hx hxa hT;have he:fr.eval x=.bool true:=by generalize fr.eval x=u at hv;cases hv;rfl
    exact go _ _ (.cons _ _ _ _ (.code _ _ ha) hk) (aiN hm ht he)
   ·rename_i hxa;have hv:=aaS hM hx hxa hT;have he:fr.eval x=.bool false:=by generalize fr.eval x=u at hv;cases hv;rfl
    exact go _ _ (.cons _ _ _ _ (.code _ _ iS) hk) (aiN hm ht he)
   ·trivial
  ·cases hc
 |block id a=>
  simp only[iQ]at hc;split at hc
  ·rename_i a' ha;cases hc;exact go _ _ (.cons _ _ _ _ (.code _ _ ha) (.cons _ _ _ _ (.inBlock _) hk)) (aoM hm ht)
  ·cases hc
 |loop a=>
  simp only[iQ]at hc;split at hc
  ·rename_i a' ha;cases hc;exact go _ _ (.cons _ _ _ _ (.code _ _ ha) (.cons _ _ _ _ (.inLoop _ _ ha) hk)) (Z1 hm ht)
  ·cases hc
 |rangeFunc f params a b=>
  simp only[iQ]at hc;split at hc
  ·rename_i f' ps a' b' hf hps ha iS;cases hc;simp only;split
   ·rename_i g first cap hrn hfa
    simp only[sTCe];rcases H5 X g (first ++ .yld nx.succ ::cap) false (.bad 61 ⟨af,lp,aw nx.succ (some (.loop .ready none af.fn af.tm af.res ps a' b' nx)) (aw nx (some (.dfs false)) H),nx⟩)
     (fun iR=>.next ⟨iR,{af with todo:=.inRF nx.succ ::k,dfs:=.coll nx ::af.dfs} ::lp,aw nx.succ (some (.loop .ready none af.fn af.tm af.res ps a' b' nx)) (aw nx (some (.dfs false)) H),nx.succ.succ⟩)with e|⟨p,hp,e⟩
    ·rw[e];trivial
    ·rw[e];have MM:fr.roundOf=none:=by
      have:=hb.vW;rw[hrn]at this;cases hh:fr.roundOf with
      |none=>rfl
      |some x=>rw[hh]at this;exact this.elim
     obtain⟨fn,c,f1,f2,f3,f4,f5⟩:=vX hp;have hv:=aaS hM hf hfa hT;obtain⟨vs,ws,ev,hv1,hv2⟩:=air hv;have hs1:=kTSu nx;have hs2:=kTSu nx.succ;obtain⟨m1,M1⟩:=hM.alloc nx (.dfs false) (.deferred (some [])) 0 (nx':=nx.succ.toNat) hM.vG (.dfs false _) (by omega) (by omega);have hu1:(μ.put nx ⟨w.heap.size,0,0⟩) nx=some ⟨w.heap.size,0,0⟩:=Mu.fA _ _ _;have yq:(w.alloc (.deferred (some []))).heap.size=w.heap.size+1:=by simp
     obtain⟨hkr,Qh⟩:=V9 hps;have hn1:(μ.put nx ⟨w.heap.size,0,0⟩) nx.succ=none:=M1.vG;have Q1:Mu.le (μ.put nx ⟨w.heap.size,0,0⟩) ((μ.put nx ⟨w.heap.size,0,0⟩).put nx.succ ⟨(w.alloc (.deferred (some []))).heap.size,0,0⟩):=Mu.Ir (.inl hn1);obtain⟨m2,M2⟩:=M1.alloc nx.succ (.loop .ready none af.fn af.tm af.res ps a' b' nx) (.loop {state:=.ready,pending:=none,fn:=fr.fn,tmps:=fr.tmps,params,assign:=a,body:=b,defers:=w.heap.size}) 0 (nx':=nx.succ.succ.toNat) hn1
      (.loop .ready none af.fn nt af.tm af.res ps a' b' nx ⟨w.heap.size,0,0⟩ _ _ trivial (fun _=>trivial) hb.fn (hT.mono (Mu.le_trans m1 Q1)) hkr Qh ha iS (Q1.l _ _ hu1) rfl hb.fnr) (by omega) (by omega)
     have hK:Kept H (aw nx.succ (some (.loop .ready none af.fn af.tm af.res ps a' b' nx)) (aw nx (some (.dfs false)) H)) nx nx.succ.succ μ _ G _:=(JE (H:=H) (nx:=nx) (μ:=μ) (G:=G) ⟨w.heap.size,0,0⟩ (some (.dfs false)) (some (.dfs false))).trans
      (JE (nx:=nx.succ) ⟨(w.alloc (.deferred (some []))).heap.size,0,0⟩ (some (.loop .ready none af.fn af.tm af.res ps a' b' nx)) (some (.loop .ready none af.fn af.tm af.res ps a' b' nx)))
     have hle:=Mu.le_trans m1 m2;have ei:=aac (P:=P) (cs:=cs++rest) (w:=w) hm ht MM XR ev f1 (by rw[f2];rfl) f3;have hu2:((μ.put nx ⟨w.heap.size,0,0⟩).put nx.succ ⟨(w.alloc (.deferred (some []))).heap.size,0,0⟩) nx.succ=some ⟨(w.alloc (.deferred (some []))).heap.size,0,0⟩:=Mu.fA _ _ _;refine⟨_,{fr with todo:=.inRangeFunc (w.heap.size+1) ::K,defers:=[⟨.collected w.heap.size,#[]⟩]++fr.defers} ::cs,_,.one ei,_,_,Mu.le_trans h0 hle,M2,(hH.set nx _).set nx.succ _,yE hp ?_ false,⟨?_,hS.kept hle hK⟩,?_⟩
     ·have hy:aY ρ ((μ.put nx ⟨w.heap.size,0,0⟩).put nx.succ ⟨(w.alloc (.deferred (some []))).heap.size,0,0⟩) (.yld nx.succ) (.func (.yield (w.heap.size+1)) #[] #[]):=.yld _ _ _ hu2 yq.symm;have:=(hv1.mono hle).append (az.cons _ _ _ _ hy (hv2.mono hle));simpa using this
     ·refine .wait nt ⟨hb.fn,hb.fnr,⟨⟨_,m2.l _ _ hu1,rfl⟩,hb.dfs.mono hle⟩,hb.kind,?_,hb.rd⟩ h1 hm ?_
      ·have:=hb.vW;rw[hrn,MM]at this;show aCU _ af.vW fr.roundOf;rw[hrn,MM];trivial
      ·have:=ML.rf (P:=P) (ρ:=ρ) (orc:=C.orc) (nt:=nt) (G:=pQ (pQ G nx (some (ah.dfs false))) nx.succ (some (.loop .ready none af.fn af.tm af.res ps a' b' nx))) (H:=aw nx.succ (some (.loop .ready none af.fn af.tm af.res ps a' b' nx)) (aw nx (some (.dfs false)) H)) (nx:=nx.succ.succ) nx.succ _ k K af.tm fr.tmps hu2 (hk.mono hle) (hT.mono hle);simp only[yq]at this ⊢;exact this
     ·show(bR (_ ::_ ::lp)).Nodup;simp only[bR,pk,List.nil_append];exact hn
   ·trivial
  ·cases hc
 |exit id=>
  simp only[iQ,eM]at hc;subst hc;obtain⟨x1,x2⟩:=ahs (id:=id) hk;simp only;split
  ·rename_i k' KG;obtain⟨K',e1,e2⟩:=x1 k' KG;exact go _ _ e2 (asK hm ht e1)
  ·rename_i KG;exact L5 X (.exit id K ht (x2 KG)) h0 hM hH hb h1 hm (.inr (.inr ⟨id,k,EK⟩)) (by intro e;cases e) (by intro e;cases e) hT hS hn
 |ret=>simp only[iQ,eM]at hc;subst hc;exact L5 X (.ret K ht) h0 hM hH hb h1 hm (.inr (.inl ⟨k,EK⟩)) (fun _=>⟨k,EK⟩) (by intro e;cases e) hT hS hn
 |scope a=>
  simp only[iQ]at hc;split at hc
  ·rename_i a' ha;cases hc;exact go _ _ (.cons _ _ _ _ (.code _ _ ha) (.cons _ _ _ _ (.scope _) hk)) (aoN hm ht)
  ·cases hc
 |label l=>simp only[iQ,eM]at hc;subst hc;exact go _ _ hk (aoO hm ht)
 |goto l=>simp[iQ]at hc
 |refuse s=>simp[iQ]at hc
end
section
variable{P:Program}{ρ:Nat→Int}{C:bQ}{nt:Nat}{w0:W0}{w:World}{μ0 μ:Mu}{G:Key→Option ah}{H:T ah}{nx:Key}{rest cs:List Frame}{fr:Frame}{af:nN}{lp:List nN}{K:List Item}{k:List dD}
theorem an6(X:Ctx P ρ w0 C)(h0:μ0.le μ)(hM:bA P ρ w0 μ G nx.toNat w)(hH:HSub H G)(hb:CD P ρ μ nt af fr)(h1:af.mode=.run)(hm:fr.mode=.run)
  (hTd:aa2 P ρ C.orc μ G H nx nt af.todo af.tm fr.todo fr.tmps) (hS:eL P ρ C.orc μ G H nx lp cs) (hn:(bR (af ::lp)).Nodup) :
  Good P ρ C w0 μ0 rest (lone fr (cs++rest) w) (cK C af lp H nx):=by
 generalize EK:af.todo=AK at hTd;generalize htt:af.tm=TM at hTd;generalize ht:fr.todo=FK at hTd;generalize hft:fr.tmps=FT at hTd;cases hTd with
 |plain k0 K0 tm tmps hk hT=>
  subst htt hft;have hn:(bR lp).Nodup:=(List.nodup_append.1 hn).2.1;cases hk with
  |nil=>unfold cK;rw[EK];exact L5 X (.fin ht) h0 hM hH hb h1 hm (.inl EK) (by intro e;cases e) (fun _=>EK) hT hS hn
  |cons a x k K h hk=>
   have go:∀(k':List dD) (K':List Item),pn P μ nt k' K'→step P (lone fr (cs++rest) w)=.next (lone {fr with todo:=K'} (cs++rest) w)→Good P ρ C w0 μ0 rest (lone fr (cs++rest) w) (.next ⟨{af with todo:=k'},lp,H,nx⟩):=by intro k' K' KG ei;exact⟨_,cs,w,.one ei,ue h0 hM hH (hb.todo af.tm k' fr.tmps K') h1 hm KG hT hS hn⟩
   cases h with
   |code pc c h=>exact akp X h h0 hM hH hb h1 hm EK ht hk hT hS hn
   |inBlock id=>unfold cK;rw[EK];exact go _ _ hk (afj hm ht)
   |scope c=>unfold cK;rw[EK];exact go _ _ hk (afk hm ht)
   |inLoop pc c h=>unfold cK;rw[EK];exact go _ _ (.cons _ _ _ _ (.code _ _ h) (.cons _ _ _ _ (.inLoop _ _ h) hk)) (akq hm ht)
   |ops l ops rest h=>unfold cK;rw[EK];exact al3 X h0 hM hH hb h1 hm h ht hk hT hS hn
   |inRF key l r h hr=>unfold cK;rw[EK];trivial
   |endRF key l r EY hr=>
    subst hr;unfold cK;rw[EK];simp only;split
    ·rename_i st pd fn tm res params as bd dfs QG;obtain⟨lc',L,ntl,ld,e0,Tt,e1,e2,e3,e4,e5,e5',e6,e7,e8,e9,e10⟩:=MK hM (hH _ _ QG);rw[EY]at e0;cases e0;split
     ·trivial
     ·rename_i hnb;simp only[sTCe];have aA4:L.state≠.busy:=by intro e;rw[e]at e1;cases st<;>first|exact e1.elim|exact hnb rfl
      obtain⟨μ',G',g1,g2,g3,g4⟩:=UO (st':=.exhausted) (pd':=pd) (s:=.exhausted) (pc:=L.pending) hM hH QG EY Tt trivial (fun h=>h);have ei:=an7 (P:=P) (cs:=cs++rest) hm ht (abY Tt aA4);have RG:∀(k':List dD),pn P μ' nt k' ((L.pending.map Item.code).toList++K)→Good P ρ C w0 μ0 rest (lone fr (cs++rest) w) (.next ⟨{af with todo:=k'},lp,aw key (some (.loop .exhausted pd fn tm res params as bd dfs)) H,nx⟩):=by intro k' KG;exact⟨_,cs,_,.one ei,ue (Mu.le_trans h0 g1) g2 g3 ((hb.mono g1).todo af.tm k' fr.tmps _) h1 hm KG (hT.mono g1) (hS.kept g1 g4) hn⟩
      refine RG _ ?_;cases pd with
      |none=>
       cases hp:L.pending with
       |none=>exact hk.mono g1
       |some c=>rw[hp]at e2;exact(e2 0).elim
      |some pc=>
       cases hp:L.pending with
       |none=>rw[hp]at e2;exact(e2 0).elim
       |some c=>rw[hp]at e2;exact .cons _ _ _ _ (.code _ _ (e2 nt)) (hk.mono g1)
    ·trivial
   |beginRound=>
    unfold cK;rw[EK];simp only;split
    ·trivial
    ·rename_i key hrn;have MM:∃lc,μ key=some lc∧fr.roundOf=some lc.c:=by
      have:=hb.vW;rw[hrn]at this;cases hh:fr.roundOf with
      |none=>rw[hh]at this;exact this.elim
      |some x=>rw[hh]at this;obtain⟨lc,e1,e2⟩:=this;exact⟨lc,e1,by rw[e2]⟩
     obtain⟨lc,EY,MM⟩:=MM;split
     ·rename_i pd fn tm res params as bd dfs QG;simp only[sTCe];obtain⟨lc',L,ntl,ld,e0,Tt,e1,e2,e3,e4,e5,e5',e6,e7,e8,e9,e10⟩:=MK hM (hH _ _ QG);rw[EY]at e0;cases e0;have awF:L.state=.ready:=by cases hs:L.state<;>rw[hs]at e1<;>first|rfl|exact e1.elim
      obtain⟨μ',G',g1,g2,g3,g4⟩:=UO (st':=.busy) (pd':=pd) (s:=.busy) (pc:=L.pending) hM hH QG EY Tt trivial (fun h=>h);have ei:=WY (P:=P) (cs:=cs++rest) hm ht MM (UP Tt awF);exact⟨_,cs,_,.one ei,ue (Mu.le_trans h0 g1) g2 g3 ((hb.mono g1).todo af.tm k fr.tmps K) h1 hm (hk.mono g1) (hT.mono g1) (hS.kept g1 g4) hn⟩
     ·trivial
 |ready ops pl bf g xI items jT au k K tm tmps rs hf hc hd hk S=>subst htt hft;unfold cK;rw[EK];refine Qb X h0 hM hH hb h1 hm hf hc hd ht hk S hS ?_;simp only[bR,pk,EK]at hn;exact hn
 |back ops pl bf g os xI items jT au k K tm tmps rs hf hc hd hk hos LC S=>
  subst htt hft;unfold cK;rw[EK];simp only;rw[ZG];cases hrc:recheck C.orc jT.kB au af.tm H os with
  |false=>simp only[cond_false,qW];trivial
  |true=>simp only[cond_true];have S5:=S.Yk hd.2 hrc hos LC;refine Qb X h0 hM hH hb h1 hm hf hc hd ht hk S5 hS ?_;simp only[bR,pk,EK]at hn;exact hn
theorem Pw{b:Nat}(h:w.heap[b]?=some (.deferred (some []))):(Instr.takeDeferred b).run P w=.ok [] {w with heap:=w.heap.setIfInBounds b (.deferred none)}:=by simp[Instr.takeDeferred,getObj,setObj,Sem.run,h]
theorem abZ(X:Ctx P ρ w0 C)(h0:μ0.le μ)(hM:bA P ρ w0 μ G nx.toNat w)(hH:HSub H G)(hb:CD P ρ μ nt af fr)(Wo:Cur P ρ C.orc μ G H nx af fr)(bX:af.mode≠.run)(hS:eL P ρ C.orc μ G H nx lp cs)(hn:(bR (af ::lp)).Nodup) :
  Good P ρ C w0 μ0 rest (lone fr (cs++rest) w) (AN C af lp H nx):=by
 have hpk:pk af=[]:=by
  cases Wo with
  |run nt hb h1=>exact absurd h1 bX
  |ret nt hb h1 h2 h3 h=>unfold pk;rcases h3 with h3|⟨k,h3⟩<;>rw[h3]
  |pan nt hb v u r h1 h2 hv h3 h=>unfold pk;rw[h3]
 have hfm:fr.mode≠.run:=by
  cases Wo with
  |run nt hb h1=>exact absurd h1 bX
  |ret nt hb h1 h2 h3 h=>rw[h2];intro e;cases e
  |pan nt hb v u r h1 h2 hv h3 h=>rw[h2];intro e;cases e
 have hnp:(bR lp).Nodup:=(List.nodup_append.1 hn).2.1;have aRe:∃nt,CD P ρ μ nt af fr∧lV ρ μ nt af.tm fr.tmps:=by
  cases Wo with
  |run nt hb h1=>exact absurd h1 bX
  |ret nt hb h1 h2 h3 h=>exact⟨nt,hb,h⟩
  |pan nt hb v u r h1 h2 hv h3 h=>exact⟨nt,hb,h⟩
 have move:∀{μ':Mu} {G':Key→Option ah} {H':T ah} (ds:List YS) (Ds:List Deferred),μ.le μ'→UQ ρ μ' ds Ds→Cur P ρ C.orc μ' G' H' nx {af with dfs:=ds} {fr with defers:=Ds}:=by
  intro μ' G' H' ds Ds hle hd;cases Wo with
  |run nt hb h1=>exact absurd h1 bX
  |ret nt hb h1 h2 h3 h=>exact .ret nt ⟨hb.fn,hb.fnr,hd,hb.kind,(hb.mono hle).vW,hb.rd⟩ h1 h2 h3 (h.mono hle)
  |pan nt hb v u r h1 h2 hv h3 h=>exact .pan nt ⟨hb.fn,hb.fnr,hd,hb.kind,(hb.mono hle).vW,hb.rd⟩ v u r h1 h2 (hv.mono hle) h3 (h.mono hle)
 have hD:=hb.dfs;unfold AN;split
 ·rename_i b ds hds;split
  ·rename_i QG;simp only[sTCe];rw[hds]at hD;cases ZH:fr.defers with
   |nil=>rw[ZH]at hD;exact hD.elim
   |cons d Ds=>
   rw[ZH]at hD;obtain⟨⟨l,hl,rfl⟩,hD2⟩:=hD;have hg:=hH _ _ QG;obtain⟨l',o,e1,e2,e3⟩:=hM.lW b _ hg;rw[hl]at e1;cases e1;have ar8:w.heap[l.c]?=some (.deferred (some [])):=by cases e3 with|dfs _ _=>exact e2
   have UK:l.c<w.heap.size:=hM.BP b l hl;have uo:w0.heap.size≤l.c:=(hM.own b _ l hg hl).resolve_left (by simp[ah.ro]);obtain⟨m1,m2⟩:=hM.put (w':={w with heap:=w.heap.setIfInBounds l.c (.deferred none)}) b (.dfs true) l (.deferred none) (nx':=nx.toNat) (.inr hl)
    ⟨rfl,rfl,rfl,by simp,fun j hj _=>by show(w.heap.setIfInBounds l.c _)[j]?=_;rw[zqn (Ne.symm hj)],fg _⟩
    (by show(w.heap.setIfInBounds l.c _)[l.c]?=_;simp[UK])
    (.dfs true l)
    (fun b' B' l' g m' ne=>hM.sep b' b B' _ l' l g hg m' hl ne) uo (fg _) (hM.new b l hl) (hM.lo0 hg hl rfl)
   have ei:=ZI (P:=P) (cs:=cs++rest) hfm ZH (Pw ar8);refine⟨_,cs,_,.one ei,_,_,Mu.le_trans h0 m1,m2,hH.set b _,move ds Ds m1 (hD2.mono m1),hS.kept m1 (CZ QG hl _ _),?_⟩;show(bR (_ ::lp)).Nodup;have:pk {af with dfs:=ds}=pk af:=rfl;simp only[bR,this,hpk,List.nil_append];exact hnp
  ·trivial
 ·rename_i f args ds hds;rcases H5 X f args true (.bad 71 ⟨af,lp,H,nx⟩) (fun iR=>.next ⟨iR,{af with dfs:=ds} ::lp,H,nx⟩)with e|⟨p,hp,e⟩
  ·rw[e];trivial
  ·rw[e];rw[hds]at hD;cases ZH:fr.defers with
   |nil=>rw[ZH]at hD;exact hD.elim
   |cons d Ds=>
   rw[ZH]at hD;obtain⟨⟨ws,hd1,hd2⟩,hD2⟩:=hD;obtain⟨fn,c,f1,f2,f3,f4,f5⟩:=vX hp;have hi:(invoke d.target d.args).run P w=.ok (.enter f (d.args++ws)) w:=by rw[hd1];simp[invoke,sE f1 (by rw[f2];rfl) f3]
   have ei:=ab2 (P:=P) (cs:=cs++rest) hfm ZH hd1 hi;refine⟨_,{fr with defers:=Ds} ::cs,w,.one ei,μ,G,h0,hM,hH,yE hp hd2 true,⟨.unw (move ds Ds μ.le_refl hD2) bX,hS⟩,?_⟩;show(bR (_ ::_ ::lp)).Nodup;have:pk {af with dfs:=ds}=pk af:=rfl;simp only[bR,this,hpk,List.nil_append];simp only[pk,List.nil_append];exact hnp
 ·rename_i hds;have ZH:fr.defers=[]:=by
   rw[hds]at hD;cases ZH:fr.defers with
   |nil=>rfl
   |cons d Ds=>rw[ZH]at hD;exact hD.elim
  split
  ·trivial
  ·rename_i Dk;cases Wo with
   |run nt hb h1=>exact absurd h1 bX
   |pan nt hb v u r h1=>rw[h1]at Dk;cases Dk
   |ret nt hb h1 h2 h3 hT=>
    split
    ·rename_i l hl;obtain⟨fn,g1,g2,g3⟩:=hb.fnr.ex;have g1':P.funcs[fr.fn]?=some fn:=by rw[hb.fn];exact g1
     rw[g2]at g3;obtain⟨vs,q1,q2⟩:=WZ hM hH hT g3 hl;rw[yV];obtain⟨μ1,G1,x1,x2⟩:=MJ (C.mY af.fn) hM hH q2;have q2:=afl x2;have hS:=eL.kept x1.le x1.kept hS;have h0:=Mu.le_trans h0 x1.le;have hM:=x1.M;have hH:=x1.hs;have hb:=hb.mono x1.le;have hT:=hT.mono x1.le;generalize dc (C.mY af.fn) l H=lh at q2 hS hM hH;obtain⟨l1,H1⟩:=lh;simp only at q2 hS hM hH ⊢;clear x1 x2;generalize hvv:NP vs=v at q1 q2;unfold MX;cases lp with
     |nil=>
      cases cs with
      |cons _ _=>exact hS.elim
      |nil=>
      cases hdf:af.H6 with
      |true=>trivial
      |false=>
       have OH:fr.kind=.normal:=by rw[hb.kind,hdf];rfl
       exact⟨fr,w,μ1,G1,v,Steps.refl _ _,hb.fn,⟨h2,ZH,OH,fn,g1',q1⟩,q2,h0,hM,hH⟩
     |cons c lp=>
      cases cs with
      |nil=>exact hS.elim
      |cons cf cs=>
      have hn2:(bR (c ::lp)).Nodup:=hnp;cases hdf:af.H6 with
      |true=>
       have OH:fr.kind=.deferred:=by rw[hb.kind,hdf];rfl
       have ei:=L6 (P:=P) (c:=cf) (cs:=cs++rest) h2 ZH OH g1' q1;simp only[cond_true];cases hS.1 with
       |wait SX iS CB=>rw[CB];trivial
       |unw hc Kb=>
        cases hc with
        |run SX iS CB=>exact absurd CB Kb
        |ret SX iS CB SU Wd hT'=>
         have Tr:settle cf.mode=cf.mode:=by rw[SU];rfl
         rw[Tr]at ei;rw[CB];exact⟨_,cs,w,.one ei,μ1,G1,h0,hM,hH,.ret SX iS CB SU Wd hT',hS.2,hn2⟩
        |pan SX iS v' u' r' CB SU YT Wd hT'=>
         rw[CB];cases r' with
         |true=>
          have Tr:settle cf.mode=.returning:=by rw[SU];rfl
          rw[Tr]at ei;refine⟨_,cs,w,.one ei,μ1,G1,h0,hM,hH,.ret SX ⟨iS.fn,iS.fnr,iS.dfs,iS.kind,iS.vW,iS.rd⟩ rfl rfl (.inl Wd) hT',hS.2,?_⟩;exact hn2
         |false=>
          have Tr:settle cf.mode=cf.mode:=by rw[SU];rfl
          rw[Tr]at ei;exact⟨_,cs,w,.one ei,μ1,G1,h0,hM,hH,.pan SX iS v' u' false CB SU YT Wd hT',hS.2,hn2⟩
      |false=>
       have OH:fr.kind=.normal:=by rw[hb.kind,hdf];rfl
       have ei:=akr (P:=P) (c:=cf) (cs:=cs++rest) h2 ZH OH g1' q1;simp only[cond_false];split
       ·rename_i c' hf;obtain⟨k1,k2⟩:=hS.1.finish q2 hf;refine⟨_,cs,w,.one ei,μ1,G1,h0,hM,hH,k1,hS.2,?_⟩;show(bR (c' ::lp)).Nodup;simp only[bR,k2]at hn2 ⊢;exact hn2
       ·trivial
    ·trivial
  ·rename_i v Dk;cases Wo with
   |run nt hb h1=>exact absurd h1 bX
   |ret nt hb h1=>rw[h1]at Dk;cases Dk
   |pan nt hb v' u r h1 h2 hv h3 hT=>
    rw[h1]at Dk;simp only[al2.pan.injEq]at Dk;obtain⟨rfl,rfl⟩:=Dk;obtain⟨fn,g1,g2,g3⟩:=hb.fnr.ex;have g1':P.funcs[fr.fn]?=some fn:=by rw[hb.fn];exact g1
    cases lp with
    |nil=>trivial
    |cons c lp=>
     cases cs with
     |nil=>exact hS.elim
     |cons cf cs=>
     simp only;cases hS.1 with
     |unw hc Kb=>
      cases hc with
      |run SX iS CB=>exact absurd CB Kb
      |ret SX iS CB=>rw[CB];trivial
      |pan SX iS v2 u2 r2 CB=>rw[CB];trivial
     |wait SX iS CB SU hW=>
      rw[CB];have ei:=ab4 (P:=P) (c:=cf) (cs:=cs++rest) (w:=w) h2 ZH g1';have hra:cf.raise [{v:=u,recovered:=false}]={cf with mode:=.panicking [{v:=u,recovered:=false}]}:=by simp[Frame.raise,SU]
      rw[hra]at ei;refine⟨_,cs,w,.one ei,μ,G,h0,hM,hH,.pan SX ⟨iS.fn,iS.fnr,iS.dfs,iS.kind,iS.vW,iS.rd⟩ v' u false rfl rfl hv rfl ?_,hS.2,?_⟩
      ·show lV ρ μ SX (match c.todo with|.staged _ d _ ::_=>LD d.ds c.tm (fun t=>t)|_=>c.tm) cf.tmps;generalize cf.todo=KK at hW;generalize hTT:cf.tmps=TT at hW;generalize c.todo=kk at hW;generalize c.tm=tt at hW;cases hW with
       |ops o l ops i rest k K tm tmps hp h ht=>exact ht
       |rf key l k K tm tmps hk h ht=>exact ht
       |staged ops pl bf g i po ad os xI items jT au k K tm tmps rest ud hf hc hL XU hd h hos LC S=>simp only[qW];exact S.erase hd.1
      ·have hn2:(bR (c ::lp)).Nodup:=hnp;show(bR (_ ::lp)).Nodup;simp only[bR,pk,List.nil_append]at hn2 ⊢;exact(List.nodup_append.1 hn2).2.1
  ·trivial
theorem H8(X:Ctx P ρ w0 C){am:AM}(h:HD P ρ C.orc w0 μ0 am fr cs w):Good P ρ C w0 μ0 rest (lone fr (cs++rest) w) (jP C am):=by
 obtain⟨μ,G,h0,hM,hH,hc,hS,hn⟩:=h.ex;unfold jP;split
 ·rename_i hm;cases hc with
  |run nt hb h1 h2 h=>exact an6 X h0 hM hH hb h1 h2 h hS hn
  |ret nt hb h1=>rw[h1]at hm;cases hm
  |pan nt hb v u r h1=>rw[h1]at hm;cases hm
 ·rename_i hm;have bX:am.fr.mode≠.run:=fun e=>hm e;have hb:∃nt,CD P ρ μ nt am.fr fr:=by
   cases hc with
   |run nt hb h1 h2 h=>exact⟨nt,hb⟩
   |ret nt hb h1=>exact⟨nt,hb⟩
   |pan nt hb v u r h1=>exact⟨nt,hb⟩
  obtain⟨nt,hb⟩:=hb;exact abZ X h0 hM hH hb hc bX hS hn
theorem CH(C:bQ)(n:Nat)(m:AM):wL C (n+1) m=match jP C m with
  |.next m=>wL C n m
  |r=>r:=rfl
theorem zC(X:Ctx P ρ w0 C):∀(n:Nat) {am:AM} {fr:Frame} {cs:List Frame} {w:World},HD P ρ C.orc w0 μ0 am fr cs w→Good P ρ C w0 μ0 rest (lone fr (cs++rest) w) (wL C n am)
 |0,am,fr,cs,w,h=>⟨fr,cs,w,Steps.refl _ _,h⟩
 |n+1,am,fr,cs,w,h=>by
  have h1:=H8 (rest:=rest) X h;rw[CH];cases hs:jP C am with
  |next m=>rw[hs]at h1;obtain⟨iR,Jt,w',s1,h2⟩:=h1;exact Good.steps s1 (zC X n h2)
  |done f v hh nx=>rw[hs]at h1;exact h1
  |pan v hh nx=>trivial
  |bad k m=>trivial
end
noncomputable def ai(f:Nat)(p:fe)(l:List AV):nN:={fn:=f,tm:=iN l .z .nil,todo:=[.code p.body],dfs:=[],mode:=.run,H6:=false,vW:=none,res:=p.res}
section
variable{P:Program}{ρ:Nat→Int}{C:bQ}{w0:W0}{w:World}{μ0:Mu}{G0:Key→Option ah}{H H':T ah}{nx nx':Key}
inductive Ev(C:bQ)(S:AM→Prop):AM→Prop
 |now {m:AM} (h:S m):Ev C S m
 |step {m m':AM} (e:jP C m=.next m') (h:Ev C S m'):Ev C S m
theorem Ev.bind{S S':AM→Prop}{m:AM}(h:Ev C S m)(hs:∀m',S m'→Ev C S' m'):Ev C S' m:=by
 induction h with
 |now h=>exact hs _ h
 |step e _ ih=>exact .step e ih
theorem Ev.mono{S S':AM→Prop}{m:AM}(h:Ev C S m)(hs:∀m',S m'→S' m'):Ev C S' m:=h.bind fun m' q=>.now (hs m' q)
theorem Ev.same{S:AM→Prop}{m m2:AM}(hs:jP C m=jP C m2)(hn:¬S m2)(h:Ev C S m2):Ev C S m:=by
 cases h with
 |now h=>exact absurd h hn
 |step e h=>exact .step (hs.trans e) h
theorem al4(a b:Nat)(m m1:AM)(h:wL C a m=.next m1):wL C (a+b) m=wL C b m1:=by
 induction a generalizing m with
 |zero=>have:SR.next m=SR.next m1:=h;cases this;rw[Nat.zero_add]
 |succ a ih=>
  rw[CH]at h;have e:a+1+b=(a+b)+1:=by omega
  rw[e,CH];cases hs:jP C m with
  |next m2=>rw[hs]at h;exact ih m2 h
  |done f v hh nx=>rw[hs]at h;cases h
  |pan v hh nx=>rw[hs]at h;cases h
  |bad k m=>rw[hs]at h;cases h
theorem Ev.al5{S:AM→Prop}:∀(n:Nat) {m m':AM},wL C n m=.next m'→Ev C S m'→Ev C S m
 |0,m,m',h,q=>by have:SR.next m=SR.next m':=h;cases this;exact q
 |n+1,m,m',h,q=>by
  rw[CH]at h;cases hs:jP C m with
  |next m2=>rw[hs]at h;exact .step hs (Ev.al5 n h q)
  |done f v hh nx=>rw[hs]at h;cases h
  |pan v hh nx=>rw[hs]at h;cases h
  |bad k m=>rw[hs]at h;cases h
def To(C:bQ)(m m':AM):Prop:=∃n,wL C n m=.next m'
theorem To.refl(m:AM):To C m m:=⟨0,rfl⟩
theorem To.head{m m1 m2:AM}(h:jP C m=.next m1)(h':To C m1 m2):To C m m2:=by obtain⟨n,hn⟩:=h';exact⟨n+1,by rw[CH,h];exact hn⟩
theorem To.one{m m1:AM}(h:jP C m=.next m1):To C m m1:=.head h (.refl _)
theorem To.trans{m m1 m2:AM}(h:To C m m1)(h':To C m1 m2):To C m m2:=by obtain⟨a,ha⟩:=h;obtain⟨b,hb⟩:=h';exact⟨a+b,by rw[al4 a b m m1 ha];exact hb⟩
theorem To.ev{S:AM→Prop}{m m':AM}(h:To C m m')(q:Ev C S m'):Ev C S m:=by obtain⟨n,hn⟩:=h;exact Ev.al5 n hn q
theorem Ev.sound(X:Ctx P ρ w0 C){S:AM→Prop}{rest:List Frame}{am:AM}(h:Ev C S am):∀{fr:Frame} {cs:List Frame} {w:World},HD P ρ C.orc w0 μ0 am fr cs w→
  ∃am' iR Jt w',S am'∧Steps P (lone fr (cs++rest) w) (lone iR (Jt++rest) w')∧HD P ρ C.orc w0 μ0 am' iR Jt w':=by
 induction h with
 |now h=>intro fr cs w hm;exact⟨_,fr,cs,w,h,Steps.refl _ _,hm⟩
 |step e _ ih=>intro fr cs w hm;have hg:=H8 (rest:=rest) X hm;rw[e]at hg;obtain⟨iR,Jt,w',s1,h2⟩:=hg;obtain⟨am',OB,cs2,w2,q,s2,h3⟩:=ih h2;exact⟨am',OB,cs2,w2,q,s1.trans s2,h3⟩
end
end Go.Sx
