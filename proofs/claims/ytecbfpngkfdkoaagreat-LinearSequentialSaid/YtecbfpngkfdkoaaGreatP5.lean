/- A part of the proof. No condition. -/
import Derived.Test.YtecbfpngkfdkoaaGreatP4
set_option linter.unusedSimpArgs false
set_option linter.unusedVariables false
set_option linter.unusedSectionVars false
namespace Go.Sx
open Go.RowKit
def qW(p:List (Nat×Key×ai)):List Nat:=p.map (·.2.1.toNat)
def JH(P:Program)(ρ:Nat→Int)(orc:jK)(nt:Nat)(w0:W0)(cs:List Frame)(K:List Item)(ops:Array Oper)(pl:List ay)(bf:List Nat)(fr:Frame)(w:World)(μ:Mu)(G:Key→Option ai)(H:T ai)(nx:Key)(pend:List (Nat×Key×ai)):RS→Prop
 |.fin aA h' nx'=>∃dZ w' μ' G',Steps P (lone fr cs w) (lone {fr with tmps:=dZ,todo:=K} cs w')∧μ.le μ'∧bB P ρ w0 μ' G' nx'.toNat w'∧HSub h' G'∧lB ρ μ' nt aA dZ∧DG (qW pend) H h' nx nx' μ μ' G G'
 |.ev r JY pend' aA h' nx'=>(∃n,r=.bad n)∨∃dZ w' μ' G' g' i po o ad os UX mM lW,
   Steps P (lone fr cs w) (lone {fr with tmps:=dZ,todo:=.inRegion ops (i ::lW) ::K} cs w')∧μ.le μ'∧bB P ρ w0 μ' G' nx'.toNat w'∧HSub h' G'∧
   JY=.H i po ad ::.R os ::mM∧pl[i]?=some po∧UX.mapM (Fo pl)=some mM∧A7 ops pl bf (Fp (Gh.L g') i) UX=true∧hasB g'.L i=false∧(∀j,j<ops.size→hasB (cQ bf i) j=true→hasB g'.L j=true)∧
   (∀i po,(i,po)∈os→pl[i]?=some po∧Fl ops bf i=true∧tL pl i=0)∧(∀j,hasB g'.L j=true→hZ pl j=true→hasB (cQ bf i) j=true∨∃po,(j,po)∈os)∧
   ic P ρ orc nt ops pl bf μ' G' h' nx' g' (fun i=>hZ pl i=true) pend' aA dZ (i ::lW)∧ops[i]?=some o∧Oh P nt ops o=some po∧Region.wanted o (yielded ops dZ)=true∧
   aOp orc po.op aA h' nx'=r∧¬CX r∧DG (qW pend) H h' nx nx' μ μ' G G'∧(∀x∈qW pend',x∈qW pend∨nx.toNat≤x)
section
variable{P:Program}{ρ:Nat→Int}{orc:jK}{nt:Nat}{ops:Array Oper}{pl:List ay}{bf:List Nat}{w0:W0}{cs:List Frame}{K:List Item}
theorem JH.step{fr:Frame}{w:World}{μ:Mu}{G:Key→Option ai}{H:T ai}{nx:Key}{pend:List (Nat×Key×ai)}{tmps2:Array Value}{rest2:List Nat}{w2:World}{μ2:Mu}{G2:Key→Option ai}{H2:T ai}{aZ:Key}{pend2:List (Nat×Key×ai)}{r:RS}
  (fy:Steps P (lone fr cs w) (lone {fr with tmps:=tmps2,todo:=.inRegion ops rest2 ::K} cs w2)) (hle:μ.le μ2) (hk:DG (qW pend) H H2 nx aZ μ μ2 G G2) (hE:∀x∈qW pend2,x∈qW pend∨nx.toNat≤x)
  (h:JH P ρ orc nt w0 cs K ops pl bf {fr with tmps:=tmps2,todo:=.inRegion ops rest2 ::K} w2 μ2 G2 H2 aZ pend2 r):JH P ρ orc nt w0 cs K ops pl bf fr w μ G H nx pend r:=by
 cases r with
 |fin aA h' nx'=>obtain⟨dZ,w',μ',G',s1,s2,s3,s4,s5,s6⟩:=h;exact⟨dZ,w',μ',G',fy.trans s1,Mu.le_trans hle s2,s3,s4,s5,hk.trans s6 hE⟩
 |ev rr it pd aA h' nx'=>
  rcases h with hb|⟨dZ,w',μ',G',g',i,po,o,ad,os,UX,mM,lW,s1,s2,s3,s4,s5,s6,s7,s8,s9,s10,s11,s12,s13,s14,s15,s16,s17,s18,s19,s20⟩
  ·exact .inl hb
  ·refine .inr ⟨dZ,w',μ',G',g',i,po,o,ad,os,UX,mM,lW,fy.trans s1,Mu.le_trans hle s2,s3,s4,s5,s6,s7,s8,s9,s10,s11,s12,s13,s14,s15,s16,s17,s18,hk.trans s19 hE,fun x hx=>?_⟩;rcases s20 x hx with h|h
   ·exact hE x h
   ·exact .inr (Nat.le_trans hk.n h)
theorem j8{α β:Type}{f:α→Option β}{a:α}{l:List α}{r:List β}(h:(a ::l).mapM f=some r):∃b r',f a=some b∧l.mapM f=some r'∧r=b ::r':=by
 rw[List.mapM_cons]at h;cases hf:f a with
 |none=>rw[hf]at h;cases h
 |some b=>
  cases hl:l.mapM f with
  |none=>rw[hf]at h;simp[hl]at h
  |some r'=>rw[hf]at h;simp[hl]at h;exact⟨b,r',rfl,rfl,h.symm⟩
theorem Zs(orc:jK)(ke:List (Nat×List Nat))(i:Nat)(o:ay)(rest:List aH)(pend:List (Nat×Key×ai))(tm:T AV)(h:T ai)(nx:Key):jg orc ke (.L i o ::rest) pend tm h nx=(match cz o.guard tm with
   |none=>.ev (.bad 31) (.L i o ::rest) pend tm h nx
   |some false=>yw o.dst (some (.tuple [])) tm fun tm=>jg orc ke rest pend tm h nx
   |some true=>match lightOp orc o.op tm (yx (ES i ke) pend h)with
    |some v=>yw o.dst (some v) tm fun tm=>jg orc ke rest pend tm h nx
    |none=>.ev (.bad 32) (.L i o ::rest) pend tm h nx):=rfl
theorem Zt(orc:jK)(ke:List (Nat×List Nat))(i:Nat)(o:ay)(rest:List aH)(pend:List (Nat×Key×ai))(tm:T AV)(h:T ai)(nx:Key):jg orc ke (.A i o ::rest) pend tm h nx=(match cz o.guard tm with
   |none=>.ev (.bad 33) (.A i o ::rest) pend tm h nx
   |some false=>yw o.dst (some (.tuple [])) tm fun tm=>jg orc ke rest pend tm h nx
   |some true=>match allocOp o.op tm with
    |some (v,b)=>yw o.dst (some (v nx)) tm fun tm=>jg orc ke rest ((i,nx,b) ::pend) tm h nx.succ
    |none=>.ev (.bad 34) (.A i o ::rest) pend tm h nx):=rfl
theorem Zu(orc:jK)(ke:List (Nat×List Nat))(i:Nat)(o:ay)(l:List Nat)(rest:List aH)(pend:List (Nat×Key×ai))(tm:T AV)(h:T ai)(nx:Key):jg orc ke (.H i o l ::rest) pend tm h nx=(Fm l pend h fun pend h=>match cz o.guard tm with
   |none=>.ev (.bad 35) (.H i o l ::rest) pend tm h nx
   |some false=>yw o.dst (some (.tuple [])) tm fun tm=>jg orc ke rest pend tm h nx
   |some true=>match aOp orc o.op tm h nx with
    |.val v h nx=>yw o.dst (some v) tm fun tm=>jg orc ke rest pend tm h nx
    |r=>.ev r (.H i o l ::rest) pend tm h nx):=rfl
theorem YH(orc:jK)(ke:List (Nat×List Nat))(os:List (Nat×ay))(rest:List aH)(pend:List (Nat×Key×ai))(tm:T AV)(h:T ai)(nx:Key):jg orc ke (.R os ::rest) pend tm h nx =
  (bif recheck orc ke pend tm h os then jg orc ke rest pend tm h nx else .ev (.bad 36) (.R os ::rest) pend tm h nx):=rfl
theorem apN{os:List Nat}{l:List (Nat×ay)}(h:(os.mapM fun i=>(pl[i]?).map fun o=>(i,o))=some l):(∀i po,(i,po)∈l→i∈os∧pl[i]?=some po)∧(∀i∈os,∃po,(i,po)∈l):=by
 induction os generalizing l with
 |nil=>simp at h;subst h;simp
 |cons a os ih=>
  obtain⟨b,r,h1,h2,rfl⟩:=j8 h;obtain⟨po,XG,rfl⟩:=map_some h1;obtain⟨e1,e2⟩:=ih h2;refine⟨fun i VB hm=>?_,fun i hi=>?_⟩
  ·rcases CR.1 hm with h|h
   ·cases h;exact⟨by simp,XG⟩
   ·exact⟨List.mem_cons_of_mem _ (e1 i VB h).1,(e1 i VB h).2⟩
  ·rcases CR.1 hi with h|h
   ·subst h;exact⟨po,by simp⟩
   ·obtain⟨q,hq⟩:=e2 i h;exact⟨q,List.mem_cons_of_mem _ hq⟩
theorem azj{μ:Mu}{G:Key→Option ai}{nx:Key}{w:World}(hM:bB P ρ w0 μ G nx.toNat w):G nx=none:=by
 cases h:G nx with
 |none=>rfl
 |some B=>obtain⟨l,o,h1,_⟩:=hM.wa nx B h;exact absurd (hM.new nx l h1) (Nat.lt_irrefl _)
theorem Xx{α:Type}{f:α→Nat}:∀{l:List α},(l.map f).Nodup→∀x∈l,∀y∈l,f x=f y→x=y
 | [],_,x,hx,_,_,_=>by cases hx
 |a ::l,h,x,hx,y,hy,e=>by
  simp only[zqx,List.nodup_cons]at h;rcases CR.1 hx with Ip|Ip<;>rcases CR.1 hy with YK|YK
  ·rw[Ip,YK]
  ·exact(h.1 (M4.2 ⟨y,YK,by rw[←e,Ip]⟩)).elim
  ·exact(h.1 (M4.2 ⟨x,Ip,by rw[e,YK]⟩)).elim
  ·exact Xx h.2 x Ip y YK e
theorem CM{α:Type}{f:α→Nat}(p:α→Bool){l:List α}(h:(l.map f).Nodup):((l.filter p).map f).Nodup:=
 List.Nodup.sublist (List.Sublist.map f List.filter_sublist) h
theorem ic.Fm{μ:Mu}{G:Key→Option ai}{H:T ai}{nx:Key}{g:Gh}{pend:List (Nat×Key×ai)}{tm:T AV}{tmps:Array Value}{rest:List Nat}(S:ic P ρ orc nt ops pl bf μ G H nx g (fun _=>False) pend tm tmps rest){l:List Nat}(hl:∀j∈l,j<ops.size→g.D j=true) :
  ic P ρ orc nt ops pl bf μ G (di (pend.filter fun x=>memN x.1 l) H) nx g (fun i=>hZ pl i=true) (pend.filter fun x=>!(memN x.1 l)) tm tmps rest:=by
 refine⟨S.US,S.ord,S.cl,S.sub,S.Km,S.lcl,S.a1,S.a2,S.sz,S.c1,S.c2,?_,?_,CM _ S.nk,CM _ S.ni⟩
 ·intro i hi hD;cases S.pd i hi hD with
  |skip po nU h1 h2 h3 h4 h5=>exact .skip po nU h1 h2 h3 h4 fun x hx=>h5 x ((List.mem_filter.1 hx).1)
  |light po nU v h1 h2 h3 EU h4 h5 h6=>
   refine .light po nU v h1 h2 h3 EU (fun hu=>?_) h5 fun x hx=>h6 x ((List.mem_filter.1 hx).1);obtain⟨V,a1,_⟩:=h4 (fun h=>h);refine⟨_,?_,VOk.refl _ _ _ _⟩;rw[←a1];apply MA;have:hZ pl i=MW po.op:=by simp[hZ,h1]
   rw[this]at hu;simpa using hu
  |alloc po nU f B k h1 h2 h3 EU h4 h5 h6=>
   refine .alloc po nU f B k h1 h2 h3 EU h4 h5 (List.mem_filter.2 ⟨h6,?_⟩);show(!(memN i l))=true;cases hm:memN i l with
   |false=>rfl
   |true=>rw[hl i (MD hm) (S.Km i hi)]at hD;cases hD
 ·intro x hx;obtain⟨Ip,hx2⟩:=List.mem_filter.1 hx;obtain⟨p1,p2,p3,p4,p5⟩:=S.pe x Ip;refine⟨p1,p2,p3,AY p4 fun y hy e=>?_,p5⟩;obtain⟨YK,hy2⟩:=List.mem_filter.1 hy;have:=Xx S.nk y YK x Ip e;subst this;rw[hy2]at hx2;cases hx2
theorem Xy{ke:List (Nat×List Nat)}(hor:fA ρ orc){rest:List Nat}{g:Gh}{fr:Frame}{w:World}{μ:Mu}{G:Key→Option ai}{H:T ai}{nx:Key}{tm:T AV}{pend:List (Nat×Key×ai)}(hc:A7 ops pl bf g.L []=true)(hM:bB P ρ w0 μ G nx.toNat w)(hH:HSub H G)
  (S:ic P ρ orc nt ops pl bf μ G H nx g (fun _=>False) pend tm fr.tmps rest) (hm:fr.mode=.run) (ht:fr.todo=.inRegion ops rest ::K):JH P ρ orc nt w0 cs K ops pl bf fr w μ G H nx pend (jg orc ke [] pend tm H nx):=by
 have J9:∀j,j<ops.size→hasB g.L j=true:=by intro j hj;simp only[A7,xM]at hc;exact hc j (by simpa using hj)
 have gD:jg orc ke [] pend tm H nx=.fin tm (di pend H) nx:=by show FU pend H (fun h=>RS.fin tm h nx)=_;rw[HG]
 rw[gD];obtain⟨dZ,w',μ',G',D',lW,s1,s2,s3,s4,s5,s6,rfl⟩:=agO (cs:=cs) hM hH hor S J9 hm ht;have hD:∀j,j<ops.size→D' j=true:=s5.ord;refine⟨dZ,w',μ',G',s1.trans (.one (Ju hm rfl)),s2,s3,KC s4 (fun x hx=>(s5.pe x hx).2.1 (hD _ (s5.Km _ (s5.pe x hx).1))),?_,?_⟩
 ·refine⟨s5.sz,fun k a ha=>?_⟩;by_cases h:∃j,oY ops j=some k.toNat
  ·obtain⟨j,hj⟩:=h;have fu:=NU hj;exact s5.c1 k j a (hD j fu) hj (by rw[←s5.a1 k j (J9 j fu) hj];exact ha)
  ·have BA:∀j,oY ops j≠some k.toNat:=fun j hj=>h ⟨j,hj⟩;exact s5.c2 k a (fun j _=>BA j) (by rw[←s5.a2 k (fun j _=>BA j)];exact ha)
 ·refine⟨fun b hb hg hl=>?_,gi _⟩;have cp:∀x∈pend,x.2.1.toNat≠b.toNat:=fun x hx e=>hb (M4.2 ⟨x,hx,e⟩);obtain⟨k1,k2⟩:=s6 b (fun x hx e=>cp x hx (by rw[e]));exact⟨k1,k2,AY hg cp⟩
theorem Z6{ke:List (Nat×List Nat)}(adj:BE bf ke=true)(hor:fA ρ orc):∀(n:Nat) (wW:List IIt) (items:List aH) (rest:List Nat) (g:Gh) (fr:Frame) (w:World) (μ:Mu) (G:Key→Option ai) (H:T ai) (nx:Key) (tm:T AV) (pend:List (Nat×Key×ai)),wW.length≤n→
  wW.mapM (Fo pl)=some items→A7 ops pl bf g.L wW=true→bB P ρ w0 μ G nx.toNat w→HSub H G→ic P ρ orc nt ops pl bf μ G H nx g (fun _=>False) pend tm fr.tmps rest→fr.mode=.run→fr.todo=.inRegion ops rest ::K→
  JH P ρ orc nt w0 cs K ops pl bf fr w μ G H nx pend (jg orc ke items pend tm H nx):=by
 intro n
 induction n with
 |zero=>intro wW items rest g fr w μ G H nx tm pend hn hf hc hM hH S hm ht;have:wW=[]:=zqr (by omega);subst this;simp at hf;subst hf;exact Xy hor hc hM hH S hm ht
 |succ n ih=>
  intro wW items rest g fr w μ G H nx tm pend hn hf hc hM hH S hm ht;cases wW with
  |nil=>simp at hf;subst hf;exact Xy hor hc hM hH S hm ht
  |cons x wW=>
   obtain⟨y,JY,hy,hf',rfl⟩:=j8 hf;have hn':wW.length≤n:=by simpa using hn
   have hrefl:Steps P (lone fr cs w) (lone {fr with tmps:=fr.tmps,todo:=.inRegion ops rest ::K} cs w):=by rw[←ht];exact Steps.refl _ _
   cases x with
   |L i=>
    obtain⟨po,uX,rfl⟩:=map_some hy;simp only[A7,kW,bltN_eq,decide_eq_true_eq,Bool.not_eq_true',HV]at hc;obtain⟨⟨⟨⟨hi,hk⟩,hL⟩,hb⟩,hc⟩:=hc;have hk:=pZ hk;have hii:hasB (cQ bf i) i=false:=by
     cases h:hasB (cQ bf i) i with
     |false=>rfl
     |true=>have:=hb i hi h;rw[hL]at this;cases this
    have htm:=S.apM hi hL hb;have Z2:∀x∈pend,x.1≠i:=by intro x hx e;have:=(S.pe x hx).1;rw[e,hL]at this;cases this
    rw[Zs];cases hw:cz po.guard tm with
    |none=>exact Or.inl ⟨_,rfl⟩
    |some b=>
     cases b with
     |false=>simp only[fF];have S':=S.add (nx':=nx) (pend':=pend) (v:=.tuple []) uX hL hb (fun _ h=>h) (fun _ h=>.inl h) (.skip po tm uX (zz hii htm) hw (by simp[zQ]) Z2) (fun y hy hny=>absurd hy hny) (gi _) S.nk S.ni;exact ih wW JY rest _ fr w μ G H nx _ pend hn' hf' hc hM hH S' hm ht
     |true=>
      cases hl:lightOp orc po.op tm (yx (ES i ke) pend H)with
      |none=>exact Or.inl ⟨_,rfl⟩
      |some v=>simp only[fF];have S':=S.add (nx':=nx) (pend':=pend) (v:=v) uX hL hb (fun _ h=>h) (fun _ h=>.inl h) (.light po tm v uX (zz hii htm) hw hk (fun _=>⟨_,hl,VOk.view adj _ _ _⟩) (by simp[zQ]) Z2) (fun y hy hny=>absurd hy hny) (gi _) S.nk S.ni;exact ih wW JY rest _ fr w μ G H nx _ pend hn' hf' hc hM hH S' hm ht
   |A i=>
    obtain⟨po,uX,rfl⟩:=map_some hy;simp only[A7,kW,bltN_eq,decide_eq_true_eq,Bool.not_eq_true',HV]at hc;obtain⟨⟨⟨⟨hi,hk⟩,hL⟩,hb⟩,hc⟩:=hc;have hk:=pZ hk;have hii:hasB (cQ bf i) i=false:=by
     cases h:hasB (cQ bf i) i with
     |false=>rfl
     |true=>have:=hb i hi h;rw[hL]at this;cases this
    have htm:=S.apM hi hL hb;have Z2:∀x∈pend,x.1≠i:=by intro x hx e;have:=(S.pe x hx).1;rw[e,hL]at this;cases this
    have hss:=kTSu nx;rw[Zt];cases hw:cz po.guard tm with
    |none=>exact Or.inl ⟨_,rfl⟩
    |some b=>
     cases b with
     |false=>simp only[fF];have S':=S.add (nx':=nx) (pend':=pend) (v:=.tuple []) uX hL hb (fun _ h=>h) (fun _ h=>.inl h) (.skip po tm uX (zz hii htm) hw (by simp[zQ]) Z2) (fun y hy hny=>absurd hy hny) (gi _) S.nk S.ni;exact ih wW JY rest _ fr w μ G H nx _ pend hn' hf' hc hM hH S' hm ht
     |true=>
      cases hl:allocOp po.op tm with
      |none=>exact Or.inl ⟨_,rfl⟩
      |some fB=>
       obtain⟨f,B⟩:=fB;simp only[fF];have hgn:=azj hM;have hHn:ag nx H=none:=by
        cases h:ag nx H with
        |none=>rfl
        |some B=>rw[hH nx B h]at hgn;cases hgn
       have S':=S.add (nx':=nx.succ) (pend':=(i,nx,B) ::pend) (v:=f nx) uX hL hb (fun _ h=>List.mem_cons_of_mem _ h) (fun y h=>by rcases CR.1 h with h|h;exact .inr (by rw[h]);exact .inl h)
        (.alloc po tm f B nx uX (zz hii htm) hw hk hl (by simp[zQ]) (by simp))
        (fun y hy hny=>by have:y=(i,nx,B):=(CR.1 hy).resolve_right hny;subst this;exact⟨hM.uK,hgn,hHn,by show nx.toNat<nx.succ.toNat;omega⟩) (by omega)
        (by simp only[zqx,List.nodup_cons];refine⟨fun h=>?_,S.nk⟩;obtain⟨x,hx,e⟩:=M4.1 h;have:=(S.pe x hx).2.2.2.2;omega)
        (by simp only[zqx,List.nodup_cons];refine⟨fun h=>?_,S.ni⟩;obtain⟨x,hx,e⟩:=M4.1 h;exact Z2 x hx e)
       have:=ih wW JY rest _ fr w μ G H nx.succ _ ((i,nx,B) ::pend) hn' hf' hc (hM.aCl (by omega)) hH S' hm ht;refine JH.step (tmps2:=fr.tmps) (rest2:=rest) (w2:=w) (pend2:=(i,nx,B) ::pend) hrefl μ.le_refl ⟨fun b _ hg hl=>⟨rfl,rfl,hg⟩,Nat.le_of_lt (show nx.toNat<nx.succ.toNat by omega)⟩ ?_ (by rw[←ht];exact this);intro x hx;simp only[qW,zqx,CR]at hx;rcases hx with h|h
       ·exact .inr (Nat.le_of_eq h.symm)
       ·exact .inl h
   |H i ad=>
    obtain⟨po,uX,rfl⟩:=map_some hy;cases wW with
    |nil=>simp[A7]at hc
    |cons x2 UX=>
    cases x2 with
    |L _=>simp[A7]at hc
    |A _=>simp[A7]at hc
    |H _ _=>simp[A7]at hc
    |R osn=>
    obtain⟨y2,mM,hy2,hf2,rfl⟩:=j8 hf';obtain⟨os,hos,rfl⟩:=map_some hy2;obtain⟨aM1,aM2⟩:=apN hos;have hn2:UX.length≤n:=by simp at hn;omega
    simp only[A7,kW,bltN_eq,decide_eq_true_eq,Bool.not_eq_true',HV]at hc;obtain⟨⟨⟨⟨⟨⟨⟨⟨hi,hk⟩,hL⟩,hb⟩,ade⟩,rk⟩,JW⟩,aM3⟩,hc⟩:=hc;have hk:=pZ hk;have aEf:∀j q,(j,q)∈os→pl[j]?=some q∧Fl ops bf j=true∧tL pl j=0:=by intro j q hj;obtain⟨e1,e2⟩:=aM1 j q hj;have:=xM.1 aM3 j e1;simp only[kW]at this;exact⟨e2,this.2,pZ this.1.2⟩
    have avF:∀j,hasB g.L j=true→hZ pl j=true→hasB (cQ bf i) j=true∨∃q,(j,q)∈os:=by
     intro j hj hr;have:=xM.1 JW j (by simpa using S.Km j hj);simp only[hj,hr,Bool.not_true,Bool.false_or,Bool.or_eq_true]at this;rcases this with h|h
     ·exact .inl h
     ·exact .inr (aM2 j (by simpa using h))
    have azl:∀j,j<ops.size→hasB g.L j=true∨j=i∨∃q,q<ops.size∧hasB (cQ bf j) q=true∧hasB g.L q=false:=by
     intro j hj;have:=xM.1 ade j (by simpa using hj);simp only[Bool.or_eq_true,Bool.not_eq_true']at this;rcases this with(h|h)|h
     ·exact .inl h
     ·exact .inr (.inl (pZ h))
     ·refine .inr (.inr (Classical.byContradiction fun BA=>?_));have:adL ops.size (cQ bf j) g.L=true:=HV.2 fun q hq hbq=>by
       cases hLq:hasB g.L q with
       |true=>rfl
       |false=>exact absurd ⟨q,hq,hbq,hLq⟩ BA
      rw[this]at h;cases h
    obtain⟨ME,w1,μ1,G1,D1,aRk,s1,s2,s3,s4,S1,s6,r1,rfl⟩:=Zz (cs:=cs) hM hH hor S hi hL azl hm ht;have aEg:∀j∈ad,j<ops.size→D1 j=true:=by intro j hj fu;exact S1.ready.2.2 j fu (xM.1 rk j hj)
    have S2:=S1.Fm (l:=ad) aEg;rw[Zu,yY];generalize hpf:(pend.filter fun x=>!(memN x.1 ad))=pend2 at S2;generalize hHf:di (pend.filter fun x=>memN x.1 ad) H=H2 at S2;have hH2:HSub H2 G1:=by rw[←hHf];refine KC s4 fun x hx=>?_;obtain⟨Ip,hx2⟩:=List.mem_filter.1 hx;exact(S1.pe x Ip).2.1 (aEg _ (MD hx2) (S1.Km _ (S1.pe x Ip).1))
    have aEh:∀x∈pend2,x∈pend:=by intro x hx;rw[←hpf]at hx;exact(List.mem_filter.1 hx).1
    have apO:∀x∈qW pend2,x∈qW pend∨nx.toNat≤x:=by intro x hx;obtain⟨y,hy,e⟩:=M4.1 hx;exact .inl (M4.2 ⟨y,aEh y hy,e⟩)
    have hK2:DG (qW pend) H H2 nx nx μ μ1 G G1:=by refine⟨fun b gA hg dn=>?_,gi _⟩;have cp:∀x∈pend,x.2.1.toNat≠b.toNat:=fun x hx e=>gA (M4.2 ⟨x,hx,e⟩);obtain⟨k1,k2⟩:=s6 b (fun x hx e=>cp x hx (by rw[e]));rw[←hHf];exact⟨k1,k2,AY hg fun x hx=>cp x ((List.mem_filter.1 hx).1)⟩
    obtain⟨o,VB,O7,XG,IF⟩:=S.US.at hi;rw[uX]at IF;cases IF;obtain⟨pE,XH,CY⟩:=jv XG;have hsl:=S2.Q6 hL hb O7;have hE:=HQ (P:=P) (nt:=nt) (o:=o) (fr:={fr with tmps:=ME,todo:=.inRegion ops (i ::r1) ::K}) s3 hsl;have go:∀(a:AV) (v:Value) (w3:World) (μ3:Mu) (G3:Key→Option ai) (H3:T ai) (fT:Key),step P (lone {fr with tmps:=ME,todo:=.inRegion ops (i ::r1) ::K} cs w1)=.next (lone {fr with tmps:=ID o.dst v ME,todo:=.inRegion ops r1 ::K} cs w3)→
      aU ρ μ3 a v→μ1.le μ3→bB P ρ w0 μ3 G3 fT.toNat w3→HSub H3 G3→Kept H2 H3 nx fT μ1 μ3 G1 G3→JH P ρ orc nt w0 cs K ops pl bf fr w μ G H nx pend (jg orc ke (.R os ::mM) pend2 (bT po.dst a tm) H3 fT):=by
     intro a v w3 μ3 G3 H3 fT fy hv hle hM3 hH3 hK3;have S3:=S2.keep hle hK3.n (G':=G3) (H':=H3) (fun x hx=>by obtain⟨p1,p2,p3,p4,p5⟩:=S2.pe x hx;exact⟨hK3.m _ p5,hK3.g _ p4 p5,hK3.h _ p4 p5⟩)
     have S4:=S3.avA uX hL hb O7 hv;rw[YH];cases hrc:recheck orc ke pend2 (bT po.dst a tm) H3 os with
     |false=>exact Or.inl ⟨_,rfl⟩
     |true=>
      simp only[cond_true];have S5:=S4.Xi adj hrc aEf (by
       intro j hj hDj hrj;have hDj:(D1 j||j==i)=false:=hDj;rw[Bool.or_eq_false_iff]at hDj;have cp:j≠i:=by simpa using hDj.2
       have hj:hasB (Fp g.L i) j=true:=hj;rw[FG,Bool.or_eq_true,decide_eq_true_eq]at hj;have hjL:=hj.resolve_right (fun e=>cp e.symm);rcases avF j hjL hrj with h|h
       ·have:=S1.ready.2.2 j (S.Km j hjL) h;have:D1 j=true:=this;rw[hDj.1]at this;cases this
       ·exact h)
      have hE3:=ih UX mM r1 _ {fr with tmps:=ID o.dst v ME,todo:=.inRegion ops r1 ::K} w3 μ3 G3 H3 fT _ pend2 hn2 hf2 hc hM3 hH3 S5 hm rfl;exact JH.step (s1.trans (.one fy)) (Mu.le_trans s2 hle) (hK2.trans (hK3.toE (qW pend2)) apO) (fun x hx=>(apO x hx)) hE3
    have evt:∀r:OR,Region.wanted o (yielded ops ME)=true→aOp orc po.op tm H2 nx=r→¬CX r→JH P ρ orc nt w0 cs K ops pl bf fr w μ G H nx pend (.ev r (.H i po ad ::.R os ::mM) pend2 tm H2 nx):=by intro r sr ha hr;exact Or.inr ⟨ME,w1,μ1,G1,{g with D:=D1},i,po,o,ad,os,UX,mM,r1,s1,s2,s3,hH2,rfl,uX,hf2,hc,hL,hb,aEf,avF,S2,O7,XG,sr,ha,hr,hK2,apO⟩
    show JH P ρ orc nt w0 cs K ops pl bf fr w μ G H nx pend (match cz po.guard tm with
     |none=>.ev (.bad 35) (.H i po ad ::.R os ::mM) pend2 tm H2 nx
     |some false=>yw po.dst (some (.tuple [])) tm fun tm=>jg orc ke (.R os ::mM) pend2 tm H2 nx
     |some true=>match aOp orc po.op tm H2 nx with
      |.val v h nx=>yw po.dst (some v) tm fun tm=>jg orc ke (.R os ::mM) pend2 tm h nx
      |r=>.ev r (.H i po ad ::.R os ::mM) pend2 tm H2 nx)
    cases hw:cz po.guard tm with
    |none=>exact Or.inl ⟨_,rfl⟩
    |some b=>
     have sr:=Ck XH hsl hw;cases b with
     |false=>simp only[fF];have fy:=Kr (P:=P) (cs:=cs) (w:=w1) (fr:={fr with tmps:=ME,todo:=.inRegion ops (i ::r1) ::K}) hm rfl O7 sr;rw[cH rfl O7]at fy;exact go _ _ w1 μ1 G1 H2 nx fy (.tuple _ _ .nil) μ1.le_refl s3 hH2 (Kept.refl _ _ _ _)
     |true=>
      cases ha:aOp orc po.op tm H2 nx with
      |val a H3 fT=>
       simp only[fF];obtain⟨n,w3,μ3,G3,q1,q2,q3,q4,q5,q6⟩:=Xs s3 hH2 hor pE hE ha;have QD:fr.roundOf=none∨fV o.op=false:=.inr (BI pE (by rw[ha];intro f l e;cases e) (by rw[ha];intro n e;cases e));cases n with
       |value v=>have fy:=YR (P:=P) (cs:=cs) (fr:={fr with tmps:=ME,todo:=.inRegion ops (i ::r1) ::K}) hm rfl O7 sr QD q1;rw[cH rfl O7]at fy;exact go _ _ w3 μ3 G3 H3 fT fy q2 q3 q4 q5 q6
       |skip=>have q2:a=.tuple []:=q2;subst q2;have fy:=ah7 (P:=P) (cs:=cs) (fr:={fr with tmps:=ME,todo:=.inRegion ops (i ::r1) ::K}) hm rfl O7 sr QD q1;rw[cH rfl O7]at fy;exact go _ _ w3 μ3 G3 H3 fT fy (.tuple _ _ .nil) q3 q4 q5 q6
       |_=>exact q2.elim
      |bad n=>exact Or.inl ⟨_,rfl⟩
      |call f args=>exact evt _ sr ha (by rintro(⟨_,_,_,e⟩|⟨_,e⟩)<;>cases e)
      |yld k args=>exact evt _ sr ha (by rintro(⟨_,_,_,e⟩|⟨_,e⟩)<;>cases e)
      |pan v=>exact evt _ sr ha (by rintro(⟨_,_,_,e⟩|⟨_,e⟩)<;>cases e)
      |dfr f args=>exact evt _ sr ha (by rintro(⟨_,_,_,e⟩|⟨_,e⟩)<;>cases e)
      |recover=>exact evt _ sr ha (by rintro(⟨_,_,_,e⟩|⟨_,e⟩)<;>cases e)
   |R os=>simp[A7]at hc
end
def Lb(P:Program)(ρ:Nat→Int)(w0:W0)(f:Nat)(l:List AV)(H:T ai)(nx:Key)(a:AV)(H':T ai)(nx':Key):Prop:=∀(args:Array Value) (w:World) (μ:Mu) (G:Key→Option ai),bB P ρ w0 μ G nx.toNat w→HSub H G→ax ρ μ l args.toList→
 Calls P f args w fun e w'=>∃u μ' G',e=.returned u∧aU ρ μ' a u∧μ.le μ'∧bB P ρ w0 μ' G' nx'.toNat w'∧HSub H' G'∧Kept H H' nx nx' μ μ' G G'
structure Ctx(P:Program)(ρ:Nat→Int)(w0:W0)(C:bH):Prop where
 sum:∀f l H nx a H' nx',C.sum f l H nx=some (a,H',nx')→Lb P ρ w0 f l H nx a H' nx'
 has : ∀ f l H nx r, C.sum f l H nx = some r → ∃ fn, P.funcs[f]? = some fn ∧ fn.body.isSome = true ∧ fn.name ≠ "runtime.NumGoroutine"
 orc:fA ρ C.orc
 fns:∀f p,(bif Nat.beq (Key.fX 12 f).toNat f then ag (Key.fX 12 f) C.fns else none)=some p→IS P f=some p
 mix:P.follows .mixedOrders=true
section
variable{P:Program}{ρ:Nat→Int}{orc:jK}{nt:Nat}{w0:W0}{w:World}{μ:Mu}{G:Key→Option ai}{H:T ai}{nx:Key}
theorem agE{id:Nat}{k:List db}{K:List Item}(h:oe P μ nt k K) :
  (∀k',nK id k=some k'→∃K',exitTo id K=some K'∧oe P μ nt k' K')∧(nK id k=none→exitTo id K=none):=by
 induction h with
 |nil=>exact⟨fun k' e=>(by cases e),fun _=>rfl⟩
 |cons a x l k h h' ih=>
  cases h with
  |inBlock id'=>
   simp only[nK,exitTo,beqN_eq];by_cases e:id'=id
   ·subst e;simp only[decide_true,cond_true,beq_self_eq_true,if_true];exact⟨fun k' e=>(by cases e;exact⟨_,rfl,h'⟩),fun e=>(by cases e)⟩
   ·have:(id'==id)=false:=by simpa using e
    simp only[e,decide_false,cond_false,this,WA,if_false];exact ih
  |code pc c h=>exact ih
  |inLoop pc c h=>exact ih
  |ops l ops rest h=>exact ih
  |inRF k l r h hr=>exact ih
  |endRF k l r h hr=>exact ih
  |beginRound=>exact ih
  |scope c=>exact ih
noncomputable def iG:List AV→Key→T AV→T AV
 | [],_,tm=>tm
 |v ::l,k,tm=>iG l k.succ (au k (some v) tm)
theorem CW{R:Type}:∀(l:List AV) (k:Key) (tm:T AV) (c:T AV→R),XY l k tm c=c (iG l k tm)
 | [],_,_,_=>rfl
 |v ::l,k,tm,c=>by show x0 k (some v) tm (fun tm=>XY l k.succ tm c)=_;rw[sTCe,CW l];rfl
theorem Pd:∀(l:List AV) (k:Key) (tm:T AV) (q:Key) (a:AV),ag q (iG l k tm)=some a→(k.toNat≤q.toNat∧l[q.toNat-k.toNat]?=some a)∨ag q tm=some a
 | [],_,_,_,_,h=>.inr h
 |v ::l,k,tm,q,a,h=>by
  have hs:=kTSu k;rcases Pd l k.succ _ q a h with⟨h1,h2⟩|h1
  ·refine .inl ⟨by omega,?_⟩;have:q.toNat-k.toNat=(q.toNat-k.succ.toNat)+1:=by omega
   rw[this];simpa using h2
  ·by_cases e:q=k
   ·subst e;rw[gTSm]at h1;cases h1;exact .inl ⟨gi _,by simp⟩
   ·rw[aD _ _ _ _ e]at h1;exact .inr h1
theorem agF{args:Array Value}{l:List AV}(h:ax ρ μ l args.toList):lB ρ μ nt (iG l .z .nil) (args++Array.replicate (nt-args.size) undef):=by
 refine⟨by simp;omega,fun q a hq=>?_⟩;rcases Pd l .z .nil q a hq with⟨_,h2⟩|h2
 ·have h2:l[q.toNat]?=some a:=by simpa[Key.toNat]using h2
  obtain⟨v,hv,hr⟩:=h.get _ _ h2;refine⟨v,?_,hr⟩;have dn:q.toNat<args.size:=by
   rcases HS q.toNat args.size with h'|h'
   ·exact h'
   ·rw[zqo (by simpa using h')]at hv;cases hv
  rw[Array.getElem?_append_left dn];simpa using hv
 ·simp at h2
theorem uY {f : Nat} {p : fN} (h : IS P f = some p) : ∃ fn c, P.funcs[f]? = some fn ∧ fn.body = some c ∧ fn.name ≠ "runtime.NumGoroutine" ∧ iL P fn.ntmps c = some p.body ∧ UT P fn.ntmps fn.results.toList = some p.res := by
 unfold IS at h;split at h
 ·cases h
 ·rename_i fn hfn;split at h
  ·cases h
  ·rename_i c hc;cases hn : (fn.name == "runtime.NumGoroutine") with
   |true=>rw[hn]at h;cases h
   |false=>
    rw[hn]at h;simp only[cond_false]at h;split at h
    ·rename_i b r hb hr;cases h;exact⟨fn,c,hfn,hc,by simpa using hn,hb,hr⟩
    ·cases h
theorem xX{f:Nat}{p:fN}(hp:IS P f=some p){l:List AV}{args:Array Value}(hl:ax ρ μ l args.toList)(FE:Bool) :
  Cur P ρ orc μ G H nx {fn:=f,tm:=iG l .z .nil,todo:=[.code p.body],dfs:=[],mode:=.run,FE,uW:=none,res:=p.res} (Frame.enter P f args (if FE then .deferred else .normal)):=by
 obtain⟨fn,c,h1,h2,h3,h4,h5⟩:=uY hp;refine .run fn.ntmps ⟨rfl,⟨fn,h1,rfl,h5⟩,trivial,rfl,trivial,fun h=>absurd rfl h⟩ rfl rfl ?_;simp only[Frame.enter,h1,Option.map_some,Option.getD_some,Option.bind_some,h2];exact .plain _ _ _ _ (.cons _ _ _ _ (.code _ _ h4) .nil) (agF hl)
theorem lB.set{tm:T AV}{tmps:Array Value}(h:lB ρ μ nt tm tmps){k:Key}(dn:k.toNat<nt){a:AV}{v:Value}(hv:aU ρ μ a v):lB ρ μ nt (au k (some a) tm) (tmps.setIfInBounds k.toNat v):=by
 refine⟨by simp;exact h.1,fun q b hb=>?_⟩;by_cases hq:q=k
 ·subst hq;rw[gTSm]at hb;cases hb;have:q.toNat<tmps.size:=Ou dn h.1;exact⟨v,by simp[this],hv⟩
 ·rw[aD _ _ _ _ hq]at hb;obtain⟨u,hu,hr⟩:=h.2 q b hb;refine⟨u,?_,hr⟩;rw[zqn]
  ·exact hu
  ·intro e;exact hq (Key.toNat_inj e.symm)
noncomputable def aqF:List Key→List AV→T AV→T AV
 |k ::l,v ::m,tm=>aqF l m (au k (some v) tm)
 |_,_,tm=>tm
theorem Wx{R:Type}:∀(ks:List Key) (vs:List AV) (tm:T AV) (bad:R) (c:T AV→R),XZ ks vs tm bad c=bad∨(ks.length=vs.length∧XZ ks vs tm bad c=c (aqF ks vs tm))
 | [],[],tm,bad,c=>.inr ⟨rfl,rfl⟩
 | [],_ ::_,tm,bad,c=>.inl rfl
 |_ ::_,[],tm,bad,c=>.inl rfl
 |k ::l,v ::m,tm,bad,c=>by
  have e:XZ (k ::l) (v ::m) tm bad c=XZ l m (au k (some v) tm) bad c:=by show x0 k (some v) tm (fun tm=>XZ l m tm bad c)=_;rw[sTCe]
  rw[e];rcases Wx l m (au k (some v) tm) bad c with h|⟨h1,h2⟩
  ·exact .inl h
  ·exact .inr ⟨by simp[h1],h2⟩
theorem Z4:∀{ks:List Key} {vs:List AV} {us:List Value} {tm:T AV} {tmps:Array Value},(∀k∈ks,k.toNat<nt)→ks.length=vs.length→ax ρ μ vs us→lB ρ μ nt tm tmps→
  lB ρ μ nt (aqF ks vs tm) (((ks.map Key.toNat).zip us).foldl (fun tmps (x:Nat×Value)=>tmps.setIfInBounds x.1 x.2) tmps)
 | [],[],_,_,_,_,_,.nil,h=>h
 | [],_ ::_,_,_,_,_,hl,_,_=>by cases hl
 |_ ::_,[],_,_,_,_,hl,_,_=>by cases hl
 |k ::ks,v ::vs,_,tm,tmps,hk,hl,.cons _ _ u us h h',ht=>by exact Z4 (ks:=ks) (vs:=vs) (fun q hq=>hk q (by simp[hq])) (by simpa using hl) h' (ht.set (hk k (by simp)) h)
noncomputable def kP:List Key→T AV→T AV
 | [],tm=>tm
 |k ::l,tm=>kP l (au k none tm)
theorem qz{R:Type}:∀(l:List Key) (tm:T AV) (c:T AV→R),JX l tm c=c (kP l tm)
 | [],_,_=>rfl
 |k ::l,tm,c=>by show x0 k none tm (fun tm=>JX l tm c)=_;rw[sTCe,qz l];rfl
theorem Ui:∀(l:List Key) (tm:T AV) (q:Key) (a:AV),ag q (kP l tm)=some a→(∀k∈l,k≠q)∧ag q tm=some a
 | [],_,_,_,h=>⟨fun _ h=>(by cases h),h⟩
 |k ::l,tm,q,a,h=>by
  obtain⟨h1,h2⟩:=Ui l _ q a h;have cp:k≠q:=by intro e;subst e;rw[gTSm]at h2;cases h2
  rw[aD _ _ _ _ (fun e=>cp e.symm)]at h2;refine⟨fun x hx=>?_,h2⟩;rcases CR.1 hx with e|e
  ·rw[e];exact cp
  ·exact h1 x e
theorem ic.erase{ops:Array Oper}{pl:List ay}{bf:List Nat}{g:Gh}{Ea:Nat→Prop}{pend:List (Nat×Key×ai)}{tm:T AV}{tmps:Array Value}{rest:List Nat}(S:ic P ρ orc nt ops pl bf μ G H nx g Ea pend tm tmps rest){jN:List Key}(hd:M5 ops jN) :
  lB ρ μ nt (kP jN tm) tmps:=by
 refine⟨S.sz,fun q a hq=>?_⟩;obtain⟨h1,h2⟩:=Ui _ _ _ _ hq;have BA:∀j,oY ops j≠some q.toNat:=by intro j hj;obtain⟨k,hk,e⟩:=hd j _ hj;exact h1 k hk (Key.toNat_inj e)
 rw[S.a2 q fun j _=>BA j]at h2;exact S.c2 q a (fun j _=>BA j) h2
theorem K6.finish{k:List db}{tm:T AV}{K:List Item}{tmps:Array Value}(h:K6 P ρ orc μ G H nx nt k tm K tmps){af af':nG}(hk:af.todo=k)(ht:af.tm=tm){fr:Frame}(hK:fr.todo=K)(hT:fr.tmps=tmps){a:AV}{v:Value}(hv:aU ρ μ a v)
  (hf:cT a af=some af'):Z5 P ρ orc μ G H nx nt af'.todo af'.tm (fr.finish v).todo (fr.finish v).tmps∧pk af'=pk af∧(∃cE k2,af'={af with tm:=cE,todo:=k2})∧(∃tmps2 K2,fr.finish v={fr with tmps:=tmps2,todo:=K2}):=by
 cases h with
 |ops o l ops i rest k K tm tmps hp h ht'=>
  subst ht hT;simp only[cT,hk,fF,dS]at hf;subst hf;have hp0:=hp;simp only[mJ]at hp;split at hp
  ·cases hp
  ·rename_i oo O7;split at hp
   ·rename_i VB l' h1 h2;simp only[dS,List.cons.injEq]at hp;obtain⟨rfl,rfl⟩:=hp;obtain⟨pE,XH,CY⟩:=jv h1;rw[cH hK O7];exact⟨.plain _ _ _ _ (.cons _ _ _ _ (.ops _ _ _ h2) h) (ht'.put CY hv),by simp[pk,hk],⟨_,_,rfl⟩,⟨_,_,rfl⟩⟩
   ·cases hp
 |staged ops pl bf g i po ad os wW items jN pend k K tm tmps rest uX hf' hc hL Wv hd h hos JW S=>
  subst ht hT;simp only[cT,hk,fF,dS]at hf;subst hf;obtain⟨hi,hDi,Iu⟩:=S.ready;obtain⟨o,VB,O7,XG,IF⟩:=S.US.at hi;rw[uX]at IF;cases IF;rw[cH hK O7];have S4:=S.avA uX hL Wv O7 hv;refine⟨.back ops pl bf _ os wW items jN pend k K _ _ rest hf' hc hd h hos ?_ S4,by simp[pk,hk],⟨_,_,rfl⟩,⟨_,_,rfl⟩⟩;intro j hj hDj hrj;have hDj:(g.D j||j==i)=false:=hDj;rw[Bool.or_eq_false_iff]at hDj;have cp:j≠i:=by simpa using hDj.2
  have hj:hasB (Fp g.L i) j=true:=hj;rw[FG,Bool.or_eq_true,decide_eq_true_eq]at hj;have hjL:=hj.resolve_right (fun e=>cp e.symm);rcases JW j hjL hrj with h|h
  ·have:=Iu j (S.Km j hjL) h;rw[hDj.1]at this;cases this
  ·exact h
 |rf key l k K tm tmps ay6 h ht'=>
  subst ht hT;simp only[cT,hk,dS]at hf;subst hf;have e:fr.finish v={fr with todo:=.endRangeFunc l.c ::K}:=by simp[Frame.finish,hK]
  rw[e];exact⟨.plain _ _ _ _ (.cons _ _ _ _ (.endRF _ _ _ ay6 rfl) h) ht',by simp[pk,hk],⟨_,_,rfl⟩,⟨_,_,rfl⟩⟩
def akr(tmps:Array Value):ResultVar→Sem Value
 |.tmp t=>pure (tmps.getD t undef)
 |.cell a t=>do loadVar t (←asAddr (tmps.getD a undef))
theorem DD(hM:bB P ρ w0 μ G nx.toNat w)(hH:HSub H G){tm:T AV}{tmps:Array Value}(hT:lB ρ μ nt tm tmps):∀{rs:List ResultVar} {res:List RV} {l:List AV},UT P nt rs=some res→resultsA H tm res=some l→
  ∃vs,(rs.mapM (akr tmps)).run P w=.ok vs w∧ax ρ μ l vs
 | [],res,l,hp,hr=>by simp only[UT,dS]at hp;subst hp;simp only[resultsA,dS]at hr;subst hr;exact⟨[],by simp[wY],.nil⟩
 |.tmp t ::rs,res,l,hp,hr=>by
  simp only[UT]at hp;split at hp
  ·rename_i k r hk hrs;cases hp;simp only[resultsA]at hr;split at hr
   ·rename_i a l' ha Rx;cases hr;obtain⟨vs,h1,h2⟩:=DD hM hH hT hrs Rx;obtain⟨v,hv,hvr⟩:=hT.2 _ _ ha;rw[(qq hk).1]at hv;refine⟨v ::vs,?_,.cons _ _ _ _ hvr h2⟩;have hg:tmps.getD t undef=v:=by simp[Array.getD_eq_getD_getElem?,hv]
    rw[List.mapM_cons];simp only[akr,sN,wY,pY,hg,h1]
   ·cases hr
  ·cases hp
 |.cell a t ::rs,res,l,hp,hr=>by
  simp only[UT]at hp;split at hp
  ·rename_i k i r hk hi hrs;cases hp;simp only[resultsA]at hr;split at hr
   ·rename_i b off l' ha Rx;split at hr
    ·rename_i x hx;cases hr;obtain⟨vs,h1,h2⟩:=DD hM hH hT hrs Rx;obtain⟨v,hv,hvr⟩:=hT.2 _ _ ha;rw[(qq hk).1]at hv;have hg:tmps.getD a undef=v:=by simp[Array.getD_eq_getD_getElem?,hv]
     cases hvr with|ptr _ _ lc ad C8 rk=>
     subst rk;simp only[loadB]at hx;split at hx
     ·rename_i L ck hL;obtain⟨ii,d,z,e1,e2,e3,e4,e5,e6⟩:=lf hi;rw[e5,e6]at hx;obtain⟨u,hu,hur⟩:=IW hM (hH _ _ hL) e1 e2 hx C8;refine⟨u ::vs,?_,.cons _ _ _ _ hur h2⟩;rw[List.mapM_cons];simp only[akr,sN,wY,pY,hg,asAddr,hu,h1]
     ·cases hx
    ·cases hr
   ·cases hr
  ·cases hp
def Mf(vs:List Value):Value:=if h:vs.toArray.size=1 then vs.toArray[0]else .tuple vs.toArray
theorem aew{l:List AV}{vs:List Value}(h:ax ρ μ l vs):aU ρ μ (o5 l) (Mf vs):=by
 cases h with
 |nil=>exact .tuple _ _ .nil
 |cons a l v vs h h'=>
  cases h' with
  |nil=>exact h
  |cons b l v2 vs h5 h6=>
   have:Mf (v ::v2 ::vs)=.tuple (v ::v2 ::vs).toArray:=by simp[Mf]
   rw[this];exact .tuple _ _ (.cons _ _ _ _ h (.cons _ _ _ _ h5 h6))
theorem Vu(hM:bB P ρ w0 μ G nx.toNat w)(hH:HSub H G){tm:T AV}{tmps:Array Value}(hT:lB ρ μ nt tm tmps){fn:Func}{res:List RV}{l:List AV}(hp:UT P nt fn.results.toList=some res)(hr:resultsA H tm res=some l) :
  ∃vs,(results fn tmps).run P w=.ok (Mf vs) w∧ax ρ μ l vs:=by
 obtain⟨vs,h1,h2⟩:=DD hM hH hT hp hr;have aMk:results fn tmps=(do
   let vs ←fn.results.mapM (akr tmps)
   pure (if h:vs.size=1 then vs[0]else .tuple vs)):=by
  unfold results;congr 1
 refine⟨vs,?_,h2⟩;have hm:fn.results.mapM (akr tmps)=Functor.map List.toArray (fn.results.toList.mapM (akr tmps)):=by rw[←List.mapM_toArray]
 rw[aMk,hm];simp only[map_eq_pure_bind,bind_assoc,pure_bind,sN,h1,pY,wY];rfl
end
def Good(P:Program)(ρ:Nat→Int)(C:bH)(w0:W0)(μ0:Mu)(rest:List Frame)(m:Machine):SR→Prop
 |.next am'=>∃fY xJ w',Steps P m (lone fY (xJ++rest) w')∧A8 P ρ C.orc w0 μ0 am' fY xJ w'
 |.done f v h nx=>∃fY w' μ G u,Steps P m (lone fY rest w')∧fY.fn=f∧fY.leaving P w' (.returned u)∧aU ρ μ v u∧μ0.le μ∧bB P ρ w0 μ G nx.toNat w'∧HSub h G
 |.alt am1 am2=>(∃fY xJ w',Steps P m (lone fY (xJ++rest) w')∧A8 P ρ C.orc w0 μ0 am1 fY xJ w')∨∃fY xJ w',Steps P m (lone fY (xJ++rest) w')∧A8 P ρ C.orc w0 μ0 am2 fY xJ w'
 |_=>True
section
variable{P:Program}{ρ:Nat→Int}{C:bH}{nt:Nat}{w0:W0}{w:World}{μ0 μ:Mu}{G:Key→Option ai}{H:T ai}{nx:Key}{rest cs:List Frame}{fr:Frame}{af:nG}{ku:List nG}{K:List Item}{k:List db}
theorem Good.steps{m m':Machine}{r:SR}(h:Steps P m m')(g:Good P ρ C w0 μ0 rest m' r):Good P ρ C w0 μ0 rest m r:=by
 cases r with
 |next am'=>obtain⟨fY,xJ,w',h1,h2⟩:=g;exact⟨fY,xJ,w',h.trans h1,h2⟩
 |done f v hh nx=>obtain⟨fY,w',μ,G,u,h1,h2⟩:=g;exact⟨fY,w',μ,G,u,h.trans h1,h2⟩
 |pan v hh nx=>trivial
 |bad n m=>trivial
 |alt m1 m2=>
  rcases g with⟨fY,xJ,w',h1,h2⟩|⟨fY,xJ,w',h1,h2⟩
  ·exact .inl ⟨fY,xJ,w',h.trans h1,h2⟩
  ·exact .inr ⟨fY,xJ,w',h.trans h1,h2⟩
theorem BG.todo(h:BG P ρ μ nt af fr)(t:T AV)(k:List db)(T:Array Value)(K:List Item):BG P ρ μ nt {af with tm:=t,todo:=k} {fr with tmps:=T,todo:=K}:=
 ⟨h.fn,h.fnr,h.dfs,h.kind,h.uW,h.rd⟩
theorem ak2{af:nG}(h:oe P μ nt af.todo K):pk af=[]:=by
 unfold pk;split
 ·rename_i i d p k' e;rw[e]at h;cases h with|cons _ _ _ _ h _=>cases h
 ·rfl
theorem atM:∀{ku:List nG} {cs:List Frame},dV P ρ C.orc μ G H nx ku cs→∀x∈bJ ku,x<nx.toNat
 | [],[],_,x,hx=>by cases hx
 | [],_ ::_,h,_,_=>h.elim
 |_ ::_,[],h,_,_=>h.elim
 |a ::ku,f ::cs,h,x,hx=>by
  simp only[bJ,List.mem_append]at hx;rcases hx with hx|hx
  ·cases h.1 with
   |wait nt hb h1 h2 h=>
    unfold pk at hx;split at hx
    ·rename_i i d p k' e;rw[e]at h;generalize f.todo=KK at h;generalize f.tmps=TT at h;generalize a.tm=tt at h;cases h with
     |staged ops pl bf g i po ad os wW items jN pend k K tm tmps rest uX hf hc hL Wv hd h hos JW S=>obtain⟨y,hy,e⟩:=M4.1 hx;rw[←e];exact(S.pe y hy).2.2.2.2
    ·cases hx
   |unw h hm=>
    cases h with
    |run nt hb h1=>exact absurd h1 hm
    |ret nt hb h1 h2 h3 h=>unfold pk at hx;rcases h3 with h3|⟨k,h3⟩<;>rw[h3]at hx<;>cases hx
    |pan nt hb v u r h1 h2 hv h3 h=>unfold pk at hx;rw[h3]at hx;cases hx
  ·exact atM h.2 x hx
theorem dV.kept{μ':Mu}{G':Key→Option ai}{H':T ai}{nx':Key}(hm:μ.le μ')(hk:Kept H H' nx nx' μ μ' G G')(h:dV P ρ C.orc μ G H nx ku cs):dV P ρ C.orc μ' G' H' nx' ku cs:=
 h.keep hm hk.n fun b _ hg hl=>⟨hk.m b hl,hk.g b hg hl,hk.h b hg hl⟩
theorem dV.atN{E:List Nat}{μ':Mu}{G':Key→Option ai}{H':T ai}{nx':Key}(hm:μ.le μ')(hk:DG E H H' nx nx' μ μ' G G')(hE:∀x∈E,x∉bJ ku)(h:dV P ρ C.orc μ G H nx ku cs):dV P ρ C.orc μ' G' H' nx' ku cs:=
 h.keep hm hk.n fun b hb hg hl=>hk.k b (fun he=>hE _ he hb) hg hl
theorem tN(h0:μ0.le μ)(hM:bB P ρ w0 μ G nx.toNat w)(hH:HSub H G)(hb:BG P ρ μ nt af fr)(h1:af.mode=.run)(h2:fr.mode=.run)(hk:oe P μ nt af.todo fr.todo)(hT:lB ρ μ nt af.tm fr.tmps)
  (hS:dV P ρ C.orc μ G H nx ku cs) (hn:(bJ ku).Nodup):A8 P ρ C.orc w0 μ0 ⟨af,ku,H,nx⟩ fr cs w:=
 ⟨μ,G,h0,hM,hH,.run nt hb h1 h2 (.plain _ _ _ _ hk hT),hS,by simp[bJ,ak2 hk,hn]⟩
theorem Sus.finish{c c':nG}{cf:Frame}(h:Sus P ρ C.orc μ G H nx c cf){a:AV}{v:Value}(hv:aU ρ μ a v)(hf:cT a c=some c'):Cur P ρ C.orc μ G H nx c' (cf.finish v)∧pk c'=pk c:=by
 cases h with
 |wait nt hb h1 h2 h=>obtain⟨h3,h4,⟨cE,k2,h5⟩,⟨T2,K2,h6⟩⟩:=h.finish rfl rfl rfl rfl hv hf;refine⟨?_,h4⟩;rw[h6]at h3 ⊢;subst h5;exact .run nt (hb.todo _ _ _ _) h1 h2 h3
 |unw h hm=>
  cases h with
  |run nt hb h1=>exact absurd h1 hm
  |ret nt hb h1 h2 h3 h=>rcases h3 with h3|⟨k,h3⟩<;>simp[cT,h3]at hf
  |pan nt hb v u r h1 h2 hv h3 h=>simp[cT,h3]at hf
noncomputable def cq(raw:Bool)(l:List AV)(H:T ai):List AV×T ai:=bif raw then(l,H)else aY (aO 9999) l H
theorem yc{R:Type}(raw:Bool)(l:List AV)(H:T ai)(c:List AV→T ai→R):ak3 raw l H c=c (cq raw l H).1 (cq raw l H).2:=by
 cases raw
 ·show K1 (QB 9999) l H c=_;rw[xK (FC 9999)];rfl
 ·rfl
theorem K4(raw:Bool)(hM:bB P ρ w0 μ G nx.toNat w)(hH:HSub H G){l:List AV}{us:List Value}(h:ax ρ μ l us):∃μ' G',iN P ρ w0 w nx μ G H μ' G' (cq raw l H).2∧ax ρ μ' (cq raw l H).1 us:=by
 cases raw
 ·exact qy (CV 9999) l us μ G H hM hH h
 ·exact⟨μ,G,iN.refl hM hH,h⟩
theorem FD(X:Ctx P ρ w0 C)(f:Nat)(args:List AV)(FE:Bool)(bad:SR)(c:nG→SR):FF C f args FE bad c=bad∨
  ∃p,IS P f=some p∧FF C f args FE bad c=c {fn:=f,tm:=iG args .z .nil,todo:=[.code p.body],dfs:=[],mode:=.run,FE,uW:=none,res:=p.res}:=by
 unfold FF;split
 ·rename_i p hp;exact .inr ⟨p,X.fns f p hp,by rw[CW]⟩
 ·exact .inl rfl
theorem aiP{l:Nat}{L:Loop}{args:Array Value}(h:w.heap[l]?=some (.loop L))(hs:args.size=L.params.size) :
  (Instr.yield l args).run P w=.ok (.round l L.fn ((L.params.zip args).foldl (fun tmps (x:Nat×Value)=>tmps.setIfInBounds x.1 x.2) L.tmps) L.assign L.body) w:=by
 simp[Instr.yield,Instr.getLoop,getObj,Sem.run,h,hs]
theorem K5(hM:bB P ρ w0 μ G nx.toNat w){b:Key}{st:LS}{pd:Option aK}{fn:Nat}{tm:T AV}{res:List RV}{params:List Key}{as bd:aK}{dfs:Key}(hb:G b=some (.loop st pd fn tm res params as bd dfs)) :
  ∃l L nt ld,μ b=some l∧w.heap[l.c]?=some (.loop L)∧agW st L.state∧(∀n,Ww P n pd L.pending)∧L.fn=fn∧lB ρ μ nt tm L.tmps∧XE params L.params.toList∧(∀k∈params,k.toNat<nt)∧ak4 P nt as L.assign∧ak4 P nt bd L.body∧μ dfs=some ld∧L.defers=ld.c∧ak5 P fn nt res:=by
 obtain⟨l,o,h1,h2,h3⟩:=hM.wa b _ hb;cases h3 with
 |loop st pd fn nt tm res params as bd dfs ld l L e1 e2 e3 e4 e5 e5' e6 e7 e8 e9 e10=>exact⟨l,L,nt,ld,h1,h2,e1,e2,e3,e4,e5,e5',e6,e7,e8,e9,e10⟩
theorem Q5(X:Ctx P ρ w0 C){ops:Array Oper}{i:Nat}{lW:List Nat}{o:Oper}{po:ay}{r:OR}{cE:T AV}(h0:μ0.le μ)(hM:bB P ρ w0 μ G nx.toNat w)(hH:HSub H G)(hb:BG P ρ μ nt af fr)(h1:af.mode=.run)(hm:fr.mode=.run)
  (ht:fr.todo=.inRegion ops (i ::lW) ::K) (ho:ops[i]?=some o) (XG:Oh P nt ops o=some po) (hw:Region.wanted o (yielded ops fr.tmps)=true)
  (hE:BH P ρ μ nt o.op.operands.toList af.tm fr.eval) (ha:aOp C.orc po.op af.tm H nx=r) (hr:¬CX r)
  (hW:K6 P ρ C.orc μ G H nx nt af.todo af.tm fr.todo fr.tmps) (hS:dV P ρ C.orc μ G H nx ku cs) (hn:(bJ (af ::ku)).Nodup) (hT2:lB ρ μ nt cE fr.tmps) :
  Good P ρ C w0 μ0 rest (lone fr (cs++rest) w) (jO C r af {af with tm:=cE,todo:=[]} ku H nx):=by
 obtain⟨pE,XH,CY⟩:=jv XG;have ak6:Sus P ρ C.orc μ G H nx af fr:=.wait nt hb h1 hm hW;have Z2:(bJ ku).Nodup:=(List.nodup_append.1 hn).2.1;cases r with
 |val a H' nx'=>exact absurd (qV _ _ _) hr
 |bad n=>exact absurd (du _) hr
 |call f l=>
  have QD:fr.roundOf=none∨fV o.op=false:=.inr (BI pE (by rw[ha];intro f l e;cases e) (by rw[ha];intro n e;cases e));simp only[jO,yc];have key : ∀ {fn : Func}, P.funcs[f]? = some fn → fn.body.isSome = true → fn.name ≠ "runtime.NumGoroutine" → ∃ args μ1 G1, step P (lone fr (cs ++ rest) w) = .next (lone (Frame.enter P f args .normal) (fr :: cs ++ rest) w) ∧
    iN P ρ w0 w nx μ G H μ1 G1 (cq (C.raw f) l H).2∧ax ρ μ1 (cq (C.raw f) l H).1 args.toList:=by
   intro fn f1 f2 f3;obtain⟨args,q1,q2⟩:=adO (w:=w) pE hE ha f1 f2 f3;obtain⟨μ1,G1,x1,x2⟩:=K4 (C.raw f) hM hH q2;exact⟨args,μ1,G1,ak7 (P:=P) (cs:=cs++rest) hm ht ho hw QD q1,x1,x2⟩
  generalize cq (C.raw f) l H=lh at key;obtain⟨l1,H1⟩:=lh;simp only at key ⊢;split
  ·rename_i v H2 aZ adP;split
   ·rename_i af' hf;have hso:=X.sum f l1 H1 nx v H2 aZ adP;obtain⟨fn,f1,f2,f3⟩:=X.has f l1 H1 nx _ adP;obtain⟨args,μ1,G1,fy,x1,x2⟩:=key f1 f2 f3;obtain⟨e,w',fY,⟨u,μ',G',rfl,y2,y3,y4,y5,y6⟩,avR,hfn,avS⟩:=hso args w μ1 G1 x1.M x1.hs x2 (fr ::cs++rest);have hS1:dV P ρ C.orc μ1 G1 H1 nx (af ::ku) (fr ::cs):=dV.kept x1.le x1.kept ⟨ak6,hS⟩;have hS2:dV P ρ C.orc μ' G' H2 aZ (af ::ku) (fr ::cs):=dV.kept y3 y6 hS1;obtain⟨Z3,hpk⟩:=hS2.1.finish y2 hf;refine⟨_,cs,w',Steps.trans (.head fy avR) (.one (step_leave_returned avS)),μ',G',Mu.le_trans h0 (Mu.le_trans x1.le y3),y4,y5,Z3,hS2.2,?_⟩;show(bJ (af' ::ku)).Nodup;simp only[bJ,hpk]at hn ⊢;exact hn
   ·trivial
  ·rcases FD X f l1 false (.bad 40 ⟨af,ku,H1,nx⟩) (fun fY=>.next ⟨fY,af ::ku,H1,nx⟩)with e|⟨p,hp,e⟩
   ·rw[e];trivial
   ·rw[e];obtain⟨fn,c,f1,f2,f3,f4,f5⟩:=uY hp;obtain⟨args,μ1,G1,fy,x1,x2⟩:=key f1 (by rw[f2];rfl) f3;refine⟨_,fr ::cs,w,.one fy,μ1,G1,Mu.le_trans h0 x1.le,x1.M,x1.hs,xX hp x2 false,dV.kept x1.le x1.kept ⟨ak6,hS⟩,?_⟩;show(bJ (_ ::af ::ku)).Nodup;simp only[bJ,pk,List.nil_append];exact hn
 |yld key l=>
  have QD:fr.roundOf=none∨fV o.op=false:=.inr (BI pE (by rw[ha];intro f l e;cases e) (by rw[ha];intro n e;cases e));simp only[jO];split
  ·rename_i st pd fn tm res params as bd dfs hk;rcases Wx params l tm (SR.bad 41 ⟨af,ku,H,nx⟩) (fun tm=>.next ⟨{fn,tm,todo:=[.code as,.beginRound,.code bd],dfs:=[],mode:=.run,FE:=false,uW:=some key,res},af ::ku,H,nx⟩)with e|⟨hlen,e⟩
   ·rw[e];trivial
   ·rw[e];obtain⟨args,lc,q1,q2,q3⟩:=aiQ (w:=w) pE hE ha;obtain⟨lc',L,ntl,ld,e0,XI,e1,e2,e3,e4,e5,e5',e6,e7,e8,e9,e10⟩:=K5 hM (hH _ _ hk);rw[q1]at e0;cases e0;have xL:args.size=L.params.size:=by
     have a1:=q3.length;have a2:(params.map Key.toNat).length=L.params.toList.length:=by rw[e5]
     simp at a1 a2;omega
    rw[aiP XI xL]at q2;have fy:=ak8 (P:=P) (cs:=cs++rest) hm ht ho hw QD q2;refine⟨_,fr ::cs,w,.one fy,μ,G,h0,hM,hH,?_,⟨ak6,hS⟩,?_⟩
    ·refine .run ntl ⟨e3,e10,trivial,rfl,⟨_,q1,rfl⟩,fun _=>rfl⟩ rfl rfl (.plain _ _ _ _ (.cons _ _ _ _ (.code _ _ e6) (.cons _ _ _ _ .beginRound (.cons _ _ _ _ (.code _ _ e7) .nil))) ?_);have:=Z4 (ks:=params) e5' hlen q3 e4;have hl:(L.params.zip args).foldl (fun tmps (x:Nat×Value)=>tmps.setIfInBounds x.1 x.2) L.tmps=((params.map Key.toNat).zip args.toList).foldl (fun tmps (x:Nat×Value)=>tmps.setIfInBounds x.1 x.2) L.tmps:=by rw[e5,←Array.foldl_toList,Array.toList_zip]
     show lB ρ μ ntl (aqF params l tm) ((L.params.zip args).foldl (fun tmps (x:Nat×Value)=>tmps.setIfInBounds x.1 x.2) L.tmps);rw[hl];exact this
    ·show(bJ (_ ::af ::ku)).Nodup;simp only[bJ,pk,List.nil_append];exact hn
  ·trivial
 |pan a=>
  have QD:fr.roundOf=none∨fV o.op=false:=.inr (BI pE (by rw[ha];intro f l e;cases e) (by rw[ha];intro n e;cases e));obtain⟨v,q1,q2⟩:=aiR (w:=w) pE hE ha;have fy:=ak9 (P:=P) (cs:=cs++rest) hm ht ho hw QD q1;refine⟨_,cs,w,.one fy,μ,G,h0,hM,hH,?_,hS,?_⟩
  ·exact .pan nt ⟨hb.fn,hb.fnr,hb.dfs,hb.kind,hb.uW,hb.rd⟩ a v false rfl rfl q2 rfl hT2
  ·show(bJ (_ ::ku)).Nodup;simp only[bJ,pk,List.nil_append];exact Z2
 |dfr f l=>
  simp only[jO];split
  ·rename_i hrn;split
   ·rename_i af' hf;obtain⟨c,ws,vs,q0,q1,q2,q3⟩:=aiS (w:=w) pE hE ha;have K7:fr.roundOf=none:=by
     have:=hb.uW;rw[hrn]at this;cases hh:fr.roundOf with
     |none=>rfl
     |some x=>rw[hh]at this;exact this.elim
    have fy:=ala (P:=P) (cs:=cs++rest) hm ht ho hw (.inl K7) q2;obtain⟨h3,h4,⟨t2,k2,h5⟩,⟨T2,K2,h6⟩⟩:=hW.finish (fr:=fr) rfl rfl rfl rfl (aU.tuple (ρ:=ρ) (μ:=μ) [] #[] .nil) hf;have Pz:({fr with defers:=⟨.fn (.func f) ws,vs⟩ ::fr.defers}:Frame).finish undef={fr with defers:=⟨.fn (.func f) ws,vs⟩ ::fr.defers,tmps:=T2,todo:=K2}:=by have hf1:=cH ht ho undef;have hf2:=cH (fr:={fr with defers:=⟨.fn (.func f) ws,vs⟩ ::fr.defers}) ht ho undef;rw[hf2];have h6:fr.finish undef={fr with tmps:=T2,todo:=K2}:=h6;rw[hf1]at h6;have e1:=congrArg Frame.tmps h6;have e2:=congrArg Frame.todo h6;simp only at e1 e2;rw[e1,e2]
    rw[Pz]at fy;have h3:Z5 P ρ C.orc μ G H nx nt af'.todo af'.tm (fr.finish undef).todo (fr.finish undef).tmps:=h3;have h6:fr.finish undef={fr with tmps:=T2,todo:=K2}:=h6;rw[h6]at h3;refine⟨_,cs,w,.one fy,μ,G,h0,hM,hH,?_,hS,?_⟩
    ·subst h5;exact .run nt ⟨hb.fn,hb.fnr,⟨⟨ws,rfl,q3⟩,hb.dfs⟩,hb.kind,hb.uW,hb.rd⟩ h1 hm h3
    ·have:pk {af' with dfs:=XJ.fn f l ::af'.dfs}=pk af:=by rw[←h4];rfl
     show(bJ (_ ::ku)).Nodup;simp only[bJ,this];exact hn
   ·trivial
  ·trivial
 |recover=>
  simp only[jO];split
  ·rename_i c aA7 hrn hdf;have K7:fr.roundOf=none:=by
    have:=hb.uW;rw[hrn]at this;cases hh:fr.roundOf with
    |none=>rfl
    |some x=>rw[hh]at this;exact this.elim
   have hkd:fr.kind=.deferred:=by rw[hb.kind,hdf];rfl
   have q1:=UU (P:=P) (w:=w) (ev:=fr.eval) pE ha;cases cs with
   |nil=>exact hS.elim
   |cons cf xJ=>
   split
   ·rename_i v K8;split
    ·rename_i af' hf;cases hS.1 with
     |wait QE gA qR=>rw[qR]at K8;cases K8
     |unw UW cp=>
      cases UW with
      |run QE gA qR=>rw[qR]at K8;cases K8
      |ret QE gA qR=>rw[qR]at K8;cases K8
      |pan QE gA v' u r' qR DF XK Py hT'=>
       rw[qR]at K8;simp only[alb.pan.injEq]at K8;obtain⟨rfl,rfl⟩:=K8;have adQ:tryRecover fr (cf ::(xJ++rest))=some (u,{cf with mode:=.panicking [{v:=u,recovered:=true}]} ::(xJ++rest)):=by simp[tryRecover,hkd,DF]
       have fy:=PA (P:=P) (cs:=cf ::(xJ++rest)) hm ht ho hw K7 q1 adQ;obtain⟨Z3,hpk⟩:=ak6.finish XK hf;refine⟨_,{cf with mode:=.panicking [{v:=u,recovered:=true}]} ::xJ,w,.one fy,μ,G,h0,hM,hH,Z3,⟨.unw (.pan QE ⟨gA.fn,gA.fnr,gA.dfs,gA.kind,gA.uW,gA.rd⟩ v' u true rfl rfl XK Py hT') (by intro e;cases e),hS.2⟩,?_⟩;show(bJ (_ ::_ ::aA7)).Nodup;simp only[bJ,hpk]at hn ⊢;exact hn
    ·trivial
   ·rename_i K8;split
    ·rename_i af' hf;cases hS.1 with
     |wait QE gA qR=>rw[qR]at K8;cases K8
     |unw UW cp=>
      have adQ:tryRecover fr (cf ::(xJ++rest))=none:=by
       cases UW with
       |run QE gA qR=>rw[qR]at K8;cases K8
       |ret QE gA qR DF=>simp[tryRecover,hkd,DF]
       |pan QE gA v' u r' qR=>rw[qR]at K8;cases K8
      have fy:=PB (P:=P) (cs:=cf ::(xJ++rest)) hm ht ho hw K7 q1 adQ;obtain⟨Z3,hpk⟩:=ak6.finish (.nili) hf;refine⟨_,cf ::xJ,w,.one fy,μ,G,h0,hM,hH,Z3,hS,?_⟩;show(bJ (_ ::_ ::aA7)).Nodup;simp only[bJ,hpk]at hn ⊢;exact hn
    ·trivial
   ·trivial
  ·trivial
theorem alc(X:Ctx P ρ w0 C){l:List ay}(h0:μ0.le μ)(hM:bB P ρ w0 μ G nx.toNat w)(hH:HSub H G)(hb:BG P ρ μ nt af fr)(h1:af.mode=.run)(hm:fr.mode=.run)
  {ops:Array Oper} {rs:List Nat} (hp:mJ P nt ops rs=some l) (ht:fr.todo=.inRegion ops rs ::K) (hk:oe P μ nt k K) (hT:lB ρ μ nt af.tm fr.tmps) (hS:dV P ρ C.orc μ G H nx ku cs) (hn:(bJ ku).Nodup) :
  Good P ρ C w0 μ0 rest (lone fr (cs++rest) w) (match lE C.orc l af.tm H nx with
   |.fin tm h nx=>.next ⟨{af with tm,todo:=k},ku,h,nx⟩
   |.ev r rest tm h nx=>jO C r {af with tm,todo:=.ops rest ::k} {af with tm,todo:=[]} ku h nx):=by
 have key:=K9 (P:=P) (ρ:=ρ) (orc:=C.orc) (nt:=nt) (w0:=w0) (cs:=cs++rest) (K:=K) (ops:=ops) X.orc l rs fr w μ G H nx af.tm hp hM hH hT hm ht;cases JV:lE C.orc l af.tm H nx with
 |fin aA h' nx'=>rw[JV]at key;obtain⟨dZ,w',μ',G',s1,s2,s3,s4,s5,s6⟩:=key;exact⟨_,cs,w',s1,tN (Mu.le_trans h0 s2) s3 s4 ((hb.mono s2).todo _ _ _ _) h1 hm (hk.mono s2) s5 (hS.kept s2 s6) hn⟩
 |ev r l' aA h' nx'=>
  rw[JV]at key;rcases key with⟨n,rfl⟩|⟨dZ,w',μ',G',i,lW,po,ll,o,s1,s2,s3,s4,s5,s6,rfl,s8,s9,s10,s11,s12,s13⟩
  ·trivial
  ·have hE:=HQ (P:=P) (nt:=nt) (ops:=ops) (o:=o) (fr:={fr with tmps:=dZ,todo:=.inRegion ops (i ::lW) ::K}) s3 (fun k a _ hg=>s5.2 k a hg);refine Good.steps s1 ?_;have hpk:(bJ ({af with tm:=aA,todo:=.ops (po ::ll) ::k} ::ku)).Nodup:=by simp only[bJ,pk,List.nil_append];exact hn
   exact Q5 (fr:={fr with tmps:=dZ,todo:=.inRegion ops (i ::lW) ::K}) (af:={af with tm:=aA,todo:=.ops (po ::ll) ::k}) X (Mu.le_trans h0 s2) s3 s4 ((hb.mono s2).todo _ _ _ _) h1 hm rfl s9 s10 s11 hE s12 s13
    (.ops po ll ops i lW k K aA dZ s8 (hk.mono s2) s5) (hS.kept s2 s6) hpk s5
theorem Oj(X:Ctx P ρ w0 C){ops:Array Oper}{pl:List ay}{bf:List Nat}{g:Gh}{wW:List IIt}{items:List aH}{jN:SD}{pend:List (Nat×Key×ai)}{rs:List Nat}(h0:μ0.le μ)(hM:bB P ρ w0 μ G nx.toNat w)(hH:HSub H G)(hb:BG P ρ μ nt af fr)(h1:af.mode=.run)(hm:fr.mode=.run)
  (hf:wW.mapM (Fo pl)=some items) (hc:A7 ops pl bf g.L wW=true) (hd:M5 ops jN.ds∧BE bf jN.ke=true) (ht:fr.todo=.inRegion ops rs ::K) (hk:oe P μ nt k K)
  (S:ic P ρ C.orc nt ops pl bf μ G H nx g (fun _=>False) pend af.tm fr.tmps rs) (hS:dV P ρ C.orc μ G H nx ku cs) (hn:(qW pend++bJ ku).Nodup) :
  Good P ρ C w0 μ0 rest (lone fr (cs++rest) w) (match jg C.orc jN.ke items pend af.tm H nx with
   |.fin tm h nx=>.next ⟨{af with tm,todo:=k},ku,h,nx⟩
   |.ev r rest pend tm h nx=>JX jN.ds tm fun aA=>jO C r {af with tm,todo:=.staged rest jN pend ::k} {af with tm:=aA,todo:=[]} ku h nx):=by
 have key:=Z6 (P:=P) (ρ:=ρ) (orc:=C.orc) (nt:=nt) (w0:=w0) (cs:=cs++rest) (K:=K) (ops:=ops) (pl:=pl) (bf:=bf) hd.2 X.orc wW.length wW items rs g fr w μ G H nx af.tm pend (gi _) hf hc hM hH S hm ht;have avV:∀x∈qW pend,x∉bJ ku:=fun x hx ZR=>(List.nodup_append.1 hn).2.2 x hx x ZR rfl;have Z2:=(List.nodup_append.1 hn).2.1;cases JV:jg C.orc jN.ke items pend af.tm H nx with
 |fin aA h' nx'=>rw[JV]at key;obtain⟨dZ,w',μ',G',s1,s2,s3,s4,s5,s6⟩:=key;exact⟨_,cs,w',s1,tN (Mu.le_trans h0 s2) s3 s4 ((hb.mono s2).todo _ _ _ _) h1 hm (hk.mono s2) s5 (hS.atN s2 s6 avV) Z2⟩
 |ev r JY pend' aA h' nx'=>
  rw[JV]at key;simp only[qz];rcases key with⟨n,rfl⟩|⟨dZ,w',μ',G',g',i,po,o,ad,os,UX,mM,lW,s1,s2,s3,s4,rfl,s6,s7,s8,s9,s10,s11,s12,S',s14,s15,s16,s17,s18,s19,s20⟩
  ·trivial
  ·have hsl:=S'.Q6 s9 s10 s14;have hE:=HQ (P:=P) (nt:=nt) (ops:=ops) (o:=o) (fr:={fr with tmps:=dZ,todo:=.inRegion ops (i ::lW) ::K}) s3 hsl;refine Good.steps s1 ?_;have hpk:(bJ ({af with tm:=aA,todo:=.staged (.H i po ad ::.R os ::mM) jN pend' ::k} ::ku)).Nodup:=by
    simp only[bJ,pk];refine List.nodup_append.2 ⟨S'.nk,Z2,?_⟩;rintro x hx y hy rfl;rcases s20 x hx with h|h
    ·exact avV x h hy
    ·exact absurd (atM hS x hy) (by omega)
   exact Q5 (fr:={fr with tmps:=dZ,todo:=.inRegion ops (i ::lW) ::K}) (af:={af with tm:=aA,todo:=.staged (.H i po ad ::.R os ::mM) jN pend' ::k}) X (Mu.le_trans h0 s2) s3 s4 ((hb.mono s2).todo _ _ _ _) h1 hm rfl s14 s15 s16 hE s17 s18
    (.staged ops pl bf g' i po ad os UX mM jN pend' k K aA dZ lW s6 s7 s8 s9 s10 hd (hk.mono s2) s11 s12 S') (hS.atN s2 s19 avV) hpk (S'.erase hd.1)
end
section
variable{P:Program}{nt:Nat}{ops:Array Oper}
theorem akD{pl:List ay}{x:IIt}{y:aH}(h:Fo pl x=some y):iOf y=x:=by
 cases x with
 |L i=>obtain⟨a,_,rfl⟩:=map_some h;rfl
 |A i=>obtain⟨a,_,rfl⟩:=map_some h;rfl
 |H i l=>obtain⟨a,_,rfl⟩:=map_some h;rfl
 |R os=>
  obtain⟨l,hl,rfl⟩:=map_some h;show IIt.R (l.map (·.1))=IIt.R os;congr 1
  induction os generalizing l with
  |nil=>simp at hl;subst hl;rfl
  |cons i os ih=>obtain⟨b,r,e1,e2,rfl⟩:=j8 hl;obtain⟨o,_,rfl⟩:=map_some e1;simp[ih r e2 (by simp[Fo,e2])]
theorem adm{pl:List ay}:∀{wW:List IIt} {items:List aH},wW.mapM (Fo pl)=some items→items.map iOf=wW
 | [],items,h=>by simp at h;subst h;rfl
 |x ::wW,items,h=>by obtain⟨y,r,e1,e2,rfl⟩:=j8 h;simp[akD e1,adm e2]
theorem UC:∀{pl:List ay} {po:ay} {d:Key},po∈pl→po.dst=some d→d∈dstsOf pl
 | [],_,_,h,_=>by cases h
 |o ::l,po,d,h,hd=>by
  rcases CR.1 h with e|e
  ·subst e;simp[dstsOf,hd]
  ·have:=UC e hd;simp only[dstsOf];split
   ·exact List.mem_cons_of_mem _ this
   ·exact this
theorem Wq{pc:aK}(h:KZ P nt ops false=some pc):∃l,mJ P nt ops (List.range ops.size)=some l∧pc=.ops l:=by
 unfold KZ at h;split at h
 ·cases h
 ·rename_i l hl;simp only[cond_false,dS]at h;exact⟨l,hl,h.symm⟩
def apU(P:Program)(nt:Nat)(ops:Array Oper)(bf:List Nat)(items:List aH)(d:SD):Prop:=∃pl wW ke,d=⟨dstsOf pl,ke⟩∧Reg P nt ops pl bf∧wW.mapM (Fo pl)=some items∧A7 ops pl bf 0 wW=true∧M5 ops (dstsOf pl)∧BE bf ke=true
theorem KL{l:List ay}(hl:mJ P nt ops (List.range ops.size)=some l){bf hs:List Nat}{items:List aH}{d:SD}(h:KY ops l bf hs=some (items,d)):apU P nt ops bf items d:=by
 unfold KY at h;simp only at h;split at h
 ·rename_i st fy;split at h
  ·rename_i st' atq;cases ym:(avP ops l bf (st'.map iOf)&&BE bf (HP (l.zip bf) (l.zip bf) 0))with
   |false=>rw[ym]at h;cases h
   |true=>
    rw[ym]at h;simp only[cond_true,dS,Prod.mk.injEq]at h;obtain⟨rfl,rfl⟩:=h;simp only[avP,kW]at ym;obtain⟨ym,adj⟩:=ym;have atA:Reg P nt ops l bf:=⟨hl,ym.1⟩;refine⟨l,st'.map iOf,_,rfl,atA,by rw[adm atq];exact atq,ym.2,?_,adj⟩;intro j t hj;obtain⟨o,po,ho,XG,aNl⟩:=atA.at (NU hj);obtain⟨_,_,hd⟩:=jv XG;have hjd:o.dst=some t:=by simpa[oY,ho]using hj
    rcases hd with⟨e,_⟩|⟨k,e1,e2,_⟩
    ·rw[e]at hjd;cases hjd
    ·rw[hjd]at e1;simp only[dS]at e1;exact⟨k,UC (List.mem_of_getElem? aNl) e2,e1.symm⟩
  ·cases h
 ·cases h
theorem ZN{pc:aK}(h:KZ P nt ops true=some pc):Edg ops (pW ops)∧((∃items d,pc=.staged items d∧apU P nt ops (pW ops) items d)∨
  ∃a b s1 d1 s2 d2,pc=.both s1 d1 s2 d2∧a<ops.size∧b<ops.size∧a≠b∧apU P nt ops (MX ops.size (pW ops) a b) s1 d1∧apU P nt ops (MX ops.size (pW ops) b a) s2 d2):=by
 unfold KZ at h;split at h
 ·cases h
 ·rename_i l hl;simp only[cond_true]at h;cases he:KX ops (pW ops)with
  |false=>rw[he]at h;cases h
  |true=>
   rw[he]at h;simp only[cond_true]at h;refine⟨⟨he⟩,?_⟩;split at h
   ·rename_i st d fy;simp only[dS]at h;exact .inl ⟨st,d,h.symm,KL hl fy⟩
   ·split at h
    ·rename_i a b hab;cases hc:(Nat.blt a ops.size&&Nat.blt b ops.size && !(Nat.beq a b))with
     |false=>rw[hc]at h;cases h
     |true=>
      rw[hc]at h;simp only[cond_true]at h;simp only[kW,bltN_eq,decide_eq_true_eq,Bool.not_eq_true',beqN_eq,decide_eq_false_iff_not]at hc;split at h
      ·rename_i s1 d1 s2 d2 h1 h2;simp only[dS]at h;exact .inr ⟨a,b,s1,d1,s2,d2,h.symm,hc.1.1,hc.1.2,hc.2,KL hl h1,KL hl h2⟩
      ·cases h
    ·cases h
end
section
variable{P:Program}{ρ:Nat→Int}{C:bH}{nt:Nat}{w0:W0}{w:World}{μ0 μ:Mu}{G:Key→Option ai}{H:T ai}{nx:Key}{rest cs:List Frame}{fr:Frame}{af:nG}{ku:List nG}{K:List Item}{k:List db}
theorem ic.init{ops:Array Oper}{pl:List ay}{bf:List Nat}(R:Reg P nt ops pl bf){tm:T AV}{tmps:Array Value}(hT:lB ρ μ nt tm tmps){rs:List Nat}(hv:sM ops.size bf (fun _=>false) rs) :
  ic P ρ C.orc nt ops pl bf μ G H nx {L:=0,D:=fun _=>false,a0:=fun k=>ag k tm,val:=fun _=>none} (fun _=>False) [] tm tmps rs:=by
 refine⟨R,hv,?_,?_,?_,?_,?_,?_,hT.1,?_,?_,?_,?_,?_,?_⟩
 ·intro i h;cases h
 ·intro i h;cases h
 ·intro i h;rw[show hasB 0 i=false from HU i]at h;cases h
 ·intro i h;rw[show hasB 0 i=false from HU i]at h;cases h
 ·intro k j h;rw[show hasB 0 j=false from HU j]at h;cases h
 ·intro k _;rfl
 ·intro k j a h;cases h
 ·intro k a _ h;exact hT.2 k a h
 ·intro i h;rw[show hasB 0 i=false from HU i]at h;cases h
 ·intro x h;cases h
 ·exact List.nodup_nil
 ·exact List.nodup_nil
theorem ZO(hM:bB P ρ w0 μ G nx.toNat w){x:Operand}{px:PX}{a:AV}(hp:pX P nt x=some px)(ha:px.at af.tm=some a)(hT:lB ρ μ nt af.tm fr.tmps):aU ρ μ a (fr.eval x):=
 aiI hM hp ha fun t k _ hk hg=>by rw[←hk];exact hT.2 k a hg
theorem Tj(hM:bB P ρ w0 μ G nx.toNat w)(hH:HSub H G){b:Key}{st st':LS}{pd pd':Option aK}{fn:Nat}{tm:T AV}{res:List RV}{params:List Key}{as bd:aK}{dfs:Key}(hb:ag b H=some (.loop st pd fn tm res params as bd dfs))
  {l:Loc} (hl:μ b=some l) {L:Loop} (hL:w.heap[l.c]?=some (.loop L)) {s:LoopState} {pc:Option Code} (hs:agW st' s) (hpd:(∀n,Ww P n pd L.pending)→∀n,Ww P n pd' pc) :
  let w':={w with heap:=w.heap.setIfInBounds l.c (.loop {L with state:=s,pending:=pc})}
  let B':=ai.loop st' pd' fn tm res params as bd dfs
  ∃μ' G',μ.le μ'∧bB P ρ w0 μ' G' nx.toNat w'∧HSub (au b (some B') H) G'∧Kept H (au b (some B') H) nx nx μ μ' G G':=by
 intro w' B';have hg:=hH _ _ hb;obtain⟨l',L',ntl,ld,e0,XI,e1,e2,e3,e4,e5,e5',e6,e7,e8,e9,e10⟩:=K5 hM hg;rw[hl]at e0;cases e0;rw[hL]at XI;cases XI;have C0:l.c<w.heap.size:=hM.Aj b l hl;have tT:w0.heap.size≤l.c:=(hM.own b _ l hg hl).resolve_left (by simp[ai.ro]);have hle:μ.le (μ.put b l):=Mu.Gg (.inr hl);obtain⟨m1,m2⟩:=hM.put (w':=w') b B' l (.loop {L with state:=s,pending:=pc}) (nx':=nx.toNat) (.inr hl)
  ⟨rfl,rfl,rfl,by simp[w'],fun j hj _=>by show(w.heap.setIfInBounds l.c _)[j]?=_;rw[zqn (Ne.symm hj)],gi _⟩
  (by show(w.heap.setIfInBounds l.c _)[l.c]?=_;simp[C0])
  (.loop st' pd' fn ntl tm res params as bd dfs ld l _ hs (hpd e2) e3 (e4.mono hle) e5 e5' e6 e7 (hle.l _ _ e8) e9 e10)
  (fun b' B' l' g m' ne=>hM.sep b' b B' _ l' l g hg m' hl ne) tT (gi _) (hM.new b l hl) (hM.lo0 hg hl rfl)
 exact⟨_,_,m1,m2,hH.set b (some B'),BR hb hl _ _⟩
inductive atB(P:Program)(nt:Nat)(fr:Frame):Option aK→Option Code→Prop
 |fin (h:fr.todo=[]):atB P nt fr none none
 |ret (K:List Item) (h:fr.todo=.code .ret ::K):atB P nt fr (some .ret) (some .ret)
 |exit (id:Nat) (K:List Item) (h:fr.todo=.code (.exit id) ::K) (he:exitTo id K=none):atB P nt fr (some (.exit id)) (some (.exit id))
theorem ZP{l:Nat}{L:Loop}(h:w.heap[l]?=some (.loop L))(j:Option Code):(Instr.endRound l j).run P w=.ok (.bool j.isNone) {w with heap:=w.heap.setIfInBounds l (.loop {L with state:=if j.isNone then .ready else .done,pending:=j})}:=by simp[Instr.endRound,Instr.getLoop,getObj,setObj,Sem.run,h]
theorem Tk{l:Nat}{L:Loop}(h:w.heap[l]?=some (.loop L))(hs:L.state=.ready):(Instr.beginRound l).run P w=.ok () {w with heap:=w.heap.setIfInBounds l (.loop {L with state:=.busy,pending:=L.pending})}:=by simp[Instr.beginRound,Instr.getLoop,getObj,setObj,Sem.run,h,hs]
theorem abg{l:Nat}{L:Loop}(h:w.heap[l]?=some (.loop L))(hs:L.state≠.busy):(Instr.endLoop l).run P w=.ok L.pending {w with heap:=w.heap.setIfInBounds l (.loop {L with state:=.exhausted,pending:=L.pending})}:=by simp[Instr.endLoop,Instr.getLoop,getObj,setObj,Sem.run,h,hs]
theorem Kk(X:Ctx P ρ w0 C){j:Option aK}{jc:Option Code}(hj:atB P nt fr j jc)(h0:μ0.le μ)(hM:bB P ρ w0 μ G nx.toNat w)(hH:HSub H G)(hb:BG P ρ μ nt af fr)(h1:af.mode=.run)(hm:fr.mode=.run)
  (hk:af.todo=[]∨(∃k,af.todo=.code .ret ::k)∨∃id k,af.todo=.code (.exit id) ::k) (hjr:j=some .ret→∃k,af.todo=.code .ret ::k) (hjn:j=none→af.todo=[]) (hT:lB ρ μ nt af.tm fr.tmps) (hS:dV P ρ C.orc μ G H nx ku cs) (hn:(bJ ku).Nodup) :
  Good P ρ C w0 μ0 rest (lone fr (cs++rest) w) (J7 j af ku H nx):=by
 unfold J7;split
 ·rename_i hrn;have K7:fr.roundOf=none:=by
   have:=hb.uW;rw[hrn]at this;cases hh:fr.roundOf with
   |none=>rfl
   |some x=>rw[hh]at this;exact this.elim
  cases hj with
  |fin ht=>refine⟨_,cs,w,.one (ayI hm ht K7),μ,G,h0,hM,hH,.ret nt ⟨hb.fn,hb.fnr,hb.dfs,hb.kind,hb.uW,hb.rd⟩ rfl rfl (.inl (hjn rfl)) hT,hS,?_⟩;show(bJ (_ ::ku)).Nodup;simp only[bJ,pk,hjn rfl,List.nil_append];exact hn
  |ret KK ht=>obtain⟨kk,EU⟩:=hjr rfl;refine⟨_,cs,w,.one (ayJ hm ht K7),μ,G,h0,hM,hH,.ret nt ⟨hb.fn,hb.fnr,hb.dfs,hb.kind,hb.uW,hb.rd⟩ rfl rfl (.inr ⟨kk,EU⟩) hT,hS,?_⟩;show(bJ (_ ::ku)).Nodup;simp only[bJ,pk,EU,List.nil_append];exact hn
  |exit id KK ht he=>trivial
 ·rename_i key hrn;cases ku with
  |nil=>trivial
  |cons c ku=>
  cases cs with
  |nil=>exact hS.elim
  |cons cf cs=>
  have hdf:af.FE=false:=hb.rd (by rw[hrn];intro e;cases e);have MR:fr.kind=.normal:=by rw[hb.kind,hdf];rfl
  have K7:∃lc,μ key=some lc∧fr.roundOf=some lc.c:=by
   have:=hb.uW;rw[hrn]at this;cases hh:fr.roundOf with
   |none=>rw[hh]at this;exact this.elim
   |some x=>rw[hh]at this;obtain⟨lc,e1,e2⟩:=this;exact⟨lc,e1,by rw[e2]⟩
  obtain⟨lc,C8,K7⟩:=K7;simp only;split
  ·rename_i st pd fn tm res params as bd dfs Ny;simp only[sTCe];obtain⟨lc',L,ntl,ld,e0,XI,e1,e2,e3,e4,e5,e5',e6,e7,e8,e9,e10⟩:=K5 hM (hH _ _ Ny);rw[C8]at e0;cases e0;split
   ·rename_i c' hf;have hpd:(∀n,Ww P n pd L.pending)→∀n,Ww P n j jc:=by
     intro _ QE;cases hj with
     |fin ht=>trivial
     |ret KK ht=>exact(rfl:iL P QE .ret=some .ret)
     |exit id KK ht he=>exact(rfl:iL P QE (.exit id)=some (.exit id))
    have hsr:agW (match (generalizing:=false) j with|none=>LS.ready|some _=>LS.done) (if jc.isNone then .ready else .done):=by cases hj<;>trivial
    obtain⟨μ',G',g1,g2,g3,g4⟩:=Tj hM hH Ny C8 XI hsr hpd;have gD:=ZP (P:=P) XI jc;have fy:step P (lone fr (cf ::cs++rest) w)=.next (lone (cf.finish (.bool jc.isNone)) (cs++rest) {w with heap:=w.heap.setIfInBounds lc.c (.loop {L with state:=if jc.isNone then .ready else .done,pending:=jc})}):=by
     cases hj with
     |fin ht=>exact TU hm ht K7 MR gD
     |ret KK ht=>exact Zb hm ht K7 MR gD
     |exit id KK ht he=>exact VM hm ht he K7 MR gD
    have hS':=hS.kept g1 g4;have hbv:aU ρ μ' (.bool (match (generalizing:=false) j with|none=>true|some _=>false)) (.bool jc.isNone):=by cases hj<;>exact .bool _
    obtain⟨q1,q2⟩:=hS'.1.finish hbv hf;refine⟨_,cs,_,.one fy,μ',G',Mu.le_trans h0 g1,g2,g3,q1,hS'.2,?_⟩;show(bJ (c' ::ku)).Nodup;simp only[bJ,q2]at hn ⊢;exact hn
   ·trivial
  ·trivial
theorem Wr{fn:FuncId}{tmps:Array Value}{params:Array Tmp}{as bd:Code}:(Instr.enterLoop fn tmps params as bd none).run P w =
  .ok (w.heap.size+1,[⟨.collected w.heap.size,#[]⟩]) ((w.alloc (.deferred (some []))).alloc (.loop {state:=.ready,pending:=none,fn,tmps,params,assign:=as,body:=bd,defers:=w.heap.size})):=by
 simp[Instr.enterLoop,newObj,Sem.run]
theorem UD{nt:Nat}:∀{l:List Nat} {ks:List Key},l.mapM (IQ nt)=some ks→XE ks l∧∀k∈ks,k.toNat<nt
 | [],ks,h=>by simp at h;subst h;exact⟨rfl,fun _ h=>by cases h⟩
 |t ::l,ks,h=>by
  obtain⟨k,r,e1,e2,rfl⟩:=j8 h;obtain⟨h1,h2⟩:=UD e2;obtain⟨h3,h4⟩:=qq e1;refine⟨?_,fun q hq=>?_⟩
  ·show(k ::r).map Key.toNat=t ::l;rw[zqx,h3,h1]
  ·rcases CR.1 hq with e|e
   ·rw[e,h3];exact h4
   ·exact h2 q e
theorem ajy(X:Ctx P ρ w0 C){pc:aK}{c:Code}(hc:iL P nt c=some pc)(h0:μ0.le μ)(hM:bB P ρ w0 μ G nx.toNat w)(hH:HSub H G)(hb:BG P ρ μ nt af fr)(h1:af.mode=.run)(hm:fr.mode=.run)
  (DH:af.todo=.code pc ::k) (ht:fr.todo=.code c ::K) (hk:oe P μ nt k K) (hT:lB ρ μ nt af.tm fr.tmps) (hS:dV P ρ C.orc μ G H nx ku cs) (hn:(bJ ku).Nodup) :
  Good P ρ C w0 μ0 rest (lone fr (cs++rest) w) (b9 C af ku H nx):=by
 have go:∀(k':List db) (K':List Item),oe P μ nt k' K'→step P (lone fr (cs++rest) w)=.next (lone {fr with todo:=K'} (cs++rest) w)→Good P ρ C w0 μ0 rest (lone fr (cs++rest) w) (.next ⟨{af with todo:=k'},ku,H,nx⟩):=by intro k' K' Ib fy;exact⟨_,cs,w,.one fy,tN h0 hM hH (hb.todo af.tm k' fr.tmps K') h1 hm Ib hT hS hn⟩
 unfold b9;rw[DH];cases c with
 |skip=>simp only[iL,dS]at hc;subst hc;exact go _ _ hk (asC hm ht)
 |region id ops draw=>
  simp only[iL]at hc;cases draw with
  |false=>obtain⟨l,hl,rfl⟩:=Wq hc;exact go _ _ (.cons _ _ _ _ (.ops _ _ _ hl) hk) (ajU hm ht)
  |true=>
   obtain⟨aEu,aca⟩:=ZN hc;obtain⟨t,fy⟩:=asF (P:=P) (cs:=cs++rest) (w:=w) hm ht;rw[X.mix]at fy;have hv:=aEu.ord (D:=fun _=>false) (fun i o h=>by cases h) (UE aEu.down t);have one:∀(bf:List Nat) (items:List aH) (d:SD),apU P nt ops bf items d→sM ops.size bf (fun _=>false) (Region.schedule true ops t)→
     ∃fY xJ w',Steps P (lone fr (cs++rest) w) (lone fY (xJ++rest) w')∧A8 P ρ C.orc w0 μ0 ⟨{af with todo:=.staged items d [] ::k},ku,H,nx⟩ fY xJ w':=by
    rintro bf items d ⟨pl,wW,ke,rfl,atA,hf,aNn,hd,adj⟩ hv;refine⟨_,cs,_,.one fy,μ,G,h0,hM.drawn _ (Nat.le_succ _),hH,.run nt (hb.todo af.tm _ fr.tmps _) h1 hm (.ready ops pl _ _ wW items _ [] k K _ _ _ hf aNn ⟨hd,adj⟩ hk (ic.init atA hT hv)),hS,?_⟩;show(bJ (_ ::ku)).Nodup;simp only[bJ,pk,List.map_nil,List.nil_append];exact hn
   rcases aca with⟨items,d,rfl,ym⟩|⟨a,b,s1,d1,s2,d2,rfl,ha,wc,cp,aNo,aNp⟩
   ·exact one _ _ _ ym hv
   ·rcases sM.two ha cp rfl rfl (fun i h=>by cases h) wc hv with q|q
    ·exact .inl (one _ _ _ aNo q)
    ·exact .inr (one _ _ _ aNp q)
 |seq a b=>
  simp only[iL]at hc;split at hc
  ·rename_i a' b' ha gA;cases hc;exact go _ _ (.cons _ _ _ _ (.code _ _ ha) (.cons _ _ _ _ (.code _ _ gA) hk)) (ayH hm ht)
  ·cases hc
 |cond x a b=>
  simp only[iL]at hc;split at hc
  ·rename_i x' a' b' hx ha gA;cases hc;simp only;split
   ·rename_i hxa;have hv:=ZO hM hx hxa hT;have he:fr.eval x=.bool true:=by generalize fr.eval x=u at hv;cases hv;rfl
    exact go _ _ (.cons _ _ _ _ (.code _ _ ha) hk) (ah6 hm ht he)
   ·rename_i hxa;have hv:=ZO hM hx hxa hT;have he:fr.eval x=.bool false:=by generalize fr.eval x=u at hv;cases hv;rfl
    exact go _ _ (.cons _ _ _ _ (.code _ _ gA) hk) (ah6 hm ht he)
   ·trivial
  ·cases hc
 |block id a=>
  simp only[iL]at hc;split at hc
  ·rename_i a' ha;cases hc;exact go _ _ (.cons _ _ _ _ (.code _ _ ha) (.cons _ _ _ _ (.inBlock _) hk)) (aoi hm ht)
  ·cases hc
 |loop a=>
  simp only[iL]at hc;split at hc
  ·rename_i a' ha;cases hc;exact go _ _ (.cons _ _ _ _ (.code _ _ ha) (.cons _ _ _ _ (.inLoop _ _ ha) hk)) (asD hm ht)
  ·cases hc
 |rangeFunc f params a b=>
  simp only[iL]at hc;split at hc
  ·rename_i f' ps a' b' hf hps ha gA;cases hc;simp only;split
   ·rename_i g first cap hrn hfa
    simp only[sTCe];rcases FD X g (first ++ .yld nx.succ ::cap) false (.bad 61 ⟨af,ku,au nx.succ (some (.loop .ready none af.fn af.tm af.res ps a' b' nx)) (au nx (some (.dfs false)) H),nx⟩)
     (fun fY=>.next ⟨fY,{af with todo:=.inRF nx.succ ::k,dfs:=.coll nx ::af.dfs} ::ku,au nx.succ (some (.loop .ready none af.fn af.tm af.res ps a' b' nx)) (au nx (some (.dfs false)) H),nx.succ.succ⟩)with e|⟨p,hp,e⟩
    ·rw[e];trivial
    ·rw[e];have K7:fr.roundOf=none:=by
      have:=hb.uW;rw[hrn]at this;cases hh:fr.roundOf with
      |none=>rfl
      |some x=>rw[hh]at this;exact this.elim
     obtain⟨fn,c,f1,f2,f3,f4,f5⟩:=uY hp;have hv:=ZO hM hf hfa hT;obtain⟨vs,ws,ev,hv1,hv2⟩:=ahK hv;have hs1:=kTSu nx;have hs2:=kTSu nx.succ;obtain⟨m1,M1⟩:=hM.alloc nx (.dfs false) (.deferred (some [])) 0 (nx':=nx.succ.toNat) hM.uK (.dfs false _) (by omega) (by omega);have hu1:(μ.put nx ⟨w.heap.size,0,0⟩) nx=some ⟨w.heap.size,0,0⟩:=Mu.fe _ _ _;have xL:(w.alloc (.deferred (some []))).heap.size=w.heap.size+1:=by simp
     obtain⟨hkr,hkl⟩:=UD hps;have hn1:(μ.put nx ⟨w.heap.size,0,0⟩) nx.succ=none:=M1.uK;have O2:Mu.le (μ.put nx ⟨w.heap.size,0,0⟩) ((μ.put nx ⟨w.heap.size,0,0⟩).put nx.succ ⟨(w.alloc (.deferred (some []))).heap.size,0,0⟩):=Mu.Gg (.inl hn1);obtain⟨m2,M2⟩:=M1.alloc nx.succ (.loop .ready none af.fn af.tm af.res ps a' b' nx) (.loop {state:=.ready,pending:=none,fn:=fr.fn,tmps:=fr.tmps,params,assign:=a,body:=b,defers:=w.heap.size}) 0 (nx':=nx.succ.succ.toNat) hn1
      (.loop .ready none af.fn nt af.tm af.res ps a' b' nx ⟨w.heap.size,0,0⟩ _ _ trivial (fun _=>trivial) hb.fn (hT.mono (Mu.le_trans m1 O2)) hkr hkl ha gA (O2.l _ _ hu1) rfl hb.fnr) (by omega) (by omega)
     have hK:Kept H (au nx.succ (some (.loop .ready none af.fn af.tm af.res ps a' b' nx)) (au nx (some (.dfs false)) H)) nx nx.succ.succ μ _ G _:=(Ia (H:=H) (nx:=nx) (μ:=μ) (G:=G) ⟨w.heap.size,0,0⟩ (some (.dfs false)) (some (.dfs false))).trans
      (Ia (nx:=nx.succ) ⟨(w.alloc (.deferred (some []))).heap.size,0,0⟩ (some (.loop .ready none af.fn af.tm af.res ps a' b' nx)) (some (.loop .ready none af.fn af.tm af.res ps a' b' nx)))
     have hle:=Mu.le_trans m1 m2;have fy:=Zc (P:=P) (cs:=cs++rest) (w:=w) hm ht K7 Wr ev f1 (by rw[f2];rfl) f3;have hu2:((μ.put nx ⟨w.heap.size,0,0⟩).put nx.succ ⟨(w.alloc (.deferred (some []))).heap.size,0,0⟩) nx.succ=some ⟨(w.alloc (.deferred (some []))).heap.size,0,0⟩:=Mu.fe _ _ _;refine⟨_,{fr with todo:=.inRangeFunc (w.heap.size+1) ::K,defers:=[⟨.collected w.heap.size,#[]⟩]++fr.defers} ::cs,_,.one fy,_,_,Mu.le_trans h0 hle,M2,(hH.set nx _).set nx.succ _,xX hp ?_ false,⟨?_,hS.kept hle hK⟩,?_⟩
     ·have hy:aU ρ ((μ.put nx ⟨w.heap.size,0,0⟩).put nx.succ ⟨(w.alloc (.deferred (some []))).heap.size,0,0⟩) (.yld nx.succ) (.func (.yield (w.heap.size+1)) #[] #[]):=.yld _ _ _ hu2 xL.symm;have:=(hv1.mono hle).append (ax.cons _ _ _ _ hy (hv2.mono hle));simpa using this
     ·refine .wait nt ⟨hb.fn,hb.fnr,⟨⟨_,m2.l _ _ hu1,rfl⟩,hb.dfs.mono hle⟩,hb.kind,?_,hb.rd⟩ h1 hm ?_
      ·have:=hb.uW;rw[hrn,K7]at this;show aD7 _ af.uW fr.roundOf;rw[hrn,K7];trivial
      ·have:=K6.rf (P:=P) (ρ:=ρ) (orc:=C.orc) (nt:=nt) (G:=qU (qU G nx (some (ai.dfs false))) nx.succ (some (.loop .ready none af.fn af.tm af.res ps a' b' nx))) (H:=au nx.succ (some (.loop .ready none af.fn af.tm af.res ps a' b' nx)) (au nx (some (.dfs false)) H)) (nx:=nx.succ.succ) nx.succ _ k K af.tm fr.tmps hu2 (hk.mono hle) (hT.mono hle);simp only[xL]at this ⊢;exact this
     ·show(bJ (_ ::_ ::ku)).Nodup;simp only[bJ,pk,List.nil_append];exact hn
   ·trivial
  ·cases hc
 |exit id=>
  simp only[iL,dS]at hc;subst hc;obtain⟨x1,x2⟩:=agE (id:=id) hk;simp only;split
  ·rename_i k' Ib;obtain⟨K',e1,e2⟩:=x1 k' Ib;exact go _ _ e2 (asE hm ht e1)
  ·rename_i Ib;exact Kk X (.exit id K ht (x2 Ib)) h0 hM hH hb h1 hm (.inr (.inr ⟨id,k,DH⟩)) (by intro e;cases e) (by intro e;cases e) hT hS hn
 |ret=>simp only[iL,dS]at hc;subst hc;exact Kk X (.ret K ht) h0 hM hH hb h1 hm (.inr (.inl ⟨k,DH⟩)) (fun _=>⟨k,DH⟩) (by intro e;cases e) hT hS hn
 |scope a=>
  simp only[iL]at hc;split at hc
  ·rename_i a' ha;cases hc;exact go _ _ (.cons _ _ _ _ (.code _ _ ha) (.cons _ _ _ _ (.scope _) hk)) (aoj hm ht)
  ·cases hc
 |label l=>simp only[iL,dS]at hc;subst hc;exact go _ _ hk (aok hm ht)
 |goto l=>simp[iL]at hc
 |refuse s=>simp[iL]at hc
end
section
variable{P:Program}{ρ:Nat→Int}{C:bH}{nt:Nat}{w0:W0}{w:World}{μ0 μ:Mu}{G:Key→Option ai}{H:T ai}{nx:Key}{rest cs:List Frame}{fr:Frame}{af:nG}{ku:List nG}{K:List Item}{k:List db}
theorem ant(X:Ctx P ρ w0 C)(h0:μ0.le μ)(hM:bB P ρ w0 μ G nx.toNat w)(hH:HSub H G)(hb:BG P ρ μ nt af fr)(h1:af.mode=.run)(hm:fr.mode=.run)
  (hTd:Z5 P ρ C.orc μ G H nx nt af.todo af.tm fr.todo fr.tmps) (hS:dV P ρ C.orc μ G H nx ku cs) (hn:(bJ (af ::ku)).Nodup) :
  Good P ρ C w0 μ0 rest (lone fr (cs++rest) w) (b9 C af ku H nx):=by
 generalize DH:af.todo=AK at hTd;generalize htt:af.tm=TM at hTd;generalize ht:fr.todo=FK at hTd;generalize hft:fr.tmps=FT at hTd;cases hTd with
 |plain k0 K0 tm tmps hk hT=>
  subst htt hft;have hn:(bJ ku).Nodup:=(List.nodup_append.1 hn).2.1;cases hk with
  |nil=>unfold b9;rw[DH];exact Kk X (.fin ht) h0 hM hH hb h1 hm (.inl DH) (by intro e;cases e) (fun _=>DH) hT hS hn
  |cons a x k K h hk=>
   have go:∀(k':List db) (K':List Item),oe P μ nt k' K'→step P (lone fr (cs++rest) w)=.next (lone {fr with todo:=K'} (cs++rest) w)→Good P ρ C w0 μ0 rest (lone fr (cs++rest) w) (.next ⟨{af with todo:=k'},ku,H,nx⟩):=by intro k' K' Ib fy;exact⟨_,cs,w,.one fy,tN h0 hM hH (hb.todo af.tm k' fr.tmps K') h1 hm Ib hT hS hn⟩
   cases h with
   |code pc c h=>exact ajy X h h0 hM hH hb h1 hm DH ht hk hT hS hn
   |inBlock id=>unfold b9;rw[DH];exact go _ _ hk (aeu hm ht)
   |scope c=>unfold b9;rw[DH];exact go _ _ hk (aev hm ht)
   |inLoop pc c h=>unfold b9;rw[DH];exact go _ _ (.cons _ _ _ _ (.code _ _ h) (.cons _ _ _ _ (.inLoop _ _ h) hk)) (ajz hm ht)
   |ops l ops rest h=>unfold b9;rw[DH];exact alc X h0 hM hH hb h1 hm h ht hk hT hS hn
   |inRF key l r h hr=>unfold b9;rw[DH];trivial
   |endRF key l r C8 hr=>
    subst hr;unfold b9;rw[DH];simp only;split
    ·rename_i st pd fn tm res params as bd dfs Ny;obtain⟨lc',L,ntl,ld,e0,XI,e1,e2,e3,e4,e5,e5',e6,e7,e8,e9,e10⟩:=K5 hM (hH _ _ Ny);rw[C8]at e0;cases e0;split
     ·trivial
     ·rename_i hnb;simp only[sTCe];have aCp:L.state≠.busy:=by intro e;rw[e]at e1;cases st<;>first|exact e1.elim|exact hnb rfl
      obtain⟨μ',G',g1,g2,g3,g4⟩:=Tj (st':=.exhausted) (pd':=pd) (s:=.exhausted) (pc:=L.pending) hM hH Ny C8 XI trivial (fun h=>h);have fy:=anu (P:=P) (cs:=cs++rest) hm ht (abg XI aCp);have Pz:∀(k':List db),oe P μ' nt k' ((L.pending.map Item.code).toList++K)→Good P ρ C w0 μ0 rest (lone fr (cs++rest) w) (.next ⟨{af with todo:=k'},ku,au key (some (.loop .exhausted pd fn tm res params as bd dfs)) H,nx⟩):=by intro k' Ib;exact⟨_,cs,_,.one fy,tN (Mu.le_trans h0 g1) g2 g3 ((hb.mono g1).todo af.tm k' fr.tmps _) h1 hm Ib (hT.mono g1) (hS.kept g1 g4) hn⟩
      refine Pz _ ?_;cases pd with
      |none=>
       cases hp:L.pending with
       |none=>exact hk.mono g1
       |some c=>rw[hp]at e2;exact(e2 0).elim
      |some pc=>
       cases hp:L.pending with
       |none=>rw[hp]at e2;exact(e2 0).elim
       |some c=>rw[hp]at e2;exact .cons _ _ _ _ (.code _ _ (e2 nt)) (hk.mono g1)
    ·trivial
   |beginRound=>
    unfold b9;rw[DH];simp only;split
    ·trivial
    ·rename_i key hrn;have K7:∃lc,μ key=some lc∧fr.roundOf=some lc.c:=by
      have:=hb.uW;rw[hrn]at this;cases hh:fr.roundOf with
      |none=>rw[hh]at this;exact this.elim
      |some x=>rw[hh]at this;obtain⟨lc,e1,e2⟩:=this;exact⟨lc,e1,by rw[e2]⟩
     obtain⟨lc,C8,K7⟩:=K7;split
     ·rename_i pd fn tm res params as bd dfs Ny;simp only[sTCe];obtain⟨lc',L,ntl,ld,e0,XI,e1,e2,e3,e4,e5,e5',e6,e7,e8,e9,e10⟩:=K5 hM (hH _ _ Ny);rw[C8]at e0;cases e0;have axO:L.state=.ready:=by cases hs:L.state<;>rw[hs]at e1<;>first|rfl|exact e1.elim
      obtain⟨μ',G',g1,g2,g3,g4⟩:=Tj (st':=.busy) (pd':=pd) (s:=.busy) (pc:=L.pending) hM hH Ny C8 XI trivial (fun h=>h);have fy:=Vt (P:=P) (cs:=cs++rest) hm ht K7 (Tk XI axO);exact⟨_,cs,_,.one fy,tN (Mu.le_trans h0 g1) g2 g3 ((hb.mono g1).todo af.tm k fr.tmps K) h1 hm (hk.mono g1) (hT.mono g1) (hS.kept g1 g4) hn⟩
     ·trivial
 |ready ops pl bf g wW items jN pend k K tm tmps rs hf hc hd hk S=>subst htt hft;unfold b9;rw[DH];refine Oj X h0 hM hH hb h1 hm hf hc hd ht hk S hS ?_;simp only[bJ,pk,DH]at hn;exact hn
 |back ops pl bf g os wW items jN pend k K tm tmps rs hf hc hd hk hos JW S=>
  subst htt hft;unfold b9;rw[DH];simp only;rw[YH];cases hrc:recheck C.orc jN.ke pend af.tm H os with
  |false=>simp only[cond_false,qz];trivial
  |true=>simp only[cond_true];have S5:=S.Xi hd.2 hrc hos JW;refine Oj X h0 hM hH hb h1 hm hf hc hd ht hk S5 hS ?_;simp only[bJ,pk,DH]at hn;exact hn
theorem NO{b:Nat}(h:w.heap[b]?=some (.deferred (some []))):(Instr.takeDeferred b).run P w=.ok [] {w with heap:=w.heap.setIfInBounds b (.deferred none)}:=by simp[Instr.takeDeferred,getObj,setObj,Sem.run,h]
theorem abh(X:Ctx P ρ w0 C)(h0:μ0.le μ)(hM:bB P ρ w0 μ G nx.toNat w)(hH:HSub H G)(hb:BG P ρ μ nt af fr)(UW:Cur P ρ C.orc μ G H nx af fr)(cp:af.mode≠.run)(hS:dV P ρ C.orc μ G H nx ku cs)(hn:(bJ (af ::ku)).Nodup) :
  Good P ρ C w0 μ0 rest (lone fr (cs++rest) w) (Ag C af ku H nx):=by
 have hpk:pk af=[]:=by
  cases UW with
  |run nt hb h1=>exact absurd h1 cp
  |ret nt hb h1 h2 h3 h=>unfold pk;rcases h3 with h3|⟨k,h3⟩<;>rw[h3]
  |pan nt hb v u r h1 h2 hv h3 h=>unfold pk;rw[h3]
 have hfm:fr.mode≠.run:=by
  cases UW with
  |run nt hb h1=>exact absurd h1 cp
  |ret nt hb h1 h2 h3 h=>rw[h2];intro e;cases e
  |pan nt hb v u r h1 h2 hv h3 h=>rw[h2];intro e;cases e
 have Z2:(bJ ku).Nodup:=(List.nodup_append.1 hn).2.1;have aTS:∃nt,BG P ρ μ nt af fr∧lB ρ μ nt af.tm fr.tmps:=by
  cases UW with
  |run nt hb h1=>exact absurd h1 cp
  |ret nt hb h1 h2 h3 h=>exact⟨nt,hb,h⟩
  |pan nt hb v u r h1 h2 hv h3 h=>exact⟨nt,hb,h⟩
 have move:∀{μ':Mu} {G':Key→Option ai} {H':T ai} (ds:List XJ) (Ds:List Deferred),μ.le μ'→Tl ρ μ' ds Ds→Cur P ρ C.orc μ' G' H' nx {af with dfs:=ds} {fr with defers:=Ds}:=by
  intro μ' G' H' ds Ds hle hd;cases UW with
  |run nt hb h1=>exact absurd h1 cp
  |ret nt hb h1 h2 h3 h=>exact .ret nt ⟨hb.fn,hb.fnr,hd,hb.kind,(hb.mono hle).uW,hb.rd⟩ h1 h2 h3 (h.mono hle)
  |pan nt hb v u r h1 h2 hv h3 h=>exact .pan nt ⟨hb.fn,hb.fnr,hd,hb.kind,(hb.mono hle).uW,hb.rd⟩ v u r h1 h2 (hv.mono hle) h3 (h.mono hle)
 have hD:=hb.dfs;unfold Ag;split
 ·rename_i b ds hds;split
  ·rename_i Ny;simp only[sTCe];rw[hds]at hD;cases YI:fr.defers with
   |nil=>rw[YI]at hD;exact hD.elim
   |cons d Ds=>
   rw[YI]at hD;obtain⟨⟨l,hl,rfl⟩,hD2⟩:=hD;have hg:=hH _ _ Ny;obtain⟨l',o,e1,e2,e3⟩:=hM.wa b _ hg;rw[hl]at e1;cases e1;have arX:w.heap[l.c]?=some (.deferred (some [])):=by cases e3 with|dfs _ _=>exact e2
   have C0:l.c<w.heap.size:=hM.Aj b l hl;have tT:w0.heap.size≤l.c:=(hM.own b _ l hg hl).resolve_left (by simp[ai.ro]);obtain⟨m1,m2⟩:=hM.put (w':={w with heap:=w.heap.setIfInBounds l.c (.deferred none)}) b (.dfs true) l (.deferred none) (nx':=nx.toNat) (.inr hl)
    ⟨rfl,rfl,rfl,by simp,fun j hj _=>by show(w.heap.setIfInBounds l.c _)[j]?=_;rw[zqn (Ne.symm hj)],gi _⟩
    (by show(w.heap.setIfInBounds l.c _)[l.c]?=_;simp[C0])
    (.dfs true l)
    (fun b' B' l' g m' ne=>hM.sep b' b B' _ l' l g hg m' hl ne) tT (gi _) (hM.new b l hl) (hM.lo0 hg hl rfl)
   have fy:=YJ (P:=P) (cs:=cs++rest) hfm YI (NO arX);refine⟨_,cs,_,.one fy,_,_,Mu.le_trans h0 m1,m2,hH.set b _,move ds Ds m1 (hD2.mono m1),hS.kept m1 (BR Ny hl _ _),?_⟩;show(bJ (_ ::ku)).Nodup;have:pk {af with dfs:=ds}=pk af:=rfl;simp only[bJ,this,hpk,List.nil_append];exact Z2
  ·trivial
 ·rename_i f args ds hds;rcases FD X f args true (.bad 71 ⟨af,ku,H,nx⟩) (fun fY=>.next ⟨fY,{af with dfs:=ds} ::ku,H,nx⟩)with e|⟨p,hp,e⟩
  ·rw[e];trivial
  ·rw[e];rw[hds]at hD;cases YI:fr.defers with
   |nil=>rw[YI]at hD;exact hD.elim
   |cons d Ds=>
   rw[YI]at hD;obtain⟨⟨ws,hd1,hd2⟩,hD2⟩:=hD;obtain⟨fn,c,f1,f2,f3,f4,f5⟩:=uY hp;have hi:(invoke d.target d.args).run P w=.ok (.enter f (d.args++ws)) w:=by rw[hd1];simp[invoke,rL f1 (by rw[f2];rfl) f3]
   have fy:=abi (P:=P) (cs:=cs++rest) hfm YI hd1 hi;refine⟨_,{fr with defers:=Ds} ::cs,w,.one fy,μ,G,h0,hM,hH,xX hp hd2 true,⟨.unw (move ds Ds μ.le_refl hD2) cp,hS⟩,?_⟩;show(bJ (_ ::_ ::ku)).Nodup;have:pk {af with dfs:=ds}=pk af:=rfl;simp only[bJ,this,hpk,List.nil_append];simp only[pk,List.nil_append];exact Z2
 ·rename_i hds;have YI:fr.defers=[]:=by
   rw[hds]at hD;cases YI:fr.defers with
   |nil=>rfl
   |cons d Ds=>rw[YI]at hD;exact hD.elim
  split
  ·trivial
  ·rename_i Cg;cases UW with
   |run nt hb h1=>exact absurd h1 cp
   |pan nt hb v u r h1=>rw[h1]at Cg;cases Cg
   |ret nt hb h1 h2 h3 hT=>
    split
    ·rename_i l hl;obtain⟨fn,g1,g2,g3⟩:=hb.fnr.ex;have g1':P.funcs[fr.fn]?=some fn:=by rw[hb.fn];exact g1
     rw[g2]at g3;obtain⟨vs,q1,q2⟩:=Vu hM hH hT g3 hl;rw[yc];obtain⟨μ1,G1,x1,x2⟩:=K4 (C.mT af.fn) hM hH q2;have q2:=aew x2;have hS:=dV.kept x1.le x1.kept hS;have h0:=Mu.le_trans h0 x1.le;have hM:=x1.M;have hH:=x1.hs;have hb:=hb.mono x1.le;have hT:=hT.mono x1.le;generalize cq (C.mT af.fn) l H=lh at q2 hS hM hH;obtain⟨l1,H1⟩:=lh;simp only at q2 hS hM hH ⊢;clear x1 x2;generalize hvv:Mf vs=v at q1 q2;unfold Lk;cases ku with
     |nil=>
      cases cs with
      |cons _ _=>exact hS.elim
      |nil=>
      cases hdf:af.FE with
      |true=>trivial
      |false=>
       have MR:fr.kind=.normal:=by rw[hb.kind,hdf];rfl
       exact⟨fr,w,μ1,G1,v,Steps.refl _ _,hb.fn,⟨h2,YI,MR,fn,g1',q1⟩,q2,h0,hM,hH⟩
     |cons c ku=>
      cases cs with
      |nil=>exact hS.elim
      |cons cf cs=>
      have hn2:(bJ (c ::ku)).Nodup:=Z2;cases hdf:af.FE with
      |true=>
       have MR:fr.kind=.deferred:=by rw[hb.kind,hdf];rfl
       have fy:=Kl (P:=P) (c:=cf) (cs:=cs++rest) h2 YI MR g1' q1;simp only[cond_true];cases hS.1 with
       |wait QE gA qR=>rw[qR];trivial
       |unw hc K8=>
        cases hc with
        |run QE gA qR=>exact absurd qR K8
        |ret QE gA qR DF Py hT'=>
         have Q4:settle cf.mode=cf.mode:=by rw[DF];rfl
         rw[Q4]at fy;rw[qR];exact⟨_,cs,w,.one fy,μ1,G1,h0,hM,hH,.ret QE gA qR DF Py hT',hS.2,hn2⟩
        |pan QE gA v' u' r' qR DF XK Py hT'=>
         rw[qR];cases r' with
         |true=>
          have Q4:settle cf.mode=.returning:=by rw[DF];rfl
          rw[Q4]at fy;refine⟨_,cs,w,.one fy,μ1,G1,h0,hM,hH,.ret QE ⟨gA.fn,gA.fnr,gA.dfs,gA.kind,gA.uW,gA.rd⟩ rfl rfl (.inl Py) hT',hS.2,?_⟩;exact hn2
         |false=>
          have Q4:settle cf.mode=cf.mode:=by rw[DF];rfl
          rw[Q4]at fy;exact⟨_,cs,w,.one fy,μ1,G1,h0,hM,hH,.pan QE gA v' u' false qR DF XK Py hT',hS.2,hn2⟩
      |false=>
       have MR:fr.kind=.normal:=by rw[hb.kind,hdf];rfl
       have fy:=ajA (P:=P) (c:=cf) (cs:=cs++rest) h2 YI MR g1' q1;simp only[cond_false];split
       ·rename_i c' hf;obtain⟨k1,k2⟩:=hS.1.finish q2 hf;refine⟨_,cs,w,.one fy,μ1,G1,h0,hM,hH,k1,hS.2,?_⟩;show(bJ (c' ::ku)).Nodup;simp only[bJ,k2]at hn2 ⊢;exact hn2
       ·trivial
    ·trivial
  ·rename_i v Cg;cases UW with
   |run nt hb h1=>exact absurd h1 cp
   |ret nt hb h1=>rw[h1]at Cg;cases Cg
   |pan nt hb v' u r h1 h2 hv h3 hT=>
    rw[h1]at Cg;simp only[alb.pan.injEq]at Cg;obtain⟨rfl,rfl⟩:=Cg;obtain⟨fn,g1,g2,g3⟩:=hb.fnr.ex;have g1':P.funcs[fr.fn]?=some fn:=by rw[hb.fn];exact g1
    cases ku with
    |nil=>trivial
    |cons c ku=>
     cases cs with
     |nil=>exact hS.elim
     |cons cf cs=>
     simp only;cases hS.1 with
     |unw hc K8=>
      cases hc with
      |run QE gA qR=>exact absurd qR K8
      |ret QE gA qR=>rw[qR];trivial
      |pan QE gA v2 u2 r2 qR=>rw[qR];trivial
     |wait QE gA qR DF hW=>
      rw[qR];have fy:=abk (P:=P) (c:=cf) (cs:=cs++rest) (w:=w) h2 YI g1';have hra:cf.raise [{v:=u,recovered:=false}]={cf with mode:=.panicking [{v:=u,recovered:=false}]}:=by simp[Frame.raise,DF]
      rw[hra]at fy;refine⟨_,cs,w,.one fy,μ,G,h0,hM,hH,.pan QE ⟨gA.fn,gA.fnr,gA.dfs,gA.kind,gA.uW,gA.rd⟩ v' u false rfl rfl hv rfl ?_,hS.2,?_⟩
      ·show lB ρ μ QE (match c.todo with|.staged _ d _ ::_=>JX d.ds c.tm (fun t=>t)|_=>c.tm) cf.tmps;generalize cf.todo=KK at hW;generalize hTT:cf.tmps=TT at hW;generalize c.todo=kk at hW;generalize c.tm=tt at hW;cases hW with
       |ops o l ops i rest k K tm tmps hp h ht=>exact ht
       |rf key l k K tm tmps hk h ht=>exact ht
       |staged ops pl bf g i po ad os wW items jN pend k K tm tmps rest uX hf hc hL Wv hd h hos JW S=>simp only[qz];exact S.erase hd.1
      ·have hn2:(bJ (c ::ku)).Nodup:=Z2;show(bJ (_ ::ku)).Nodup;simp only[bJ,pk,List.nil_append]at hn2 ⊢;exact(List.nodup_append.1 hn2).2.1
  ·trivial
theorem zT(X:Ctx P ρ w0 C){am:AM}(h:A8 P ρ C.orc w0 μ0 am fr cs w):Good P ρ C w0 μ0 rest (lone fr (cs++rest) w) (jj C am):=by
 obtain⟨μ,G,h0,hM,hH,hc,hS,hn⟩:=h.ex;unfold jj;split
 ·rename_i hm;cases hc with
  |run nt hb h1 h2 h=>exact ant X h0 hM hH hb h1 h2 h hS hn
  |ret nt hb h1=>rw[h1]at hm;cases hm
  |pan nt hb v u r h1=>rw[h1]at hm;cases hm
 ·rename_i hm;have cp:am.fr.mode≠.run:=fun e=>hm e;have hb:∃nt,BG P ρ μ nt am.fr fr:=by
   cases hc with
   |run nt hb h1 h2 h=>exact⟨nt,hb⟩
   |ret nt hb h1=>exact⟨nt,hb⟩
   |pan nt hb v u r h1=>exact⟨nt,hb⟩
  obtain⟨nt,hb⟩:=hb;exact abh X h0 hM hH hb hc cp hS hn
theorem BK(C:bH)(n:Nat)(m:AM):wi C (n+1) m=match jj C m with
  |.next m=>wi C n m
  |r=>r:=rfl
theorem yU(X:Ctx P ρ w0 C):∀(n:Nat) {am:AM} {fr:Frame} {cs:List Frame} {w:World},A8 P ρ C.orc w0 μ0 am fr cs w→Good P ρ C w0 μ0 rest (lone fr (cs++rest) w) (wi C n am)
 |0,am,fr,cs,w,h=>⟨fr,cs,w,Steps.refl _ _,h⟩
 |n+1,am,fr,cs,w,h=>by
  have h1:=zT (rest:=rest) X h;rw[BK];cases hs:jj C am with
  |next m=>rw[hs]at h1;obtain⟨fY,xJ,w',s1,h2⟩:=h1;exact Good.steps s1 (yU X n h2)
  |done f v hh nx=>rw[hs]at h1;exact h1
  |pan v hh nx=>trivial
  |bad k m=>trivial
  |alt m1 m2=>rw[hs]at h1;exact h1
end
noncomputable def ah(f:Nat)(p:fN)(l:List AV):nG:={fn:=f,tm:=iG l .z .nil,todo:=[.code p.body],dfs:=[],mode:=.run,FE:=false,uW:=none,res:=p.res}
section
variable{P:Program}{ρ:Nat→Int}{C:bH}{w0:W0}{w:World}{μ0:Mu}{G0:Key→Option ai}{H H':T ai}{nx nx':Key}
inductive Ev(C:bH)(S:AM→Prop):AM→Prop
 |now {m:AM} (h:S m):Ev C S m
 |step {m m':AM} (e:jj C m=.next m') (h:Ev C S m'):Ev C S m
 |alt {m m1 m2:AM} (e:jj C m=.alt m1 m2) (h1:Ev C S m1) (h2:Ev C S m2):Ev C S m
theorem Ev.bind{S S':AM→Prop}{m:AM}(h:Ev C S m)(hs:∀m',S m'→Ev C S' m'):Ev C S' m:=by
 induction h with
 |now h=>exact hs _ h
 |step e _ ih=>exact .step e ih
 |alt e _ _ ih1 ih2=>exact .alt e ih1 ih2
theorem Ev.mono{S S':AM→Prop}{m:AM}(h:Ev C S m)(hs:∀m',S m'→S' m'):Ev C S' m:=h.bind fun m' q=>.now (hs m' q)
theorem Ev.same{S:AM→Prop}{m m2:AM}(hs:jj C m=jj C m2)(hn:¬S m2)(h:Ev C S m2):Ev C S m:=by
 cases h with
 |now h=>exact absurd h hn
 |step e h=>exact .step (hs.trans e) h
 |alt e h1 h2=>exact .alt (hs.trans e) h1 h2
theorem alk(a b:Nat)(m m1:AM)(h:wi C a m=.next m1):wi C (a+b) m=wi C b m1:=by
 induction a generalizing m with
 |zero=>have:SR.next m=SR.next m1:=h;cases this;rw[Nat.zero_add]
 |succ a ih=>
  rw[BK]at h;have e:a+1+b=(a+b)+1:=by omega
  rw[e,BK];cases hs:jj C m with
  |next m2=>rw[hs]at h;exact ih m2 h
  |done f v hh nx=>rw[hs]at h;cases h
  |pan v hh nx=>rw[hs]at h;cases h
  |bad k m=>rw[hs]at h;cases h
  |alt m1 m2=>rw[hs]at h;cases h
theorem Ev.alm{S:AM→Prop}:∀(n:Nat) {m m':AM},wi C n m=.next m'→Ev C S m'→Ev C S m
 |0,m,m',h,q=>by have:SR.next m=SR.next m':=h;cases this;exact q
 |n+1,m,m',h,q=>by
  rw[BK]at h;cases hs:jj C m with
  |next m2=>rw[hs]at h;exact .step hs (Ev.alm n h q)
  |done f v hh nx=>rw[hs]at h;cases h
  |pan v hh nx=>rw[hs]at h;cases h
  |bad k m=>rw[hs]at h;cases h
  |alt m1 m2=>rw[hs]at h;cases h
def To(C:bH)(m m':AM):Prop:=∃n,wi C n m=.next m'
theorem To.refl(m:AM):To C m m:=⟨0,rfl⟩
theorem To.head{m m1 m2:AM}(h:jj C m=.next m1)(h':To C m1 m2):To C m m2:=by obtain⟨n,hn⟩:=h';exact⟨n+1,by rw[BK,h];exact hn⟩
theorem To.one{m m1:AM}(h:jj C m=.next m1):To C m m1:=.head h (.refl _)
theorem To.trans{m m1 m2:AM}(h:To C m m1)(h':To C m1 m2):To C m m2:=by obtain⟨a,ha⟩:=h;obtain⟨b,hb⟩:=h';exact⟨a+b,by rw[alk a b m m1 ha];exact hb⟩
theorem To.ev{S:AM→Prop}{m m':AM}(h:To C m m')(q:Ev C S m'):Ev C S m:=by obtain⟨n,hn⟩:=h;exact Ev.alm n hn q
theorem Ev.sound(X:Ctx P ρ w0 C){S:AM→Prop}{rest:List Frame}{am:AM}(h:Ev C S am):∀{fr:Frame} {cs:List Frame} {w:World},A8 P ρ C.orc w0 μ0 am fr cs w→
  ∃am' fY xJ w',S am'∧Steps P (lone fr (cs++rest) w) (lone fY (xJ++rest) w')∧A8 P ρ C.orc w0 μ0 am' fY xJ w':=by
 induction h with
 |now h=>intro fr cs w hm;exact⟨_,fr,cs,w,h,Steps.refl _ _,hm⟩
 |step e _ ih=>intro fr cs w hm;have hg:=zT (rest:=rest) X hm;rw[e]at hg;obtain⟨fY,xJ,w',s1,h2⟩:=hg;obtain⟨am',IV,cs2,w2,q,s2,h3⟩:=ih h2;exact⟨am',IV,cs2,w2,q,s1.trans s2,h3⟩
 |alt e _ _ ih1 ih2=>
  intro fr cs w hm;have hg:=zT (rest:=rest) X hm;rw[e]at hg;rcases hg with⟨fY,xJ,w',s1,h2⟩|⟨fY,xJ,w',s1,h2⟩
  ·obtain⟨am',IV,cs2,w2,q,s2,h3⟩:=ih1 h2;exact⟨am',IV,cs2,w2,q,s1.trans s2,h3⟩
  ·obtain⟨am',IV,cs2,w2,q,s2,h3⟩:=ih2 h2;exact⟨am',IV,cs2,w2,q,s1.trans s2,h3⟩
end
end Go.Sx
