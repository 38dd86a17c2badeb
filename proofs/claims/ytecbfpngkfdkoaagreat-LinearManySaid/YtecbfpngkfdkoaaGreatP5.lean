/- A part of the proof. No condition. -/
import Derived.Test.YtecbfpngkfdkoaaGreatP4
set_option linter.unusedSimpArgs false
set_option linter.unusedVariables false
set_option linter.unusedSectionVars false
namespace Go.Sx
open Go.RowKit
def pr(p:List (Nat×Key×ah)):List Nat:=p.map (·.2.1.toNat)
def Ip(P:Program)(ρ:Nat→Int)(orc:iG)(nt:Nat)(w0:W0)(cs:List Frame)(K:List Item)(ops:Array Oper)(pl:List ay)(bf:List Nat)(fr:Frame)(w:World)(μ:Mu)(G:Key→Option ah)(H:T ah)(nx:Key)(aq:List (Nat×Key×ah)):RS→Prop
 |.fin aw h' nx'=>∃dL w' μ' G',Steps P (lone fr cs w) (lone {fr with tmps:=dL,todo:=K} cs w')∧μ.le μ'∧aZ P ρ w0 μ' G' nx'.toNat w'∧HSub h' G'∧j5 ρ μ' nt aw dL∧Cw (pr aq) H h' nx nx' μ μ' G G'
 |.ev r IB pend' aw h' nx'=>(∃n,r=.bad n)∨∃dL w' μ' G' g' i po o ad os Rk kW kh,
   Steps P (lone fr cs w) (lone {fr with tmps:=dL,todo:=.inRegion ops (i ::kh) ::K} cs w')∧μ.le μ'∧aZ P ρ w0 μ' G' nx'.toNat w'∧HSub h' G'∧
   IB=.H i po ad ::.R os ::kW∧pl[i]?=some po∧Rk.mapM (Eh pl)=some kW∧yY ops pl bf (Jm (Gh.L g') i) Rk=true∧hasB g'.L i=false∧(∀j,j<ops.size→hasB (fA bf i) j=true→hasB g'.L j=true)∧
   (∀i po,(i,po)∈os→pl[i]?=some po∧Ef ops bf i=true∧qW pl i=0)∧(∀j,hasB g'.L j=true→fY pl j=true→hasB (fA bf i) j=true∨∃po,(j,po)∈os)∧
   fZ P ρ orc nt ops pl bf μ' G' h' nx' g' (fun i=>fY pl i=true) pend' aw dL (i ::kh)∧ops[i]?=some o∧Me P nt ops o=some po∧Region.wanted o (yielded ops dL)=true∧
   aOp orc po.op aw h' nx'=r∧¬BC r∧Cw (pr aq) H h' nx nx' μ μ' G G'∧(∀x∈pr pend',x∈pr aq∨nx.toNat≤x)
section
variable{P:Program}{ρ:Nat→Int}{orc:iG}{nt:Nat}{ops:Array Oper}{pl:List ay}{bf:List Nat}{w0:W0}{cs:List Frame}{K:List Item}
theorem Ip.step{fr:Frame}{w:World}{μ:Mu}{G:Key→Option ah}{H:T ah}{nx:Key}{aq:List (Nat×Key×ah)}{tmps2:Array Value}{rest2:List Nat}{w2:World}{μ2:Mu}{G2:Key→Option ah}{H2:T ah}{aU:Key}{pend2:List (Nat×Key×ah)}{r:RS}
  (dy:Steps P (lone fr cs w) (lone {fr with tmps:=tmps2,todo:=.inRegion ops rest2 ::K} cs w2)) (hle:μ.le μ2) (hk:Cw (pr aq) H H2 nx aU μ μ2 G G2) (hE:∀x∈pr pend2,x∈pr aq∨nx.toNat≤x)
  (h:Ip P ρ orc nt w0 cs K ops pl bf {fr with tmps:=tmps2,todo:=.inRegion ops rest2 ::K} w2 μ2 G2 H2 aU pend2 r):Ip P ρ orc nt w0 cs K ops pl bf fr w μ G H nx aq r:=by
 cases r with
 |fin aw h' nx'=>obtain⟨dL,w',μ',G',s1,s2,s3,s4,s5,s6⟩:=h;exact⟨dL,w',μ',G',dy.trans s1,Mu.le_trans hle s2,s3,s4,s5,hk.trans s6 hE⟩
 |ev rr it pd aw h' nx'=>
  rcases h with hb|⟨dL,w',μ',G',g',i,po,o,ad,os,Rk,kW,kh,s1,s2,s3,s4,s5,s6,s7,s8,s9,s10,s11,s12,s13,s14,s15,s16,s17,s18,s19,s20⟩
  ·exact .inl hb
  ·refine .inr ⟨dL,w',μ',G',g',i,po,o,ad,os,Rk,kW,kh,dy.trans s1,Mu.le_trans hle s2,s3,s4,s5,s6,s7,s8,s9,s10,s11,s12,s13,s14,s15,s16,s17,s18,hk.trans s19 hE,fun x hx=>?_⟩;rcases s20 x hx with h|h
   ·exact hE x h
   ·exact .inr (Nat.le_trans hk.n h)
theorem je{α β:Type}{f:α→Option β}{a:α}{l:List α}{r:List β}(h:(a ::l).mapM f=some r):∃b r',f a=some b∧l.mapM f=some r'∧r=b ::r':=by
 rw[List.mapM_cons]at h;cases hf:f a with
 |none=>rw[hf]at h;cases h
 |some b=>
  cases hl:l.mapM f with
  |none=>rw[hf]at h;simp[hl]at h
  |some r'=>rw[hf]at h;simp[hl]at h;exact⟨b,r',rfl,rfl,h.symm⟩
theorem Vl(orc:iG)(jj:List (Nat×List Nat))(i:Nat)(o:ay)(rest:List aL)(aq:List (Nat×Key×ah))(tm:T AV)(h:T ah)(nx:Key):gS orc jj (.L i o ::rest) aq tm h nx=(match cq o.guard tm with
   |none=>.ev (.bad 31) (.L i o ::rest) aq tm h nx
   |some false=>wD o.dst (some (.tuple [])) tm fun tm=>gS orc jj rest aq tm h nx
   |some true=>match lightOp orc o.op tm (wE (DV i jj) aq h)with
    |some v=>wD o.dst (some v) tm fun tm=>gS orc jj rest aq tm h nx
    |none=>.ev (.bad 32) (.L i o ::rest) aq tm h nx):=rfl
theorem Vm(orc:iG)(jj:List (Nat×List Nat))(i:Nat)(o:ay)(rest:List aL)(aq:List (Nat×Key×ah))(tm:T AV)(h:T ah)(nx:Key):gS orc jj (.A i o ::rest) aq tm h nx=(match cq o.guard tm with
   |none=>.ev (.bad 33) (.A i o ::rest) aq tm h nx
   |some false=>wD o.dst (some (.tuple [])) tm fun tm=>gS orc jj rest aq tm h nx
   |some true=>match allocOp o.op tm with
    |some (v,b)=>wD o.dst (some (v nx)) tm fun tm=>gS orc jj rest ((i,nx,b) ::aq) tm h nx.succ
    |none=>.ev (.bad 34) (.A i o ::rest) aq tm h nx):=rfl
theorem Vn(orc:iG)(jj:List (Nat×List Nat))(i:Nat)(o:ay)(l:List Nat)(rest:List aL)(aq:List (Nat×Key×ah))(tm:T AV)(h:T ah)(nx:Key):gS orc jj (.H i o l ::rest) aq tm h nx=(Eg l aq h fun aq h=>match cq o.guard tm with
   |none=>.ev (.bad 35) (.H i o l ::rest) aq tm h nx
   |some false=>wD o.dst (some (.tuple [])) tm fun tm=>gS orc jj rest aq tm h nx
   |some true=>match aOp orc o.op tm h nx with
    |.val v h nx=>wD o.dst (some v) tm fun tm=>gS orc jj rest aq tm h nx
    |r=>.ev r (.H i o l ::rest) aq tm h nx):=rfl
theorem UG(orc:iG)(jj:List (Nat×List Nat))(os:List (Nat×ay))(rest:List aL)(aq:List (Nat×Key×ah))(tm:T AV)(h:T ah)(nx:Key):gS orc jj (.R os ::rest) aq tm h nx =
  (bif recheck orc jj aq tm h os then gS orc jj rest aq tm h nx else .ev (.bad 36) (.R os ::rest) aq tm h nx):=rfl
theorem akp{os:List Nat}{l:List (Nat×ay)}(h:(os.mapM fun i=>(pl[i]?).map fun o=>(i,o))=some l):(∀i po,(i,po)∈l→i∈os∧pl[i]?=some po)∧(∀i∈os,∃po,(i,po)∈l):=by
 induction os generalizing l with
 |nil=>simp at h;subst h;simp
 |cons a os ih=>
  obtain⟨b,r,h1,h2,rfl⟩:=je h;obtain⟨po,TP,rfl⟩:=map_some h1;obtain⟨e1,e2⟩:=ih h2;refine⟨fun i RN hm=>?_,fun i hi=>?_⟩
  ·rcases K3.1 hm with h|h
   ·cases h;exact⟨by simp,TP⟩
   ·exact⟨List.mem_cons_of_mem _ (e1 i RN h).1,(e1 i RN h).2⟩
  ·rcases K3.1 hi with h|h
   ·subst h;exact⟨po,by simp⟩
   ·obtain⟨q,hq⟩:=e2 i h;exact⟨q,List.mem_cons_of_mem _ hq⟩
theorem ata{μ:Mu}{G:Key→Option ah}{nx:Key}{w:World}(hM:aZ P ρ w0 μ G nx.toNat w):G nx=none:=by
 cases h:G nx with
 |none=>rfl
 |some B=>obtain⟨l,o,h1,_⟩:=hM.xG nx B h;exact absurd (hM.new nx l h1) (Nat.lt_irrefl _)
theorem TD{α:Type}{f:α→Nat}:∀{l:List α},(l.map f).Nodup→∀x∈l,∀y∈l,f x=f y→x=y
 | [],_,x,hx,_,_,_=>by cases hx
 |a ::l,h,x,hx,y,hy,e=>by
  simp only[Zw,List.nodup_cons]at h;rcases K3.1 hx with IS|IS<;>rcases K3.1 hy with UJ|UJ
  ·rw[IS,UJ]
  ·exact(h.1 (Rh.2 ⟨y,UJ,by rw[←e,IS]⟩)).elim
  ·exact(h.1 (Rh.2 ⟨x,IS,by rw[e,UJ]⟩)).elim
  ·exact TD h.2 x IS y UJ e
theorem Bn{α:Type}{f:α→Nat}(p:α→Bool){l:List α}(h:(l.map f).Nodup):((l.filter p).map f).Nodup:=
 List.Nodup.sublist (List.Sublist.map f List.filter_sublist) h
theorem fZ.Eg{μ:Mu}{G:Key→Option ah}{H:T ah}{nx:Key}{g:Gh}{aq:List (Nat×Key×ah)}{tm:T AV}{tmps:Array Value}{rest:List Nat}(S:fZ P ρ orc nt ops pl bf μ G H nx g (fun _=>False) aq tm tmps rest){l:List Nat}(hl:∀j∈l,j<ops.size→g.D j=true) :
  fZ P ρ orc nt ops pl bf μ G (cZ (aq.filter fun x=>memN x.1 l) H) nx g (fun i=>fY pl i=true) (aq.filter fun x=>!(memN x.1 l)) tm tmps rest:=by
 refine⟨S.Ov,S.ord,S.cl,S.sub,S.IT,S.lcl,S.a1,S.a2,S.sz,S.c1,S.c2,?_,?_,Bn _ S.nk,Bn _ S.ni⟩
 ·intro i hi hD;cases S.pd i hi hD with
  |skip po lW h1 h2 h3 h4 h5=>exact .skip po lW h1 h2 h3 h4 fun x hx=>h5 x ((List.mem_filter.1 hx).1)
  |light po lW v h1 h2 h3 BT h4 h5 h6=>
   refine .light po lW v h1 h2 h3 BT (fun hu=>?_) h5 fun x hx=>h6 x ((List.mem_filter.1 hx).1);obtain⟨V,a1,_⟩:=h4 (fun h=>h);refine⟨_,?_,VOk.refl _ _ _ _⟩;rw[←a1];apply KD;have:fY pl i=K7 po.op:=by simp[fY,h1]
   rw[this]at hu;simpa using hu
  |alloc po lW f B k h1 h2 h3 BT h4 h5 h6=>
   refine .alloc po lW f B k h1 h2 h3 BT h4 h5 (List.mem_filter.2 ⟨h6,?_⟩);show(!(memN i l))=true;cases hm:memN i l with
   |false=>rfl
   |true=>rw[hl i (KG hm) (S.IT i hi)]at hD;cases hD
 ·intro x hx;obtain⟨IS,hx2⟩:=List.mem_filter.1 hx;obtain⟨p1,p2,p3,p4,p5⟩:=S.pe x IS;refine⟨p1,p2,p3,yT p4 fun y hy e=>?_,p5⟩;obtain⟨UJ,hy2⟩:=List.mem_filter.1 hy;have:=TD S.nk y UJ x IS e;subst this;rw[hy2]at hx2;cases hx2
theorem TE{jj:List (Nat×List Nat)}(Zo:ep ρ orc){rest:List Nat}{g:Gh}{fr:Frame}{w:World}{μ:Mu}{G:Key→Option ah}{H:T ah}{nx:Key}{tm:T AV}{aq:List (Nat×Key×ah)}(hc:yY ops pl bf g.L []=true)(hM:aZ P ρ w0 μ G nx.toNat w)(hH:HSub H G)
  (S:fZ P ρ orc nt ops pl bf μ G H nx g (fun _=>False) aq tm fr.tmps rest) (hm:fr.mode=.run) (ht:fr.todo=.inRegion ops rest ::K):Ip P ρ orc nt w0 cs K ops pl bf fr w μ G H nx aq (gS orc jj [] aq tm H nx):=by
 have z6:∀j,j<ops.size→hasB g.L j=true:=by intro j hj;simp only[yY,vJ]at hc;exact hc j (by simpa using hj)
 have fC:gS orc jj [] aq tm H nx=.fin tm (cZ aq H) nx:=by show EL aq H (fun h=>RS.fin tm h nx)=_;rw[FW]
 rw[fC];obtain⟨dL,w',μ',G',D',kh,s1,s2,s3,s4,s5,s6,rfl⟩:=ace (cs:=cs) hM hH Zo S z6 hm ht;have hD:∀j,j<ops.size→D' j=true:=s5.ord;refine⟨dL,w',μ',G',s1.trans (.one (HT hm rfl)),s2,s3,I7 s4 (fun x hx=>(s5.pe x hx).2.1 (hD _ (s5.IT _ (s5.pe x hx).1))),?_,?_⟩
 ·refine⟨s5.sz,fun k a ha=>?_⟩;by_cases h:∃j,mv ops j=some k.toNat
  ·obtain⟨j,hj⟩:=h;have bG:=LO hj;exact s5.c1 k j a (hD j bG) hj (by rw[←s5.a1 k j (z6 j bG) hj];exact ha)
  ·have pF:∀j,mv ops j≠some k.toNat:=fun j hj=>h ⟨j,hj⟩;exact s5.c2 k a (fun j _=>pF j) (by rw[←s5.a2 k (fun j _=>pF j)];exact ha)
 ·refine⟨fun b hb hg hl=>?_,fa _⟩;have bU:∀x∈aq,x.2.1.toNat≠b.toNat:=fun x hx e=>hb (Rh.2 ⟨x,hx,e⟩);obtain⟨k1,k2⟩:=s6 b (fun x hx e=>bU x hx (by rw[e]));exact⟨k1,k2,yT hg bU⟩
theorem VR{jj:List (Nat×List Nat)}(YQ:zH bf jj=true)(Zo:ep ρ orc):∀(n:Nat) (uD:List IIt) (items:List aL) (rest:List Nat) (g:Gh) (fr:Frame) (w:World) (μ:Mu) (G:Key→Option ah) (H:T ah) (nx:Key) (tm:T AV) (aq:List (Nat×Key×ah)),uD.length≤n→
  uD.mapM (Eh pl)=some items→yY ops pl bf g.L uD=true→aZ P ρ w0 μ G nx.toNat w→HSub H G→fZ P ρ orc nt ops pl bf μ G H nx g (fun _=>False) aq tm fr.tmps rest→fr.mode=.run→fr.todo=.inRegion ops rest ::K→
  Ip P ρ orc nt w0 cs K ops pl bf fr w μ G H nx aq (gS orc jj items aq tm H nx):=by
 intro n
 induction n with
 |zero=>intro uD items rest g fr w μ G H nx tm aq hn hf hc hM hH S hm ht;have:uD=[]:=SK (by omega);subst this;simp at hf;subst hf;exact TE Zo hc hM hH S hm ht
 |succ n ih=>
  intro uD items rest g fr w μ G H nx tm aq hn hf hc hM hH S hm ht;cases uD with
  |nil=>simp at hf;subst hf;exact TE Zo hc hM hH S hm ht
  |cons x uD=>
   obtain⟨y,IB,hy,hf',rfl⟩:=je hf;have hn':uD.length≤n:=by simpa using hn
   have hrefl:Steps P (lone fr cs w) (lone {fr with tmps:=fr.tmps,todo:=.inRegion ops rest ::K} cs w):=by rw[←ht];exact Steps.refl _ _
   cases x with
   |L i=>
    obtain⟨po,qX,rfl⟩:=map_some hy;simp only[yY,kO,bltN_eq,decide_eq_true_eq,Bool.not_eq_true',Gn]at hc;obtain⟨⟨⟨⟨hi,hk⟩,hL⟩,hb⟩,hc⟩:=hc;have hk:=o9 hk;have hii:hasB (fA bf i) i=false:=by
     cases h:hasB (fA bf i) i with
     |false=>rfl
     |true=>have:=hb i hi h;rw[hL]at this;cases this
    have htm:=S.ako hi hL hb;have VN:∀x∈aq,x.1≠i:=by intro x hx e;have:=(S.pe x hx).1;rw[e,hL]at this;cases this
    rw[Vl];cases hw:cq po.guard tm with
    |none=>exact Or.inl ⟨_,rfl⟩
    |some b=>
     cases b with
     |false=>simp only[ew];have S':=S.add (nx':=nx) (pend':=aq) (v:=.tuple []) qX hL hb (fun _ h=>h) (fun _ h=>.inl h) (.skip po tm qX (xA hii htm) hw (by simp[xS]) VN) (fun y hy hny=>absurd hy hny) (fa _) S.nk S.ni;exact ih uD IB rest _ fr w μ G H nx _ aq hn' hf' hc hM hH S' hm ht
     |true=>
      cases hl:lightOp orc po.op tm (wE (DV i jj) aq H)with
      |none=>exact Or.inl ⟨_,rfl⟩
      |some v=>simp only[ew];have S':=S.add (nx':=nx) (pend':=aq) (v:=v) qX hL hb (fun _ h=>h) (fun _ h=>.inl h) (.light po tm v qX (xA hii htm) hw hk (fun _=>⟨_,hl,VOk.view YQ _ _ _⟩) (by simp[xS]) VN) (fun y hy hny=>absurd hy hny) (fa _) S.nk S.ni;exact ih uD IB rest _ fr w μ G H nx _ aq hn' hf' hc hM hH S' hm ht
   |A i=>
    obtain⟨po,qX,rfl⟩:=map_some hy;simp only[yY,kO,bltN_eq,decide_eq_true_eq,Bool.not_eq_true',Gn]at hc;obtain⟨⟨⟨⟨hi,hk⟩,hL⟩,hb⟩,hc⟩:=hc;have hk:=o9 hk;have hii:hasB (fA bf i) i=false:=by
     cases h:hasB (fA bf i) i with
     |false=>rfl
     |true=>have:=hb i hi h;rw[hL]at this;cases this
    have htm:=S.ako hi hL hb;have VN:∀x∈aq,x.1≠i:=by intro x hx e;have:=(S.pe x hx).1;rw[e,hL]at this;cases this
    have hss:=kTSu nx;rw[Vm];cases hw:cq po.guard tm with
    |none=>exact Or.inl ⟨_,rfl⟩
    |some b=>
     cases b with
     |false=>simp only[ew];have S':=S.add (nx':=nx) (pend':=aq) (v:=.tuple []) qX hL hb (fun _ h=>h) (fun _ h=>.inl h) (.skip po tm qX (xA hii htm) hw (by simp[xS]) VN) (fun y hy hny=>absurd hy hny) (fa _) S.nk S.ni;exact ih uD IB rest _ fr w μ G H nx _ aq hn' hf' hc hM hH S' hm ht
     |true=>
      cases hl:allocOp po.op tm with
      |none=>exact Or.inl ⟨_,rfl⟩
      |some fB=>
       obtain⟨f,B⟩:=fB;simp only[ew];have hgn:=ata hM;have hHn:ae nx H=none:=by
        cases h:ae nx H with
        |none=>rfl
        |some B=>rw[hH nx B h]at hgn;cases hgn
       have S':=S.add (nx':=nx.succ) (pend':=(i,nx,B) ::aq) (v:=f nx) qX hL hb (fun _ h=>List.mem_cons_of_mem _ h) (fun y h=>by rcases K3.1 h with h|h;exact .inr (by rw[h]);exact .inl h)
        (.alloc po tm f B nx qX (xA hii htm) hw hk hl (by simp[xS]) (by simp))
        (fun y hy hny=>by have:y=(i,nx,B):=(K3.1 hy).resolve_right hny;subst this;exact⟨hM.sN,hgn,hHn,by show nx.toNat<nx.succ.toNat;omega⟩) (by omega)
        (by simp only[Zw,List.nodup_cons];refine⟨fun h=>?_,S.nk⟩;obtain⟨x,hx,e⟩:=Rh.1 h;have:=(S.pe x hx).2.2.2.2;omega)
        (by simp only[Zw,List.nodup_cons];refine⟨fun h=>?_,S.ni⟩;obtain⟨x,hx,e⟩:=Rh.1 h;exact VN x hx e)
       have:=ih uD IB rest _ fr w μ G H nx.succ _ ((i,nx,B) ::aq) hn' hf' hc (hM.avR (by omega)) hH S' hm ht;refine Ip.step (tmps2:=fr.tmps) (rest2:=rest) (w2:=w) (pend2:=(i,nx,B) ::aq) hrefl μ.le_refl ⟨fun b _ hg hl=>⟨rfl,rfl,hg⟩,Nat.le_of_lt (show nx.toNat<nx.succ.toNat by omega)⟩ ?_ (by rw[←ht];exact this);intro x hx;simp only[pr,Zw,K3]at hx;rcases hx with h|h
       ·exact .inr (Nat.le_of_eq h.symm)
       ·exact .inl h
   |H i ad=>
    obtain⟨po,qX,rfl⟩:=map_some hy;cases uD with
    |nil=>simp[yY]at hc
    |cons x2 Rk=>
    cases x2 with
    |L _=>simp[yY]at hc
    |A _=>simp[yY]at hc
    |H _ _=>simp[yY]at hc
    |R osn=>
    obtain⟨y2,kW,hy2,hf2,rfl⟩:=je hf';obtain⟨os,VK,rfl⟩:=map_some hy2;obtain⟨aEO,aEP⟩:=akp VK;have Z2:Rk.length≤n:=by simp at hn;omega
    simp only[yY,kO,bltN_eq,decide_eq_true_eq,Bool.not_eq_true',Gn]at hc;obtain⟨⟨⟨⟨⟨⟨⟨⟨hi,hk⟩,hL⟩,hb⟩,YK⟩,qz⟩,Iz⟩,aEQ⟩,hc⟩:=hc;have hk:=o9 hk;have axG:∀j q,(j,q)∈os→pl[j]?=some q∧Ef ops bf j=true∧qW pl j=0:=by intro j q hj;obtain⟨e1,e2⟩:=aEO j q hj;have:=vJ.1 aEQ j e1;simp only[kO]at this;exact⟨e2,this.2,o9 this.1.2⟩
    have apu:∀j,hasB g.L j=true→fY pl j=true→hasB (fA bf i) j=true∨∃q,(j,q)∈os:=by
     intro j hj hr;have:=vJ.1 Iz j (by simpa using S.IT j hj);simp only[hj,hr,Bool.not_true,Bool.false_or,Bool.or_eq_true]at this;rcases this with h|h
     ·exact .inl h
     ·exact .inr (aEP j (by simpa using h))
    have atc:∀j,j<ops.size→hasB g.L j=true∨j=i∨∃q,q<ops.size∧hasB (fA bf j) q=true∧hasB g.L q=false:=by
     intro j hj;have:=vJ.1 YK j (by simpa using hj);simp only[Bool.or_eq_true,Bool.not_eq_true']at this;rcases this with(h|h)|h
     ·exact .inl h
     ·exact .inr (.inl (o9 h))
     ·refine .inr (.inr (Classical.byContradiction fun pF=>?_));have:Zb ops.size (fA bf j) g.L=true:=Gn.2 fun q hq hbq=>by
       cases hLq:hasB g.L q with
       |true=>rfl
       |false=>exact absurd ⟨q,hq,hbq,hLq⟩ pF
      rw[this]at h;cases h
    obtain⟨KH,w1,μ1,G1,D1,aIN,s1,s2,s3,s4,S1,s6,r1,rfl⟩:=Vs (cs:=cs) hM hH Zo S hi hL atc hm ht;have axH:∀j∈ad,j<ops.size→D1 j=true:=by intro j hj bG;exact S1.ready.2.2 j bG (vJ.1 qz j hj)
    have S2:=S1.Eg (l:=ad) axH;rw[Vn,w8];generalize hpf:(aq.filter fun x=>!(memN x.1 ad))=pend2 at S2;generalize hHf:cZ (aq.filter fun x=>memN x.1 ad) H=H2 at S2;have hH2:HSub H2 G1:=by rw[←hHf];refine I7 s4 fun x hx=>?_;obtain⟨IS,hx2⟩:=List.mem_filter.1 hx;exact(S1.pe x IS).2.1 (axH _ (KG hx2) (S1.IT _ (S1.pe x IS).1))
    have axI:∀x∈pend2,x∈aq:=by intro x hx;rw[←hpf]at hx;exact(List.mem_filter.1 hx).1
    have akq:∀x∈pr pend2,x∈pr aq∨nx.toNat≤x:=by intro x hx;obtain⟨y,hy,e⟩:=Rh.1 hx;exact .inl (Rh.2 ⟨y,axI y hy,e⟩)
    have hK2:Cw (pr aq) H H2 nx nx μ μ1 G G1:=by refine⟨fun b gx hg bY=>?_,fa _⟩;have bU:∀x∈aq,x.2.1.toNat≠b.toNat:=fun x hx e=>gx (Rh.2 ⟨x,hx,e⟩);obtain⟨k1,k2⟩:=s6 b (fun x hx e=>bU x hx (by rw[e]));rw[←hHf];exact⟨k1,k2,yT hg fun x hx=>bU x ((List.mem_filter.1 hx).1)⟩
    obtain⟨o,RN,MY,TP,GQ⟩:=S.Ov.at hi;rw[qX]at GQ;cases GQ;obtain⟨ki,TQ,BD⟩:=ic TP;have hsl:=S2.OG hL hb MY;have hE:=Gk (P:=P) (nt:=nt) (o:=o) (fr:={fr with tmps:=KH,todo:=.inRegion ops (i ::r1) ::K}) s3 hsl;have go:∀(a:AV) (v:Value) (w3:World) (μ3:Mu) (G3:Key→Option ah) (H3:T ah) (cF:Key),step P (lone {fr with tmps:=KH,todo:=.inRegion ops (i ::r1) ::K} cs w1)=.next (lone {fr with tmps:=GP o.dst v KH,todo:=.inRegion ops r1 ::K} cs w3)→
      aS ρ μ3 a v→μ1.le μ3→aZ P ρ w0 μ3 G3 cF.toNat w3→HSub H3 G3→Kept H2 H3 nx cF μ1 μ3 G1 G3→Ip P ρ orc nt w0 cs K ops pl bf fr w μ G H nx aq (gS orc jj (.R os ::kW) pend2 (bN po.dst a tm) H3 cF):=by
     intro a v w3 μ3 G3 H3 cF dy hv hle hM3 hH3 hK3;have S3:=S2.cy hle hK3.n (G':=G3) (H':=H3) (fun x hx=>by obtain⟨p1,p2,p3,p4,p5⟩:=S2.pe x hx;exact⟨hK3.m _ p5,hK3.g _ p4 p5,hK3.h _ p4 p5⟩)
     have S4:=S3.apm qX hL hb MY hv;rw[UG];cases hrc:recheck orc jj pend2 (bN po.dst a tm) H3 os with
     |false=>exact Or.inl ⟨_,rfl⟩
     |true=>
      simp only[cond_true];have S5:=S4.Tj YQ hrc axG (by
       intro j hj hDj hrj;have hDj:(D1 j||j==i)=false:=hDj;rw[Bool.or_eq_false_iff]at hDj;have bU:j≠i:=by simpa using hDj.2
       have hj:hasB (Jm g.L i) j=true:=hj;rw[Jz,Bool.or_eq_true,decide_eq_true_eq]at hj;have hjL:=hj.resolve_right (fun e=>bU e.symm);rcases apu j hjL hrj with h|h
       ·have:=S1.ready.2.2 j (S.IT j hjL) h;have:D1 j=true:=this;rw[hDj.1]at this;cases this
       ·exact h)
      have hE3:=ih Rk kW r1 _ {fr with tmps:=GP o.dst v KH,todo:=.inRegion ops r1 ::K} w3 μ3 G3 H3 cF _ pend2 Z2 hf2 hc hM3 hH3 S5 hm rfl;exact Ip.step (s1.trans (.one dy)) (Mu.le_trans s2 hle) (hK2.trans (hK3.toE (pr pend2)) akq) (fun x hx=>(akq x hx)) hE3
    have evt:∀r:OR,Region.wanted o (yielded ops KH)=true→aOp orc po.op tm H2 nx=r→¬BC r→Ip P ρ orc nt w0 cs K ops pl bf fr w μ G H nx aq (.ev r (.H i po ad ::.R os ::kW) pend2 tm H2 nx):=by intro r qi ha hr;exact Or.inr ⟨KH,w1,μ1,G1,{g with D:=D1},i,po,o,ad,os,Rk,kW,r1,s1,s2,s3,hH2,rfl,qX,hf2,hc,hL,hb,axG,apu,S2,MY,TP,qi,ha,hr,hK2,akq⟩
    show Ip P ρ orc nt w0 cs K ops pl bf fr w μ G H nx aq (match cq po.guard tm with
     |none=>.ev (.bad 35) (.H i po ad ::.R os ::kW) pend2 tm H2 nx
     |some false=>wD po.dst (some (.tuple [])) tm fun tm=>gS orc jj (.R os ::kW) pend2 tm H2 nx
     |some true=>match aOp orc po.op tm H2 nx with
      |.val v h nx=>wD po.dst (some v) tm fun tm=>gS orc jj (.R os ::kW) pend2 tm h nx
      |r=>.ev r (.H i po ad ::.R os ::kW) pend2 tm H2 nx)
    cases hw:cq po.guard tm with
    |none=>exact Or.inl ⟨_,rfl⟩
    |some b=>
     have qi:=AB TQ hsl hw;cases b with
     |false=>simp only[ew];have dy:=IU (P:=P) (cs:=cs) (w:=w1) (fr:={fr with tmps:=KH,todo:=.inRegion ops (i ::r1) ::K}) hm rfl MY qi;rw[cv rfl MY]at dy;exact go _ _ w1 μ1 G1 H2 nx dy (.tuple _ _ .nil) μ1.le_refl s3 hH2 (Kept.refl _ _ _ _)
     |true=>
      cases ha:aOp orc po.op tm H2 nx with
      |val a H3 cF=>
       simp only[ew];obtain⟨n,w3,μ3,G3,q1,q2,q3,q4,q5,q6⟩:=Ty s3 hH2 Zo ki hE ha;have Of:fr.roundOf=none∨eW o.op=false:=.inr (zL ki (by rw[ha];intro f l e;cases e) (by rw[ha];intro n e;cases e));cases n with
       |value v=>have dy:=UQ (P:=P) (cs:=cs) (fr:={fr with tmps:=KH,todo:=.inRegion ops (i ::r1) ::K}) hm rfl MY qi Of q1;rw[cv rfl MY]at dy;exact go _ _ w3 μ3 G3 H3 cF dy q2 q3 q4 q5 q6
       |skip=>have q2:a=.tuple []:=q2;subst q2;have dy:=adx (P:=P) (cs:=cs) (fr:={fr with tmps:=KH,todo:=.inRegion ops (i ::r1) ::K}) hm rfl MY qi Of q1;rw[cv rfl MY]at dy;exact go _ _ w3 μ3 G3 H3 cF dy (.tuple _ _ .nil) q3 q4 q5 q6
       |_=>exact q2.elim
      |bad n=>exact Or.inl ⟨_,rfl⟩
      |call f args=>exact evt _ qi ha (by rintro(⟨_,_,_,e⟩|⟨_,e⟩)<;>cases e)
      |yld k args=>exact evt _ qi ha (by rintro(⟨_,_,_,e⟩|⟨_,e⟩)<;>cases e)
      |pan v=>exact evt _ qi ha (by rintro(⟨_,_,_,e⟩|⟨_,e⟩)<;>cases e)
      |dfr f args=>exact evt _ qi ha (by rintro(⟨_,_,_,e⟩|⟨_,e⟩)<;>cases e)
      |recover=>exact evt _ qi ha (by rintro(⟨_,_,_,e⟩|⟨_,e⟩)<;>cases e)
   |R os=>simp[yY]at hc
end
def JA(P:Program)(ρ:Nat→Int)(w0:W0)(f:Nat)(l:List AV)(H:T ah)(nx:Key)(a:AV)(H':T ah)(nx':Key):Prop:=∀(args:Array Value) (w:World) (μ:Mu) (G:Key→Option ah),aZ P ρ w0 μ G nx.toNat w→HSub H G→ax ρ μ l args.toList→
 Calls P f args w fun e w'=>∃u μ' G',e=.returned u∧aS ρ μ' a u∧μ.le μ'∧aZ P ρ w0 μ' G' nx'.toNat w'∧HSub H' G'∧Kept H H' nx nx' μ μ' G G'
structure Ctx(P:Program)(ρ:Nat→Int)(w0:W0)(C:bK):Prop where
 sum:∀f l H nx a H' nx',C.sum f l H nx=some (a,H',nx')→JA P ρ w0 f l H nx a H' nx'
 has : ∀ f l H nx r, C.sum f l H nx = some r → ∃ fn, P.funcs[f]? = some fn ∧ fn.body.isSome = true ∧ fn.name ≠ "runtime.NumGoroutine"
 orc:ep ρ C.orc
 fns:∀f p,(bif Nat.beq (Key.fe 12 f).toNat f then ae (Key.fe 12 f) C.fns else none)=some p→Hb P f=some p
 mix:P.follows .mixedOrders=true
section
variable{P:Program}{ρ:Nat→Int}{orc:iG}{nt:Nat}{w0:W0}{w:World}{μ:Mu}{G:Key→Option ah}{H:T ah}{nx:Key}
theorem abY{id:Nat}{k:List cT}{K:List Item}(h:mg P μ nt k K) :
  (∀k',lL id k=some k'→∃K',exitTo id K=some K'∧mg P μ nt k' K')∧(lL id k=none→exitTo id K=none):=by
 induction h with
 |nil=>exact⟨fun k' e=>(by cases e),fun _=>rfl⟩
 |cons a x l k h h' ih=>
  cases h with
  |inBlock id'=>
   simp only[lL,exitTo,beqN_eq];by_cases e:id'=id
   ·subst e;simp only[decide_true,cond_true,beq_self_eq_true,if_true];exact⟨fun k' e=>(by cases e;exact⟨_,rfl,h'⟩),fun e=>(by cases e)⟩
   ·have:(id'==id)=false:=by simpa using e
    simp only[e,decide_false,cond_false,this,SH,if_false];exact ih
  |code pc c h=>exact ih
  |inLoop pc c h=>exact ih
  |ops l ops rest h=>exact ih
  |inRF k l r h hr=>exact ih
  |endRF k l r h hr=>exact ih
  |beginRound=>exact ih
  |scope c=>exact ih
noncomputable def gw:List AV→Key→T AV→T AV
 | [],_,tm=>tm
 |v ::l,k,tm=>gw l k.succ (av k (some v) tm)
theorem BB{R:Type}:∀(l:List AV) (k:Key) (tm:T AV) (c:T AV→R),Ug l k tm c=c (gw l k tm)
 | [],_,_,_=>rfl
 |v ::l,k,tm,c=>by show vU k (some v) tm (fun tm=>Ug l k.succ tm c)=_;rw[sTCe,BB l];rfl
theorem M7:∀(l:List AV) (k:Key) (tm:T AV) (q:Key) (a:AV),ae q (gw l k tm)=some a→(k.toNat≤q.toNat∧l[q.toNat-k.toNat]?=some a)∨ae q tm=some a
 | [],_,_,_,_,h=>.inr h
 |v ::l,k,tm,q,a,h=>by
  have hs:=kTSu k;rcases M7 l k.succ _ q a h with⟨h1,h2⟩|h1
  ·refine .inl ⟨by omega,?_⟩;have:q.toNat-k.toNat=(q.toNat-k.succ.toNat)+1:=by omega
   rw[this];simpa using h2
  ·by_cases e:q=k
   ·subst e;rw[gTSm]at h1;cases h1;exact .inl ⟨fa _,by simp⟩
   ·rw[aR _ _ _ _ e]at h1;exact .inr h1
theorem abZ{args:Array Value}{l:List AV}(h:ax ρ μ l args.toList):j5 ρ μ nt (gw l .z .nil) (args++Array.replicate (nt-args.size) undef):=by
 refine⟨by simp;omega,fun q a hq=>?_⟩;rcases M7 l .z .nil q a hq with⟨_,h2⟩|h2
 ·have h2:l[q.toNat]?=some a:=by simpa[Key.toNat]using h2
  obtain⟨v,hv,hr⟩:=h.get _ _ h2;refine⟨v,?_,hr⟩;have bY:q.toNat<args.size:=by
   rcases Jy q.toNat args.size with h'|h'
   ·exact h'
   ·rw[zqo (by simpa using h')]at hv;cases hv
  rw[Array.getElem?_append_left bY];simpa using hv
 ·simp at h2
theorem sW {f : Nat} {p : ej} (h : Hb P f = some p) : ∃ fn c, P.funcs[f]? = some fn ∧ fn.body = some c ∧ fn.name ≠ "runtime.NumGoroutine" ∧ gC P fn.ntmps c = some p.body ∧ Rf P fn.ntmps fn.results.toList = some p.res := by
 unfold Hb at h;split at h
 ·cases h
 ·rename_i fn hfn;split at h
  ·cases h
  ·rename_i c hc;cases hn : (fn.name == "runtime.NumGoroutine") with
   |true=>rw[hn]at h;cases h
   |false=>
    rw[hn]at h;simp only[cond_false]at h;split at h
    ·rename_i b r hb hr;cases h;exact⟨fn,c,hfn,hc,by simpa using hn,hb,hr⟩
    ·cases h
theorem vH{f:Nat}{p:ej}(hp:Hb P f=some p){l:List AV}{args:Array Value}(hl:ax ρ μ l args.toList)(Ew:Bool) :
  Zc P ρ orc μ G H nx {fn:=f,tm:=gw l .z .nil,todo:=[.code p.body],dfs:=[],mode:=.run,Ew,sV:=none,res:=p.res} (Frame.enter P f args (if Ew then .deferred else .normal)):=by
 obtain⟨fn,c,h1,h2,h3,h4,h5⟩:=sW hp;refine .run fn.ntmps ⟨rfl,⟨fn,h1,rfl,h5⟩,trivial,rfl,trivial,fun h=>absurd rfl h⟩ rfl rfl ?_;simp only[Frame.enter,h1,Option.map_some,Option.getD_some,Option.bind_some,h2];exact .plain _ _ _ _ (.cons _ _ _ _ (.code _ _ h4) .nil) (abZ hl)
theorem j5.set{tm:T AV}{tmps:Array Value}(h:j5 ρ μ nt tm tmps){k:Key}(bY:k.toNat<nt){a:AV}{v:Value}(hv:aS ρ μ a v):j5 ρ μ nt (av k (some a) tm) (tmps.setIfInBounds k.toNat v):=by
 refine⟨by simp;exact h.1,fun q b hb=>?_⟩;by_cases hq:q=k
 ·subst hq;rw[gTSm]at hb;cases hb;have:q.toNat<tmps.size:=Lk bY h.1;exact⟨v,by simp[this],hv⟩
 ·rw[aR _ _ _ _ hq]at hb;obtain⟨u,hu,hr⟩:=h.2 q b hb;refine⟨u,?_,hr⟩;rw[zqn]
  ·exact hu
  ·intro e;exact hq (Key.toNat_inj e.symm)
noncomputable def alh:List Key→List AV→T AV→T AV
 |k ::l,v ::m,tm=>alh l m (av k (some v) tm)
 |_,_,tm=>tm
theorem SE{R:Type}:∀(ks:List Key) (vs:List AV) (tm:T AV) (bad:R) (c:T AV→R),Uh ks vs tm bad c=bad∨(ks.length=vs.length∧Uh ks vs tm bad c=c (alh ks vs tm))
 | [],[],tm,bad,c=>.inr ⟨rfl,rfl⟩
 | [],_ ::_,tm,bad,c=>.inl rfl
 |_ ::_,[],tm,bad,c=>.inl rfl
 |k ::l,v ::m,tm,bad,c=>by
  have e:Uh (k ::l) (v ::m) tm bad c=Uh l m (av k (some v) tm) bad c:=by show vU k (some v) tm (fun tm=>Uh l m tm bad c)=_;rw[sTCe]
  rw[e];rcases SE l m (av k (some v) tm) bad c with h|⟨h1,h2⟩
  ·exact .inl h
  ·exact .inr ⟨by simp[h1],h2⟩
theorem VP:∀{ks:List Key} {vs:List AV} {us:List Value} {tm:T AV} {tmps:Array Value},(∀k∈ks,k.toNat<nt)→ks.length=vs.length→ax ρ μ vs us→j5 ρ μ nt tm tmps→
  j5 ρ μ nt (alh ks vs tm) (((ks.map Key.toNat).zip us).foldl (fun tmps (x:Nat×Value)=>tmps.setIfInBounds x.1 x.2) tmps)
 | [],[],_,_,_,_,_,.nil,h=>h
 | [],_ ::_,_,_,_,_,hl,_,_=>by cases hl
 |_ ::_,[],_,_,_,_,hl,_,_=>by cases hl
 |k ::ks,v ::vs,_,tm,tmps,hk,hl,.cons _ _ u us h h',ht=>by exact VP (ks:=ks) (vs:=vs) (fun q hq=>hk q (by simp[hq])) (by simpa using hl) h' (ht.set (hk k (by simp)) h)
noncomputable def jA:List Key→T AV→T AV
 | [],tm=>tm
 |k ::l,tm=>jA l (av k none tm)
theorem oe{R:Type}:∀(l:List Key) (tm:T AV) (c:T AV→R),IA l tm c=c (jA l tm)
 | [],_,_=>rfl
 |k ::l,tm,c=>by show vU k none tm (fun tm=>IA l tm c)=_;rw[sTCe,oe l];rfl
theorem Qx:∀(l:List Key) (tm:T AV) (q:Key) (a:AV),ae q (jA l tm)=some a→(∀k∈l,k≠q)∧ae q tm=some a
 | [],_,_,_,h=>⟨fun _ h=>(by cases h),h⟩
 |k ::l,tm,q,a,h=>by
  obtain⟨h1,h2⟩:=Qx l _ q a h;have bU:k≠q:=by intro e;subst e;rw[gTSm]at h2;cases h2
  rw[aR _ _ _ _ (fun e=>bU e.symm)]at h2;refine⟨fun x hx=>?_,h2⟩;rcases K3.1 hx with e|e
  ·rw[e];exact bU
  ·exact h1 x e
theorem fZ.erase{ops:Array Oper}{pl:List ay}{bf:List Nat}{g:Gh}{CY:Nat→Prop}{aq:List (Nat×Key×ah)}{tm:T AV}{tmps:Array Value}{rest:List Nat}(S:fZ P ρ orc nt ops pl bf μ G H nx g CY aq tm tmps rest){iJ:List Key}(hd:La ops iJ) :
  j5 ρ μ nt (jA iJ tm) tmps:=by
 refine⟨S.sz,fun q a hq=>?_⟩;obtain⟨h1,h2⟩:=Qx _ _ _ _ hq;have pF:∀j,mv ops j≠some q.toNat:=by intro j hj;obtain⟨k,hk,e⟩:=hd j _ hj;exact h1 k hk (Key.toNat_inj e)
 rw[S.a2 q fun j _=>pF j]at h2;exact S.c2 q a (fun j _=>pF j) h2
theorem Jq.finish{k:List cT}{tm:T AV}{K:List Item}{tmps:Array Value}(h:Jq P ρ orc μ G H nx nt k tm K tmps){af af':lG}(hk:af.todo=k)(ht:af.tm=tm){fr:Frame}(hK:fr.todo=K)(hT:fr.tmps=tmps){a:AV}{v:Value}(hv:aS ρ μ a v)
  (hf:cz a af=some af'):VQ P ρ orc μ G H nx nt af'.todo af'.tm (fr.finish v).todo (fr.finish v).tmps∧pk af'=pk af∧(∃aW k2,af'={af with tm:=aW,todo:=k2})∧(∃tmps2 K2,fr.finish v={fr with tmps:=tmps2,todo:=K2}):=by
 cases h with
 |ops o l ops i rest k K tm tmps hp h ht'=>
  subst ht hT;simp only[cz,hk,ew,dI]at hf;subst hf;have hp0:=hp;simp only[mu]at hp;split at hp
  ·cases hp
  ·rename_i oo MY;split at hp
   ·rename_i RN l' h1 h2;simp only[dI,List.cons.injEq]at hp;obtain⟨rfl,rfl⟩:=hp;obtain⟨ki,TQ,BD⟩:=ic h1;rw[cv hK MY];exact⟨.plain _ _ _ _ (.cons _ _ _ _ (.ops _ _ _ h2) h) (ht'.put BD hv),by simp[pk,hk],⟨_,_,rfl⟩,⟨_,_,rfl⟩⟩
   ·cases hp
 |staged ops pl bf g i po ad os uD items iJ aq k K tm tmps rest qX hf' hc hL SB hd h VK Iz S=>
  subst ht hT;simp only[cz,hk,ew,dI]at hf;subst hf;obtain⟨hi,hDi,nC⟩:=S.ready;obtain⟨o,RN,MY,TP,GQ⟩:=S.Ov.at hi;rw[qX]at GQ;cases GQ;rw[cv hK MY];have S4:=S.apm qX hL SB MY hv;refine⟨.back ops pl bf _ os uD items iJ aq k K _ _ rest hf' hc hd h VK ?_ S4,by simp[pk,hk],⟨_,_,rfl⟩,⟨_,_,rfl⟩⟩;intro j hj hDj hrj;have hDj:(g.D j||j==i)=false:=hDj;rw[Bool.or_eq_false_iff]at hDj;have bU:j≠i:=by simpa using hDj.2
  have hj:hasB (Jm g.L i) j=true:=hj;rw[Jz,Bool.or_eq_true,decide_eq_true_eq]at hj;have hjL:=hj.resolve_right (fun e=>bU e.symm);rcases Iz j hjL hrj with h|h
  ·have:=nC j (S.IT j hjL) h;rw[hDj.1]at this;cases this
  ·exact h
 |rf key l k K tm tmps asO h ht'=>
  subst ht hT;simp only[cz,hk,dI]at hf;subst hf;have e:fr.finish v={fr with todo:=.endRangeFunc l.c ::K}:=by simp[Frame.finish,hK]
  rw[e];exact⟨.plain _ _ _ _ (.cons _ _ _ _ (.endRF _ _ _ asO rfl) h) ht',by simp[pk,hk],⟨_,_,rfl⟩,⟨_,_,rfl⟩⟩
def afJ(tmps:Array Value):ResultVar→Sem Value
 |.tmp t=>pure (tmps.getD t undef)
 |.cell a t=>do loadVar t (←asAddr (tmps.getD a undef))
theorem Cr(hM:aZ P ρ w0 μ G nx.toNat w)(hH:HSub H G){tm:T AV}{tmps:Array Value}(hT:j5 ρ μ nt tm tmps):∀{rs:List ResultVar} {res:List RV} {l:List AV},Rf P nt rs=some res→resultsA H tm res=some l→
  ∃vs,(rs.mapM (afJ tmps)).run P w=.ok vs w∧ax ρ μ l vs
 | [],res,l,hp,hr=>by simp only[Rf,dI]at hp;subst hp;simp only[resultsA,dI]at hr;subst hr;exact⟨[],by simp[uE],.nil⟩
 |.tmp t ::rs,res,l,hp,hr=>by
  simp only[Rf]at hp;split at hp
  ·rename_i k r hk hrs;cases hp;simp only[resultsA]at hr;split at hr
   ·rename_i a l' ha Te;cases hr;obtain⟨vs,h1,h2⟩:=Cr hM hH hT hrs Te;obtain⟨v,hv,hvr⟩:=hT.2 _ _ ha;rw[(nY hk).1]at hv;refine⟨v ::vs,?_,.cons _ _ _ _ hvr h2⟩;have hg:tmps.getD t undef=v:=by simp[Array.getD_eq_getD_getElem?,hv]
    rw[List.mapM_cons];simp only[afJ,qC,uE,nz,hg,h1]
   ·cases hr
  ·cases hp
 |.cell a t ::rs,res,l,hp,hr=>by
  simp only[Rf]at hp;split at hp
  ·rename_i k i r hk hi hrs;cases hp;simp only[resultsA]at hr;split at hr
   ·rename_i b off l' ha Te;split at hr
    ·rename_i x hx;cases hr;obtain⟨vs,h1,h2⟩:=Cr hM hH hT hrs Te;obtain⟨v,hv,hvr⟩:=hT.2 _ _ ha;rw[(nY hk).1]at hv;have hg:tmps.getD a undef=v:=by simp[Array.getD_eq_getD_getElem?,hv]
     cases hvr with|ptr _ _ lc ad BQ qz=>
     subst qz;simp only[loadB]at hx;split at hx
     ·rename_i L ck hL;obtain⟨ii,d,z,e1,e2,e3,e4,e5,e6⟩:=jJ hi;rw[e5,e6]at hx;obtain⟨u,hu,hur⟩:=He hM (hH _ _ hL) e1 e2 hx BQ;refine⟨u ::vs,?_,.cons _ _ _ _ hur h2⟩;rw[List.mapM_cons];simp only[afJ,qC,uE,nz,hg,asAddr,hu,h1]
     ·cases hx
    ·cases hr
   ·cases hr
  ·cases hp
def Ke(vs:List Value):Value:=if h:vs.toArray.size=1 then vs.toArray[0]else .tuple vs.toArray
theorem Z1{l:List AV}{vs:List Value}(h:ax ρ μ l vs):aS ρ μ (mz l) (Ke vs):=by
 cases h with
 |nil=>exact .tuple _ _ .nil
 |cons a l v vs h h'=>
  cases h' with
  |nil=>exact h
  |cons b l v2 vs h5 h6=>
   have:Ke (v ::v2 ::vs)=.tuple (v ::v2 ::vs).toArray:=by simp[Ke]
   rw[this];exact .tuple _ _ (.cons _ _ _ _ h (.cons _ _ _ _ h5 h6))
theorem RG(hM:aZ P ρ w0 μ G nx.toNat w)(hH:HSub H G){tm:T AV}{tmps:Array Value}(hT:j5 ρ μ nt tm tmps){fn:Func}{res:List RV}{l:List AV}(hp:Rf P nt fn.results.toList=some res)(hr:resultsA H tm res=some l) :
  ∃vs,(results fn tmps).run P w=.ok (Ke vs) w∧ax ρ μ l vs:=by
 obtain⟨vs,h1,h2⟩:=Cr hM hH hT hp hr;have aEb:results fn tmps=(do
   let vs ←fn.results.mapM (afJ tmps)
   pure (if h:vs.size=1 then vs[0]else .tuple vs)):=by
  unfold results;congr 1
 refine⟨vs,?_,h2⟩;have hm:fn.results.mapM (afJ tmps)=Functor.map List.toArray (fn.results.toList.mapM (afJ tmps)):=by rw[←List.mapM_toArray]
 rw[aEb,hm];simp only[map_eq_pure_bind,bind_assoc,pure_bind,qC,h1,nz,uE];rfl
end
def Good(P:Program)(ρ:Nat→Int)(C:bK)(w0:W0)(μ0:Mu)(rest:List Frame)(m:Machine):SR→Prop
 |.next am'=>∃gD Gj w',Steps P m (lone gD (Gj++rest) w')∧DS P ρ C.orc w0 μ0 am' gD Gj w'
 |.done f v h nx=>∃gD w' μ G u,Steps P m (lone gD rest w')∧gD.fn=f∧gD.leaving P w' (.returned u)∧aS ρ μ v u∧μ0.le μ∧aZ P ρ w0 μ G nx.toNat w'∧HSub h G
 |_=>True
section
variable{P:Program}{ρ:Nat→Int}{C:bK}{nt:Nat}{w0:W0}{w:World}{μ0 μ:Mu}{G:Key→Option ah}{H:T ah}{nx:Key}{rest cs:List Frame}{fr:Frame}{af:lG}{jG:List lG}{K:List Item}{k:List cT}
theorem Good.steps{m m':Machine}{r:SR}(h:Steps P m m')(g:Good P ρ C w0 μ0 rest m' r):Good P ρ C w0 μ0 rest m r:=by
 cases r with
 |next am'=>obtain⟨gD,Gj,w',h1,h2⟩:=g;exact⟨gD,Gj,w',h.trans h1,h2⟩
 |done f v hh nx=>obtain⟨gD,w',μ,G,u,h1,h2⟩:=g;exact⟨gD,w',μ,G,u,h.trans h1,h2⟩
 |pan v hh nx=>trivial
 |bad n m=>trivial
theorem zJ.todo(h:zJ P ρ μ nt af fr)(t:T AV)(k:List cT)(T:Array Value)(K:List Item):zJ P ρ μ nt {af with tm:=t,todo:=k} {fr with tmps:=T,todo:=K}:=
 ⟨h.fn,h.Y0,h.dfs,h.kind,h.sV,h.rd⟩
theorem agp{af:lG}(h:mg P μ nt af.todo K):pk af=[]:=by
 unfold pk;split
 ·rename_i i d p k' e;rw[e]at h;cases h with|cons _ _ _ _ h _=>cases h
 ·rfl
theorem anT:∀{jG:List lG} {cs:List Frame},dH P ρ C.orc μ G H nx jG cs→∀x∈bB jG,x<nx.toNat
 | [],[],_,x,hx=>by cases hx
 | [],_ ::_,h,_,_=>h.elim
 |_ ::_,[],h,_,_=>h.elim
 |a ::jG,f ::cs,h,x,hx=>by
  simp only[bB,List.mem_append]at hx;rcases hx with hx|hx
  ·cases h.1 with
   |wait nt hb h1 h2 h=>
    unfold pk at hx;split at hx
    ·rename_i i d p k' e;rw[e]at h;generalize f.todo=KK at h;generalize f.tmps=TT at h;generalize a.tm=tt at h;cases h with
     |staged ops pl bf g i po ad os uD items iJ aq k K tm tmps rest qX hf hc hL SB hd h VK Iz S=>obtain⟨y,hy,e⟩:=Rh.1 hx;rw[←e];exact(S.pe y hy).2.2.2.2
    ·cases hx
   |unw h hm=>
    cases h with
    |run nt hb h1=>exact absurd h1 hm
    |ret nt hb h1 h2 h3 h=>unfold pk at hx;rcases h3 with h3|⟨k,h3⟩<;>rw[h3]at hx<;>cases hx
    |pan nt hb v u r h1 h2 hv h3 h=>unfold pk at hx;rw[h3]at hx;cases hx
  ·exact anT h.2 x hx
theorem dH.kept{μ':Mu}{G':Key→Option ah}{H':T ah}{nx':Key}(hm:μ.le μ')(hk:Kept H H' nx nx' μ μ' G G')(h:dH P ρ C.orc μ G H nx jG cs):dH P ρ C.orc μ' G' H' nx' jG cs:=
 h.cy hm hk.n fun b _ hg hl=>⟨hk.m b hl,hk.g b hg hl,hk.h b hg hl⟩
theorem dH.anU{E:List Nat}{μ':Mu}{G':Key→Option ah}{H':T ah}{nx':Key}(hm:μ.le μ')(hk:Cw E H H' nx nx' μ μ' G G')(hE:∀x∈E,x∉bB jG)(h:dH P ρ C.orc μ G H nx jG cs):dH P ρ C.orc μ' G' H' nx' jG cs:=
 h.cy hm hk.n fun b hb hg hl=>hk.k b (fun he=>hE _ he hb) hg hl
theorem qY(h0:μ0.le μ)(hM:aZ P ρ w0 μ G nx.toNat w)(hH:HSub H G)(hb:zJ P ρ μ nt af fr)(h1:af.mode=.run)(h2:fr.mode=.run)(hk:mg P μ nt af.todo fr.todo)(hT:j5 ρ μ nt af.tm fr.tmps)
  (hS:dH P ρ C.orc μ G H nx jG cs) (hn:(bB jG).Nodup):DS P ρ C.orc w0 μ0 ⟨af,jG,H,nx⟩ fr cs w:=
 ⟨μ,G,h0,hM,hH,.run nt hb h1 h2 (.plain _ _ _ _ hk hT),hS,by simp[bB,agp hk,hn]⟩
theorem Sus.finish{c c':lG}{cf:Frame}(h:Sus P ρ C.orc μ G H nx c cf){a:AV}{v:Value}(hv:aS ρ μ a v)(hf:cz a c=some c'):Zc P ρ C.orc μ G H nx c' (cf.finish v)∧pk c'=pk c:=by
 cases h with
 |wait nt hb h1 h2 h=>obtain⟨h3,h4,⟨aW,k2,h5⟩,⟨T2,K2,h6⟩⟩:=h.finish rfl rfl rfl rfl hv hf;refine⟨?_,h4⟩;rw[h6]at h3 ⊢;subst h5;exact .run nt (hb.todo _ _ _ _) h1 h2 h3
 |unw h hm=>
  cases h with
  |run nt hb h1=>exact absurd h1 hm
  |ret nt hb h1 h2 h3 h=>rcases h3 with h3|⟨k,h3⟩<;>simp[cz,h3]at hf
  |pan nt hb v u r h1 h2 hv h3 h=>simp[cz,h3]at hf
noncomputable def b9(raw:Bool)(l:List AV)(H:T ah):List AV×T ah:=bif raw then(l,H)else bC (aN 9999) l H
theorem wc{R:Type}(raw:Bool)(l:List AV)(H:T ah)(c:List AV→T ah→R):agq raw l H c=c (b9 raw l H).1 (b9 raw l H).2:=by
 cases raw
 ·show K9 (frz 9999) l H c=_;rw[vq (Et 9999)];rfl
 ·rfl
theorem Jo(raw:Bool)(hM:aZ P ρ w0 μ G nx.toNat w)(hH:HSub H G){l:List AV}{us:List Value}(h:ax ρ μ l us):∃μ' G',iC P ρ w0 w nx μ G H μ' G' (b9 raw l H).2∧ax ρ μ' (b9 raw l H).1 us:=by
 cases raw
 ·exact od (BA 9999) l us μ G H hM hH h
 ·exact⟨μ,G,iC.refl hM hH,h⟩
theorem Eu(X:Ctx P ρ w0 C)(f:Nat)(args:List AV)(Ew:Bool)(bad:SR)(c:lG→SR):Ey C f args Ew bad c=bad∨
  ∃p,Hb P f=some p∧Ey C f args Ew bad c=c {fn:=f,tm:=gw args .z .nil,todo:=[.code p.body],dfs:=[],mode:=.run,Ew,sV:=none,res:=p.res}:=by
 unfold Ey;split
 ·rename_i p hp;exact .inr ⟨p,X.fns f p hp,by rw[BB]⟩
 ·exact .inl rfl
theorem aej{l:Nat}{L:Loop}{args:Array Value}(h:w.heap[l]?=some (.loop L))(hs:args.size=L.params.size) :
  (Instr.yield l args).run P w=.ok (.round l L.fn ((L.params.zip args).foldl (fun tmps (x:Nat×Value)=>tmps.setIfInBounds x.1 x.2) L.tmps) L.assign L.body) w:=by
 simp[Instr.yield,Instr.getLoop,getObj,Sem.run,h,hs]
theorem Jp(hM:aZ P ρ w0 μ G nx.toNat w){b:Key}{st:LS}{pd:Option aG}{fn:Nat}{tm:T AV}{res:List RV}{params:List Key}{as bd:aG}{dfs:Key}(hb:G b=some (.loop st pd fn tm res params as bd dfs)) :
  ∃l L nt ld,μ b=some l∧w.heap[l.c]?=some (.loop L)∧acm st L.state∧(∀n,SC P n pd L.pending)∧L.fn=fn∧j5 ρ μ nt tm L.tmps∧TO params L.params.toList∧(∀k∈params,k.toNat<nt)∧agr P nt as L.assign∧agr P nt bd L.body∧μ dfs=some ld∧L.defers=ld.c∧ags P fn nt res:=by
 obtain⟨l,o,h1,h2,h3⟩:=hM.xG b _ hb;cases h3 with
 |loop st pd fn nt tm res params as bd dfs ld l L e1 e2 e3 e4 e5 e5' e6 e7 e8 e9 e10=>exact⟨l,L,nt,ld,h1,h2,e1,e2,e3,e4,e5,e5',e6,e7,e8,e9,e10⟩
theorem OE(X:Ctx P ρ w0 C){ops:Array Oper}{i:Nat}{kh:List Nat}{o:Oper}{po:ay}{r:OR}{aW:T AV}(h0:μ0.le μ)(hM:aZ P ρ w0 μ G nx.toNat w)(hH:HSub H G)(hb:zJ P ρ μ nt af fr)(h1:af.mode=.run)(hm:fr.mode=.run)
  (ht:fr.todo=.inRegion ops (i ::kh) ::K) (ho:ops[i]?=some o) (TP:Me P nt ops o=some po) (hw:Region.wanted o (yielded ops fr.tmps)=true)
  (hE:zK P ρ μ nt o.op.operands.toList af.tm fr.eval) (ha:aOp C.orc po.op af.tm H nx=r) (hr:¬BC r)
  (hW:Jq P ρ C.orc μ G H nx nt af.todo af.tm fr.todo fr.tmps) (hS:dH P ρ C.orc μ G H nx jG cs) (hn:(bB (af ::jG)).Nodup) (hT2:j5 ρ μ nt aW fr.tmps) :
  Good P ρ C w0 μ0 rest (lone fr (cs++rest) w) (iK C r af {af with tm:=aW,todo:=[]} jG H nx):=by
 obtain⟨ki,TQ,BD⟩:=ic TP;have agt:Sus P ρ C.orc μ G H nx af fr:=.wait nt hb h1 hm hW;have VN:(bB jG).Nodup:=(List.nodup_append.1 hn).2.1;cases r with
 |val a H' nx'=>exact absurd (pn _ _ _) hr
 |bad n=>exact absurd (dc _) hr
 |call f l=>
  have Of:fr.roundOf=none∨eW o.op=false:=.inr (zL ki (by rw[ha];intro f l e;cases e) (by rw[ha];intro n e;cases e));simp only[iK,wc];have key : ∀ {fn : Func}, P.funcs[f]? = some fn → fn.body.isSome = true → fn.name ≠ "runtime.NumGoroutine" → ∃ args μ1 G1, step P (lone fr (cs ++ rest) w) = .next (lone (Frame.enter P f args .normal) (fr :: cs ++ rest) w) ∧
    iC P ρ w0 w nx μ G H μ1 G1 (b9 (C.raw f) l H).2∧ax ρ μ1 (b9 (C.raw f) l H).1 args.toList:=by
   intro fn f1 f2 f3;obtain⟨args,q1,q2⟩:=Zd (w:=w) ki hE ha f1 f2 f3;obtain⟨μ1,G1,x1,x2⟩:=Jo (C.raw f) hM hH q2;exact⟨args,μ1,G1,agu (P:=P) (cs:=cs++rest) hm ht ho hw Of q1,x1,x2⟩
  generalize b9 (C.raw f) l H=lh at key;obtain⟨l1,H1⟩:=lh;simp only at key ⊢;split
  ·rename_i v H2 aU Ze;split
   ·rename_i af' hf;have hso:=X.sum f l1 H1 nx v H2 aU Ze;obtain⟨fn,f1,f2,f3⟩:=X.has f l1 H1 nx _ Ze;obtain⟨args,μ1,G1,dy,x1,x2⟩:=key f1 f2 f3;obtain⟨e,w',gD,⟨u,μ',G',rfl,y2,y3,y4,y5,y6⟩,apE,hfn,apF⟩:=hso args w μ1 G1 x1.M x1.hs x2 (fr ::cs++rest);have hS1:dH P ρ C.orc μ1 G1 H1 nx (af ::jG) (fr ::cs):=dH.kept x1.le x1.kept ⟨agt,hS⟩;have hS2:dH P ρ C.orc μ' G' H2 aU (af ::jG) (fr ::cs):=dH.kept y3 y6 hS1;obtain⟨VO,hpk⟩:=hS2.1.finish y2 hf;refine⟨_,cs,w',Steps.trans (.head dy apE) (.one (step_leave_returned apF)),μ',G',Mu.le_trans h0 (Mu.le_trans x1.le y3),y4,y5,VO,hS2.2,?_⟩;show(bB (af' ::jG)).Nodup;simp only[bB,hpk]at hn ⊢;exact hn
   ·trivial
  ·rcases Eu X f l1 false (.bad 40 ⟨af,jG,H1,nx⟩) (fun gD=>.next ⟨gD,af ::jG,H1,nx⟩)with e|⟨p,hp,e⟩
   ·rw[e];trivial
   ·rw[e];obtain⟨fn,c,f1,f2,f3,f4,f5⟩:=sW hp;obtain⟨args,μ1,G1,dy,x1,x2⟩:=key f1 (by rw[f2];rfl) f3;refine⟨_,fr ::cs,w,.one dy,μ1,G1,Mu.le_trans h0 x1.le,x1.M,x1.hs,vH hp x2 false,dH.kept x1.le x1.kept ⟨agt,hS⟩,?_⟩;show(bB (_ ::af ::jG)).Nodup;simp only[bB,pk,List.nil_append];exact hn
 |yld key l=>
  have Of:fr.roundOf=none∨eW o.op=false:=.inr (zL ki (by rw[ha];intro f l e;cases e) (by rw[ha];intro n e;cases e));simp only[iK];split
  ·rename_i st pd fn tm res params as bd dfs hk;rcases SE params l tm (SR.bad 41 ⟨af,jG,H,nx⟩) (fun tm=>.next ⟨{fn,tm,todo:=[.code as,.beginRound,.code bd],dfs:=[],mode:=.run,Ew:=false,sV:=some key,res},af ::jG,H,nx⟩)with e|⟨hlen,e⟩
   ·rw[e];trivial
   ·rw[e];obtain⟨args,lc,q1,q2,q3⟩:=aek (w:=w) ki hE ha;obtain⟨lc',L,ntl,ld,e0,OF,e1,e2,e3,e4,e5,e5',e6,e7,e8,e9,e10⟩:=Jp hM (hH _ _ hk);rw[q1]at e0;cases e0;have vt:args.size=L.params.size:=by
     have a1:=q3.length;have a2:(params.map Key.toNat).length=L.params.toList.length:=by rw[e5]
     simp at a1 a2;omega
    rw[aej OF vt]at q2;have dy:=agv (P:=P) (cs:=cs++rest) hm ht ho hw Of q2;refine⟨_,fr ::cs,w,.one dy,μ,G,h0,hM,hH,?_,⟨agt,hS⟩,?_⟩
    ·refine .run ntl ⟨e3,e10,trivial,rfl,⟨_,q1,rfl⟩,fun _=>rfl⟩ rfl rfl (.plain _ _ _ _ (.cons _ _ _ _ (.code _ _ e6) (.cons _ _ _ _ .beginRound (.cons _ _ _ _ (.code _ _ e7) .nil))) ?_);have:=VP (ks:=params) e5' hlen q3 e4;have hl:(L.params.zip args).foldl (fun tmps (x:Nat×Value)=>tmps.setIfInBounds x.1 x.2) L.tmps=((params.map Key.toNat).zip args.toList).foldl (fun tmps (x:Nat×Value)=>tmps.setIfInBounds x.1 x.2) L.tmps:=by rw[e5,←Array.foldl_toList,Array.toList_zip]
     show j5 ρ μ ntl (alh params l tm) ((L.params.zip args).foldl (fun tmps (x:Nat×Value)=>tmps.setIfInBounds x.1 x.2) L.tmps);rw[hl];exact this
    ·show(bB (_ ::af ::jG)).Nodup;simp only[bB,pk,List.nil_append];exact hn
  ·trivial
 |pan a=>
  have Of:fr.roundOf=none∨eW o.op=false:=.inr (zL ki (by rw[ha];intro f l e;cases e) (by rw[ha];intro n e;cases e));obtain⟨v,q1,q2⟩:=ael (w:=w) ki hE ha;have dy:=agw (P:=P) (cs:=cs++rest) hm ht ho hw Of q1;refine⟨_,cs,w,.one dy,μ,G,h0,hM,hH,?_,hS,?_⟩
  ·exact .pan nt ⟨hb.fn,hb.Y0,hb.dfs,hb.kind,hb.sV,hb.rd⟩ a v false rfl rfl q2 rfl hT2
  ·show(bB (_ ::jG)).Nodup;simp only[bB,pk,List.nil_append];exact VN
 |dfr f l=>
  simp only[iK];split
  ·rename_i hrn;split
   ·rename_i af' hf;obtain⟨c,ws,vs,q0,q1,q2,q3⟩:=aem (w:=w) ki hE ha;have Jr:fr.roundOf=none:=by
     have:=hb.sV;rw[hrn]at this;cases hh:fr.roundOf with
     |none=>rfl
     |some x=>rw[hh]at this;exact this.elim
    have dy:=agx (P:=P) (cs:=cs++rest) hm ht ho hw (.inl Jr) q2;obtain⟨h3,h4,⟨t2,k2,h5⟩,⟨T2,K2,h6⟩⟩:=hW.finish (fr:=fr) rfl rfl rfl rfl (aS.tuple (ρ:=ρ) (μ:=μ) [] #[] .nil) hf;have Nx:({fr with defers:=⟨.fn (.func f) ws,vs⟩ ::fr.defers}:Frame).finish undef={fr with defers:=⟨.fn (.func f) ws,vs⟩ ::fr.defers,tmps:=T2,todo:=K2}:=by have hf1:=cv ht ho undef;have hf2:=cv (fr:={fr with defers:=⟨.fn (.func f) ws,vs⟩ ::fr.defers}) ht ho undef;rw[hf2];have h6:fr.finish undef={fr with tmps:=T2,todo:=K2}:=h6;rw[hf1]at h6;have e1:=congrArg Frame.tmps h6;have e2:=congrArg Frame.todo h6;simp only at e1 e2;rw[e1,e2]
    rw[Nx]at dy;have h3:VQ P ρ C.orc μ G H nx nt af'.todo af'.tm (fr.finish undef).todo (fr.finish undef).tmps:=h3;have h6:fr.finish undef={fr with tmps:=T2,todo:=K2}:=h6;rw[h6]at h3;refine⟨_,cs,w,.one dy,μ,G,h0,hM,hH,?_,hS,?_⟩
    ·subst h5;exact .run nt ⟨hb.fn,hb.Y0,⟨⟨ws,rfl,q3⟩,hb.dfs⟩,hb.kind,hb.sV,hb.rd⟩ h1 hm h3
    ·have:pk {af' with dfs:=TR.fn f l ::af'.dfs}=pk af:=by rw[←h4];rfl
     show(bB (_ ::jG)).Nodup;simp only[bB,this];exact hn
   ·trivial
  ·trivial
 |recover=>
  simp only[iK];split
  ·rename_i c au0 hrn hdf;have Jr:fr.roundOf=none:=by
    have:=hb.sV;rw[hrn]at this;cases hh:fr.roundOf with
    |none=>rfl
    |some x=>rw[hh]at this;exact this.elim
   have hkd:fr.kind=.deferred:=by rw[hb.kind,hdf];rfl
   have q1:=Ri (P:=P) (w:=w) (ev:=fr.eval) ki ha;cases cs with
   |nil=>exact hS.elim
   |cons cf Gj=>
   split
   ·rename_i v Hd;split
    ·rename_i af' hf;cases hS.1 with
     |wait Og gx zI=>rw[zI]at Hd;cases Hd
     |unw Rj bU=>
      cases Rj with
      |run Og gx zI=>rw[zI]at Hd;cases Hd
      |ret Og gx zI=>rw[zI]at Hd;cases Hd
      |pan Og gx v' u r' zI Q4 TS h3' hT'=>
       rw[zI]at Hd;simp only[agy.pan.injEq]at Hd;obtain⟨rfl,rfl⟩:=Hd;have Zf:tryRecover fr (cf ::(Gj++rest))=some (u,{cf with mode:=.panicking [{v:=u,recovered:=true}]} ::(Gj++rest)):=by simp[tryRecover,hkd,Q4]
       have dy:=Ny (P:=P) (cs:=cf ::(Gj++rest)) hm ht ho hw Jr q1 Zf;obtain⟨VO,hpk⟩:=agt.finish TS hf;refine⟨_,{cf with mode:=.panicking [{v:=u,recovered:=true}]} ::Gj,w,.one dy,μ,G,h0,hM,hH,VO,⟨.unw (.pan Og ⟨gx.fn,gx.Y0,gx.dfs,gx.kind,gx.sV,gx.rd⟩ v' u true rfl rfl TS h3' hT') (by intro e;cases e),hS.2⟩,?_⟩;show(bB (_ ::_ ::au0)).Nodup;simp only[bB,hpk]at hn ⊢;exact hn
    ·trivial
   ·rename_i Hd;split
    ·rename_i af' hf;cases hS.1 with
     |wait Og gx zI=>rw[zI]at Hd;cases Hd
     |unw Rj bU=>
      have Zf:tryRecover fr (cf ::(Gj++rest))=none:=by
       cases Rj with
       |run Og gx zI=>rw[zI]at Hd;cases Hd
       |ret Og gx zI Q4=>simp[tryRecover,hkd,Q4]
       |pan Og gx v' u r' zI=>rw[zI]at Hd;cases Hd
      have dy:=Nz (P:=P) (cs:=cf ::(Gj++rest)) hm ht ho hw Jr q1 Zf;obtain⟨VO,hpk⟩:=agt.finish (.nili) hf;refine⟨_,cf ::Gj,w,.one dy,μ,G,h0,hM,hH,VO,hS,?_⟩;show(bB (_ ::_ ::au0)).Nodup;simp only[bB,hpk]at hn ⊢;exact hn
    ·trivial
   ·trivial
  ·trivial
theorem agz(X:Ctx P ρ w0 C){l:List ay}(h0:μ0.le μ)(hM:aZ P ρ w0 μ G nx.toNat w)(hH:HSub H G)(hb:zJ P ρ μ nt af fr)(h1:af.mode=.run)(hm:fr.mode=.run)
  {ops:Array Oper} {rs:List Nat} (hp:mu P nt ops rs=some l) (ht:fr.todo=.inRegion ops rs ::K) (hk:mg P μ nt k K) (hT:j5 ρ μ nt af.tm fr.tmps) (hS:dH P ρ C.orc μ G H nx jG cs) (hn:(bB jG).Nodup) :
  Good P ρ C w0 μ0 rest (lone fr (cs++rest) w) (match j6 C.orc l af.tm H nx with
   |.fin tm h nx=>.next ⟨{af with tm,todo:=k},jG,h,nx⟩
   |.ev r rest tm h nx=>iK C r {af with tm,todo:=.ops rest ::k} {af with tm,todo:=[]} jG h nx):=by
 have key:=Js (P:=P) (ρ:=ρ) (orc:=C.orc) (nt:=nt) (w0:=w0) (cs:=cs++rest) (K:=K) (ops:=ops) X.orc l rs fr w μ G H nx af.tm hp hM hH hT hm ht;cases Nw:j6 C.orc l af.tm H nx with
 |fin aw h' nx'=>rw[Nw]at key;obtain⟨dL,w',μ',G',s1,s2,s3,s4,s5,s6⟩:=key;exact⟨_,cs,w',s1,qY (Mu.le_trans h0 s2) s3 s4 ((hb.mono s2).todo _ _ _ _) h1 hm (hk.mono s2) s5 (hS.kept s2 s6) hn⟩
 |ev r l' aw h' nx'=>
  rw[Nw]at key;rcases key with⟨n,rfl⟩|⟨dL,w',μ',G',i,kh,po,ll,o,s1,s2,s3,s4,s5,s6,rfl,s8,s9,s10,s11,s12,s13⟩
  ·trivial
  ·have hE:=Gk (P:=P) (nt:=nt) (ops:=ops) (o:=o) (fr:={fr with tmps:=dL,todo:=.inRegion ops (i ::kh) ::K}) s3 (fun k a _ hg=>s5.2 k a hg);refine Good.steps s1 ?_;have hpk:(bB ({af with tm:=aw,todo:=.ops (po ::ll) ::k} ::jG)).Nodup:=by simp only[bB,pk,List.nil_append];exact hn
   exact OE (fr:={fr with tmps:=dL,todo:=.inRegion ops (i ::kh) ::K}) (af:={af with tm:=aw,todo:=.ops (po ::ll) ::k}) X (Mu.le_trans h0 s2) s3 s4 ((hb.mono s2).todo _ _ _ _) h1 hm rfl s9 s10 s11 hE s12 s13
    (.ops po ll ops i kh k K aw dL s8 (hk.mono s2) s5) (hS.kept s2 s6) hpk s5
theorem Mh(X:Ctx P ρ w0 C){ops:Array Oper}{pl:List ay}{bf:List Nat}{g:Gh}{uD:List IIt}{items:List aL}{iJ:SD}{aq:List (Nat×Key×ah)}{rs:List Nat}(h0:μ0.le μ)(hM:aZ P ρ w0 μ G nx.toNat w)(hH:HSub H G)(hb:zJ P ρ μ nt af fr)(h1:af.mode=.run)(hm:fr.mode=.run)
  (hf:uD.mapM (Eh pl)=some items) (hc:yY ops pl bf g.L uD=true) (hd:La ops iJ.ds∧zH bf iJ.jj=true) (ht:fr.todo=.inRegion ops rs ::K) (hk:mg P μ nt k K)
  (S:fZ P ρ C.orc nt ops pl bf μ G H nx g (fun _=>False) aq af.tm fr.tmps rs) (hS:dH P ρ C.orc μ G H nx jG cs) (hn:(pr aq++bB jG).Nodup) :
  Good P ρ C w0 μ0 rest (lone fr (cs++rest) w) (match gS C.orc iJ.jj items aq af.tm H nx with
   |.fin tm h nx=>.next ⟨{af with tm,todo:=k},jG,h,nx⟩
   |.ev r rest aq tm h nx=>IA iJ.ds tm fun aw=>iK C r {af with tm,todo:=.staged rest iJ aq ::k} {af with tm:=aw,todo:=[]} jG h nx):=by
 have key:=VR (P:=P) (ρ:=ρ) (orc:=C.orc) (nt:=nt) (w0:=w0) (cs:=cs++rest) (K:=K) (ops:=ops) (pl:=pl) (bf:=bf) hd.2 X.orc uD.length uD items rs g fr w μ G H nx af.tm aq (fa _) hf hc hM hH S hm ht;have apI:∀x∈pr aq,x∉bB jG:=fun x hx VL=>(List.nodup_append.1 hn).2.2 x hx x VL rfl;have VN:=(List.nodup_append.1 hn).2.1;cases Nw:gS C.orc iJ.jj items aq af.tm H nx with
 |fin aw h' nx'=>rw[Nw]at key;obtain⟨dL,w',μ',G',s1,s2,s3,s4,s5,s6⟩:=key;exact⟨_,cs,w',s1,qY (Mu.le_trans h0 s2) s3 s4 ((hb.mono s2).todo _ _ _ _) h1 hm (hk.mono s2) s5 (hS.anU s2 s6 apI) VN⟩
 |ev r IB pend' aw h' nx'=>
  rw[Nw]at key;simp only[oe];rcases key with⟨n,rfl⟩|⟨dL,w',μ',G',g',i,po,o,ad,os,Rk,kW,kh,s1,s2,s3,s4,rfl,s6,s7,s8,s9,s10,s11,s12,S',s14,s15,s16,s17,s18,s19,s20⟩
  ·trivial
  ·have hsl:=S'.OG s9 s10 s14;have hE:=Gk (P:=P) (nt:=nt) (ops:=ops) (o:=o) (fr:={fr with tmps:=dL,todo:=.inRegion ops (i ::kh) ::K}) s3 hsl;refine Good.steps s1 ?_;have hpk:(bB ({af with tm:=aw,todo:=.staged (.H i po ad ::.R os ::kW) iJ pend' ::k} ::jG)).Nodup:=by
    simp only[bB,pk];refine List.nodup_append.2 ⟨S'.nk,VN,?_⟩;rintro x hx y hy rfl;rcases s20 x hx with h|h
    ·exact apI x h hy
    ·exact absurd (anT hS x hy) (by omega)
   exact OE (fr:={fr with tmps:=dL,todo:=.inRegion ops (i ::kh) ::K}) (af:={af with tm:=aw,todo:=.staged (.H i po ad ::.R os ::kW) iJ pend' ::k}) X (Mu.le_trans h0 s2) s3 s4 ((hb.mono s2).todo _ _ _ _) h1 hm rfl s14 s15 s16 hE s17 s18
    (.staged ops pl bf g' i po ad os Rk kW iJ pend' k K aw dL kh s6 s7 s8 s9 s10 hd (hk.mono s2) s11 s12 S') (hS.anU s2 s19 apI) hpk (S'.erase hd.1)
end
section
variable{P:Program}{nt:Nat}{ops:Array Oper}
theorem afZ{pl:List ay}{x:IIt}{y:aL}(h:Eh pl x=some y):iOf y=x:=by
 cases x with
 |L i=>obtain⟨a,_,rfl⟩:=map_some h;rfl
 |A i=>obtain⟨a,_,rfl⟩:=map_some h;rfl
 |H i l=>obtain⟨a,_,rfl⟩:=map_some h;rfl
 |R os=>
  obtain⟨l,hl,rfl⟩:=map_some h;show IIt.R (l.map (·.1))=IIt.R os;congr 1
  induction os generalizing l with
  |nil=>simp at hl;subst hl;rfl
  |cons i os ih=>obtain⟨b,r,e1,e2,rfl⟩:=je hl;obtain⟨o,_,rfl⟩:=map_some e1;simp[ih r e2 (by simp[Eh,e2])]
theorem YS{pl:List ay}:∀{uD:List IIt} {items:List aL},uD.mapM (Eh pl)=some items→items.map iOf=uD
 | [],items,h=>by simp at h;subst h;rfl
 |x ::uD,items,h=>by obtain⟨y,r,e1,e2,rfl⟩:=je h;simp[afZ e1,YS e2]
theorem Q1:∀{pl:List ay} {po:ay} {d:Key},po∈pl→po.dst=some d→d∈dstsOf pl
 | [],_,_,h,_=>by cases h
 |o ::l,po,d,h,hd=>by
  rcases K3.1 h with e|e
  ·subst e;simp[dstsOf,hd]
  ·have:=Q1 e hd;simp only[dstsOf];split
   ·exact List.mem_cons_of_mem _ this
   ·exact this
theorem Sv{pc:aG}(h:Jn P nt ops false=some pc):∃l,mu P nt ops (List.range ops.size)=some l∧pc=.ops l:=by
 unfold Jn at h;split at h
 ·cases h
 ·rename_i l hl;simp only[cond_false,dI]at h;exact⟨l,hl,h.symm⟩
theorem VF{pc:aG}(h:Jn P nt ops true=some pc):∃pl uD items jj,pc=.staged items ⟨dstsOf pl,jj⟩∧SG P nt ops pl (pj ops)∧uD.mapM (Eh pl)=some items∧yY ops pl (pj ops) 0 uD=true∧La ops (dstsOf pl)∧zH (pj ops) jj=true:=by
 unfold Jn at h;split at h
 ·cases h
 ·rename_i l hl;simp only[cond_true]at h;split at h
  ·rename_i st dy;split at h
   ·rename_i st' anB;cases sO:(apD ops l (pj ops) (st'.map iOf)&&zH (pj ops) (Gi (l.zip (pj ops)) (l.zip (pj ops)) 0))with
    |false=>rw[sO]at h;cases h
    |true=>
     rw[sO]at h;simp only[cond_true,dI]at h;simp only[apD,kO]at sO;obtain⟨sO,YQ⟩:=sO;have aku:SG P nt ops l (pj ops):=⟨hl,sO.1.1,sO.1.2⟩;refine⟨l,st'.map iOf,st',_,h.symm,aku,by rw[YS anB];exact anB,sO.2,?_,YQ⟩;intro j t hj;obtain⟨o,po,ho,TP,aEZ⟩:=aku.at (LO hj);obtain⟨_,_,hd⟩:=ic TP;have hjd:o.dst=some t:=by simpa[mv,ho]using hj
     rcases hd with⟨e,_⟩|⟨k,e1,e2,_⟩
     ·rw[e]at hjd;cases hjd
     ·rw[hjd]at e1;simp only[dI]at e1;exact⟨k,Q1 (List.mem_of_getElem? aEZ) e2,e1.symm⟩
   ·cases h
  ·cases h
end
section
variable{P:Program}{ρ:Nat→Int}{C:bK}{nt:Nat}{w0:W0}{w:World}{μ0 μ:Mu}{G:Key→Option ah}{H:T ah}{nx:Key}{rest cs:List Frame}{fr:Frame}{af:lG}{jG:List lG}{K:List Item}{k:List cT}
theorem fZ.init{ops:Array Oper}{pl:List ay}{bf:List Nat}(R:SG P nt ops pl bf){tm:T AV}{tmps:Array Value}(hT:j5 ρ μ nt tm tmps){rs:List Nat}(hv:N1 ops (fun _=>false) rs) :
  fZ P ρ C.orc nt ops pl bf μ G H nx {L:=0,D:=fun _=>false,a0:=fun k=>ae k tm,val:=fun _=>none} (fun _=>False) [] tm tmps rs:=by
 refine⟨R,hv,?_,?_,?_,?_,?_,?_,hT.1,?_,?_,?_,?_,?_,?_⟩
 ·intro i o h;cases h
 ·intro i h;cases h
 ·intro i h;rw[show hasB 0 i=false from Gm i]at h;cases h
 ·intro i h;rw[show hasB 0 i=false from Gm i]at h;cases h
 ·intro k j h;rw[show hasB 0 j=false from Gm j]at h;cases h
 ·intro k _;rfl
 ·intro k j a h;cases h
 ·intro k a _ h;exact hT.2 k a h
 ·intro i h;rw[show hasB 0 i=false from Gm i]at h;cases h
 ·intro x h;cases h
 ·exact List.nodup_nil
 ·exact List.nodup_nil
theorem VG(hM:aZ P ρ w0 μ G nx.toNat w){x:Operand}{px:PX}{a:AV}(hp:pX P nt x=some px)(ha:px.at af.tm=some a)(hT:j5 ρ μ nt af.tm fr.tmps):aS ρ μ a (fr.eval x):=
 aec hM hp ha fun t k _ hk hg=>by rw[←hk];exact hT.2 k a hg
theorem PN(hM:aZ P ρ w0 μ G nx.toNat w)(hH:HSub H G){b:Key}{st st':LS}{pd pd':Option aG}{fn:Nat}{tm:T AV}{res:List RV}{params:List Key}{as bd:aG}{dfs:Key}(hb:ae b H=some (.loop st pd fn tm res params as bd dfs))
  {l:Loc} (hl:μ b=some l) {L:Loop} (hL:w.heap[l.c]?=some (.loop L)) {s:LoopState} {pc:Option Code} (hs:acm st' s) (hpd:(∀n,SC P n pd L.pending)→∀n,SC P n pd' pc) :
  let w':={w with heap:=w.heap.setIfInBounds l.c (.loop {L with state:=s,pending:=pc})}
  let B':=ah.loop st' pd' fn tm res params as bd dfs
  ∃μ' G',μ.le μ'∧aZ P ρ w0 μ' G' nx.toNat w'∧HSub (av b (some B') H) G'∧Kept H (av b (some B') H) nx nx μ μ' G G':=by
 intro w' B';have hg:=hH _ _ hb;obtain⟨l',L',ntl,ld,e0,OF,e1,e2,e3,e4,e5,e5',e6,e7,e8,e9,e10⟩:=Jp hM hg;rw[hl]at e0;cases e0;rw[hL]at OF;cases OF;have WD:l.c<w.heap.size:=hM.zA b l hl;have rm:w0.heap.size≤l.c:=(hM.own b _ l hg hl).resolve_left (by simp[ah.ro]);have hle:μ.le (μ.put b l):=Mu.EU (.inr hl);obtain⟨m1,m2⟩:=hM.put (w':=w') b B' l (.loop {L with state:=s,pending:=pc}) (nx':=nx.toNat) (.inr hl)
  ⟨rfl,rfl,rfl,by simp[w'],fun j hj _=>by show(w.heap.setIfInBounds l.c _)[j]?=_;rw[zqn (Ne.symm hj)],fa _⟩
  (by show(w.heap.setIfInBounds l.c _)[l.c]?=_;simp[WD])
  (.loop st' pd' fn ntl tm res params as bd dfs ld l _ hs (hpd e2) e3 (e4.mono hle) e5 e5' e6 e7 (hle.l _ _ e8) e9 e10)
  (fun b' B' l' g m' ne=>hM.sep b' b B' _ l' l g hg m' hl ne) rm (fa _) (hM.new b l hl) (hM.lo0 hg hl rfl)
 exact⟨_,_,m1,m2,hH.set b (some B'),z7 hb hl _ _⟩
inductive anK(P:Program)(nt:Nat)(fr:Frame):Option aG→Option Code→Prop
 |fin (h:fr.todo=[]):anK P nt fr none none
 |ret (K:List Item) (h:fr.todo=.code .ret ::K):anK P nt fr (some .ret) (some .ret)
 |exit (id:Nat) (K:List Item) (h:fr.todo=.code (.exit id) ::K) (he:exitTo id K=none):anK P nt fr (some (.exit id)) (some (.exit id))
theorem VH{l:Nat}{L:Loop}(h:w.heap[l]?=some (.loop L))(j:Option Code):(Instr.endRound l j).run P w=.ok (.bool j.isNone) {w with heap:=w.heap.setIfInBounds l (.loop {L with state:=if j.isNone then .ready else .done,pending:=j})}:=by simp[Instr.endRound,Instr.getLoop,getObj,setObj,Sem.run,h]
theorem PO{l:Nat}{L:Loop}(h:w.heap[l]?=some (.loop L))(hs:L.state=.ready):(Instr.beginRound l).run P w=.ok () {w with heap:=w.heap.setIfInBounds l (.loop {L with state:=.busy,pending:=L.pending})}:=by simp[Instr.beginRound,Instr.getLoop,getObj,setObj,Sem.run,h,hs]
theorem WM{l:Nat}{L:Loop}(h:w.heap[l]?=some (.loop L))(hs:L.state≠.busy):(Instr.endLoop l).run P w=.ok L.pending {w with heap:=w.heap.setIfInBounds l (.loop {L with state:=.exhausted,pending:=L.pending})}:=by simp[Instr.endLoop,Instr.getLoop,getObj,setObj,Sem.run,h,hs]
theorem IP(X:Ctx P ρ w0 C){j:Option aG}{jc:Option Code}(hj:anK P nt fr j jc)(h0:μ0.le μ)(hM:aZ P ρ w0 μ G nx.toNat w)(hH:HSub H G)(hb:zJ P ρ μ nt af fr)(h1:af.mode=.run)(hm:fr.mode=.run)
  (hk:af.todo=[]∨(∃k,af.todo=.code .ret ::k)∨∃id k,af.todo=.code (.exit id) ::k) (hjr:j=some .ret→∃k,af.todo=.code .ret ::k) (hjn:j=none→af.todo=[]) (hT:j5 ρ μ nt af.tm fr.tmps) (hS:dH P ρ C.orc μ G H nx jG cs) (hn:(bB jG).Nodup) :
  Good P ρ C w0 μ0 rest (lone fr (cs++rest) w) (IH j af jG H nx):=by
 unfold IH;split
 ·rename_i hrn;have Jr:fr.roundOf=none:=by
   have:=hb.sV;rw[hrn]at this;cases hh:fr.roundOf with
   |none=>rfl
   |some x=>rw[hh]at this;exact this.elim
  cases hj with
  |fin ht=>refine⟨_,cs,w,.one (asq hm ht Jr),μ,G,h0,hM,hH,.ret nt ⟨hb.fn,hb.Y0,hb.dfs,hb.kind,hb.sV,hb.rd⟩ rfl rfl (.inl (hjn rfl)) hT,hS,?_⟩;show(bB (_ ::jG)).Nodup;simp only[bB,pk,hjn rfl,List.nil_append];exact hn
  |ret KK ht=>obtain⟨kk,BT⟩:=hjr rfl;refine⟨_,cs,w,.one (asr hm ht Jr),μ,G,h0,hM,hH,.ret nt ⟨hb.fn,hb.Y0,hb.dfs,hb.kind,hb.sV,hb.rd⟩ rfl rfl (.inr ⟨kk,BT⟩) hT,hS,?_⟩;show(bB (_ ::jG)).Nodup;simp only[bB,pk,BT,List.nil_append];exact hn
  |exit id KK ht he=>trivial
 ·rename_i key hrn;cases jG with
  |nil=>trivial
  |cons c jG=>
  cases cs with
  |nil=>exact hS.elim
  |cons cf cs=>
  have hdf:af.Ew=false:=hb.rd (by rw[hrn];intro e;cases e);have K4:fr.kind=.normal:=by rw[hb.kind,hdf];rfl
  have Jr:∃lc,μ key=some lc∧fr.roundOf=some lc.c:=by
   have:=hb.sV;rw[hrn]at this;cases hh:fr.roundOf with
   |none=>rw[hh]at this;exact this.elim
   |some x=>rw[hh]at this;obtain⟨lc,e1,e2⟩:=this;exact⟨lc,e1,by rw[e2]⟩
  obtain⟨lc,BQ,Jr⟩:=Jr;simp only;split
  ·rename_i st pd fn tm res params as bd dfs MB;simp only[sTCe];obtain⟨lc',L,ntl,ld,e0,OF,e1,e2,e3,e4,e5,e5',e6,e7,e8,e9,e10⟩:=Jp hM (hH _ _ MB);rw[BQ]at e0;cases e0;split
   ·rename_i c' hf;have hpd:(∀n,SC P n pd L.pending)→∀n,SC P n j jc:=by
     intro _ Og;cases hj with
     |fin ht=>trivial
     |ret KK ht=>exact(rfl:gC P Og .ret=some .ret)
     |exit id KK ht he=>exact(rfl:gC P Og (.exit id)=some (.exit id))
    have hsr:acm (match (generalizing:=false) j with|none=>LS.ready|some _=>LS.done) (if jc.isNone then .ready else .done):=by cases hj<;>trivial
    obtain⟨μ',G',g1,g2,g3,g4⟩:=PN hM hH MB BQ OF hsr hpd;have fC:=VH (P:=P) OF jc;have dy:step P (lone fr (cf ::cs++rest) w)=.next (lone (cf.finish (.bool jc.isNone)) (cs++rest) {w with heap:=w.heap.setIfInBounds lc.c (.loop {L with state:=if jc.isNone then .ready else .done,pending:=jc})}):=by
     cases hj with
     |fin ht=>exact Qm hm ht Jr K4 fC
     |ret KK ht=>exact U9 hm ht Jr K4 fC
     |exit id KK ht he=>exact Sb hm ht he Jr K4 fC
    have hS':=hS.kept g1 g4;have hbv:aS ρ μ' (.bool (match (generalizing:=false) j with|none=>true|some _=>false)) (.bool jc.isNone):=by cases hj<;>exact .bool _
    obtain⟨q1,q2⟩:=hS'.1.finish hbv hf;refine⟨_,cs,_,.one dy,μ',G',Mu.le_trans h0 g1,g2,g3,q1,hS'.2,?_⟩;show(bB (c' ::jG)).Nodup;simp only[bB,q2]at hn ⊢;exact hn
   ·trivial
  ·trivial
theorem Sw{fn:FuncId}{tmps:Array Value}{params:Array Tmp}{as bd:Code}:(Instr.enterLoop fn tmps params as bd none).run P w =
  .ok (w.heap.size+1,[⟨.collected w.heap.size,#[]⟩]) ((w.alloc (.deferred (some []))).alloc (.loop {state:=.ready,pending:=none,fn,tmps,params,assign:=as,body:=bd,defers:=w.heap.size})):=by
 simp[Instr.enterLoop,newObj,Sem.run]
theorem Q2{nt:Nat}:∀{l:List Nat} {ks:List Key},l.mapM (Ha nt)=some ks→TO ks l∧∀k∈ks,k.toNat<nt
 | [],ks,h=>by simp at h;subst h;exact⟨rfl,fun _ h=>by cases h⟩
 |t ::l,ks,h=>by
  obtain⟨k,r,e1,e2,rfl⟩:=je h;obtain⟨h1,h2⟩:=Q2 e2;obtain⟨h3,h4⟩:=nY e1;refine⟨?_,fun q hq=>?_⟩
  ·show(k ::r).map Key.toNat=t ::l;rw[Zw,h3,h1]
  ·rcases K3.1 hq with e|e
   ·rw[e,h3];exact h4
   ·exact h2 q e
theorem aeW(X:Ctx P ρ w0 C){pc:aG}{c:Code}(hc:gC P nt c=some pc)(h0:μ0.le μ)(hM:aZ P ρ w0 μ G nx.toNat w)(hH:HSub H G)(hb:zJ P ρ μ nt af fr)(h1:af.mode=.run)(hm:fr.mode=.run)
  (EO:af.todo=.code pc ::k) (ht:fr.todo=.code c ::K) (hk:mg P μ nt k K) (hT:j5 ρ μ nt af.tm fr.tmps) (hS:dH P ρ C.orc μ G H nx jG cs) (hn:(bB jG).Nodup) :
  Good P ρ C w0 μ0 rest (lone fr (cs++rest) w) (bT C af jG H nx):=by
 have go:∀(k':List cT) (K':List Item),mg P μ nt k' K'→step P (lone fr (cs++rest) w)=.next (lone {fr with todo:=K'} (cs++rest) w)→Good P ρ C w0 μ0 rest (lone fr (cs++rest) w) (.next ⟨{af with todo:=k'},jG,H,nx⟩):=by intro k' K' HF dy;exact⟨_,cs,w,.one dy,qY h0 hM hH (hb.todo af.tm k' fr.tmps K') h1 hm HF hT hS hn⟩
 unfold bT;rw[EO];cases c with
 |skip=>simp only[gC,dI]at hc;subst hc;exact go _ _ hk (amL hm ht)
 |region id ops draw=>
  simp only[gC]at hc;cases draw with
  |false=>obtain⟨l,hl,rfl⟩:=Sv hc;exact go _ _ (.cons _ _ _ _ (.ops _ _ _ hl) hk) (aff hm ht)
  |true=>obtain⟨pl,uD,items,jj,rfl,aku,hf,aE1,hd,YQ⟩:=VF hc;obtain⟨t,dy⟩:=amO (P:=P) (cs:=cs++rest) (w:=w) hm ht;rw[X.mix]at dy;have hv:=Q3 aku.down t;refine⟨_,cs,_,.one dy,μ,G,h0,hM.drawn _ (Nat.le_succ _),hH,.run nt (hb.todo af.tm _ fr.tmps _) h1 hm (.ready ops pl _ _ uD items _ [] k K _ _ _ hf aE1 ⟨hd,YQ⟩ hk (fZ.init aku hT hv)),hS,?_⟩;show(bB (_ ::jG)).Nodup;simp only[bB,pk,List.map_nil,List.nil_append];exact hn
 |seq a b=>
  simp only[gC]at hc;split at hc
  ·rename_i a' b' ha gx;cases hc;exact go _ _ (.cons _ _ _ _ (.code _ _ ha) (.cons _ _ _ _ (.code _ _ gx) hk)) (asp hm ht)
  ·cases hc
 |cond x a b=>
  simp only[gC]at hc;split at hc
  ·rename_i x' a' b' hx ha gx;cases hc;simp only;split
   ·rename_i hxa;have hv:=VG hM hx hxa hT;have he:fr.eval x=.bool true:=by generalize fr.eval x=u at hv;cases hv;rfl
    exact go _ _ (.cons _ _ _ _ (.code _ _ ha) hk) (adw hm ht he)
   ·rename_i hxa;have hv:=VG hM hx hxa hT;have he:fr.eval x=.bool false:=by generalize fr.eval x=u at hv;cases hv;rfl
    exact go _ _ (.cons _ _ _ _ (.code _ _ gx) hk) (adw hm ht he)
   ·trivial
  ·cases hc
 |block id a=>
  simp only[gC]at hc;split at hc
  ·rename_i a' ha;cases hc;exact go _ _ (.cons _ _ _ _ (.code _ _ ha) (.cons _ _ _ _ (.inBlock _) hk)) (aiY hm ht)
  ·cases hc
 |loop a=>
  simp only[gC]at hc;split at hc
  ·rename_i a' ha;cases hc;exact go _ _ (.cons _ _ _ _ (.code _ _ ha) (.cons _ _ _ _ (.inLoop _ _ ha) hk)) (amM hm ht)
  ·cases hc
 |rangeFunc f params a b=>
  simp only[gC]at hc;split at hc
  ·rename_i f' ps a' b' hf hps ha gx;cases hc;simp only;split
   ·rename_i g first cap hrn hfa
    simp only[sTCe];rcases Eu X g (first ++ .yld nx.succ ::cap) false (.bad 61 ⟨af,jG,av nx.succ (some (.loop .ready none af.fn af.tm af.res ps a' b' nx)) (av nx (some (.dfs false)) H),nx⟩)
     (fun gD=>.next ⟨gD,{af with todo:=.inRF nx.succ ::k,dfs:=.coll nx ::af.dfs} ::jG,av nx.succ (some (.loop .ready none af.fn af.tm af.res ps a' b' nx)) (av nx (some (.dfs false)) H),nx.succ.succ⟩)with e|⟨p,hp,e⟩
    ·rw[e];trivial
    ·rw[e];have Jr:fr.roundOf=none:=by
      have:=hb.sV;rw[hrn]at this;cases hh:fr.roundOf with
      |none=>rfl
      |some x=>rw[hh]at this;exact this.elim
     obtain⟨fn,c,f1,f2,f3,f4,f5⟩:=sW hp;have hv:=VG hM hf hfa hT;obtain⟨vs,ws,ev,hv1,hv2⟩:=ac7 hv;have hs1:=kTSu nx;have hs2:=kTSu nx.succ;obtain⟨m1,M1⟩:=hM.alloc nx (.dfs false) (.deferred (some [])) 0 (nx':=nx.succ.toNat) hM.sN (.dfs false _) (by omega) (by omega);have hu1:(μ.put nx ⟨w.heap.size,0,0⟩) nx=some ⟨w.heap.size,0,0⟩:=Mu.dZ _ _ _;have vt:(w.alloc (.deferred (some []))).heap.size=w.heap.size+1:=by simp
     obtain⟨hkr,Mn⟩:=Q2 hps;have hn1:(μ.put nx ⟨w.heap.size,0,0⟩) nx.succ=none:=M1.sN;have MT:Mu.le (μ.put nx ⟨w.heap.size,0,0⟩) ((μ.put nx ⟨w.heap.size,0,0⟩).put nx.succ ⟨(w.alloc (.deferred (some []))).heap.size,0,0⟩):=Mu.EU (.inl hn1);obtain⟨m2,M2⟩:=M1.alloc nx.succ (.loop .ready none af.fn af.tm af.res ps a' b' nx) (.loop {state:=.ready,pending:=none,fn:=fr.fn,tmps:=fr.tmps,params,assign:=a,body:=b,defers:=w.heap.size}) 0 (nx':=nx.succ.succ.toNat) hn1
      (.loop .ready none af.fn nt af.tm af.res ps a' b' nx ⟨w.heap.size,0,0⟩ _ _ trivial (fun _=>trivial) hb.fn (hT.mono (Mu.le_trans m1 MT)) hkr Mn ha gx (MT.l _ _ hu1) rfl hb.Y0) (by omega) (by omega)
     have hK:Kept H (av nx.succ (some (.loop .ready none af.fn af.tm af.res ps a' b' nx)) (av nx (some (.dfs false)) H)) nx nx.succ.succ μ _ G _:=(Gy (H:=H) (nx:=nx) (μ:=μ) (G:=G) ⟨w.heap.size,0,0⟩ (some (.dfs false)) (some (.dfs false))).trans
      (Gy (nx:=nx.succ) ⟨(w.alloc (.deferred (some []))).heap.size,0,0⟩ (some (.loop .ready none af.fn af.tm af.res ps a' b' nx)) (some (.loop .ready none af.fn af.tm af.res ps a' b' nx)))
     have hle:=Mu.le_trans m1 m2;have dy:=Va (P:=P) (cs:=cs++rest) (w:=w) hm ht Jr Sw ev f1 (by rw[f2];rfl) f3;have hu2:((μ.put nx ⟨w.heap.size,0,0⟩).put nx.succ ⟨(w.alloc (.deferred (some []))).heap.size,0,0⟩) nx.succ=some ⟨(w.alloc (.deferred (some []))).heap.size,0,0⟩:=Mu.dZ _ _ _;refine⟨_,{fr with todo:=.inRangeFunc (w.heap.size+1) ::K,defers:=[⟨.collected w.heap.size,#[]⟩]++fr.defers} ::cs,_,.one dy,_,_,Mu.le_trans h0 hle,M2,(hH.set nx _).set nx.succ _,vH hp ?_ false,⟨?_,hS.kept hle hK⟩,?_⟩
     ·have hy:aS ρ ((μ.put nx ⟨w.heap.size,0,0⟩).put nx.succ ⟨(w.alloc (.deferred (some []))).heap.size,0,0⟩) (.yld nx.succ) (.func (.yield (w.heap.size+1)) #[] #[]):=.yld _ _ _ hu2 vt.symm;have:=(hv1.mono hle).append (ax.cons _ _ _ _ hy (hv2.mono hle));simpa using this
     ·refine .wait nt ⟨hb.fn,hb.Y0,⟨⟨_,m2.l _ _ hu1,rfl⟩,hb.dfs.mono hle⟩,hb.kind,?_,hb.rd⟩ h1 hm ?_
      ·have:=hb.sV;rw[hrn,Jr]at this;show axy _ af.sV fr.roundOf;rw[hrn,Jr];trivial
      ·have:=Jq.rf (P:=P) (ρ:=ρ) (orc:=C.orc) (nt:=nt) (G:=lF (lF G nx (some (ah.dfs false))) nx.succ (some (.loop .ready none af.fn af.tm af.res ps a' b' nx))) (H:=av nx.succ (some (.loop .ready none af.fn af.tm af.res ps a' b' nx)) (av nx (some (.dfs false)) H)) (nx:=nx.succ.succ) nx.succ _ k K af.tm fr.tmps hu2 (hk.mono hle) (hT.mono hle);simp only[vt]at this ⊢;exact this
     ·show(bB (_ ::_ ::jG)).Nodup;simp only[bB,pk,List.nil_append];exact hn
   ·trivial
  ·cases hc
 |exit id=>
  simp only[gC,dI]at hc;subst hc;obtain⟨x1,x2⟩:=abY (id:=id) hk;simp only;split
  ·rename_i k' HF;obtain⟨K',e1,e2⟩:=x1 k' HF;exact go _ _ e2 (amN hm ht e1)
  ·rename_i HF;exact IP X (.exit id K ht (x2 HF)) h0 hM hH hb h1 hm (.inr (.inr ⟨id,k,EO⟩)) (by intro e;cases e) (by intro e;cases e) hT hS hn
 |ret=>simp only[gC,dI]at hc;subst hc;exact IP X (.ret K ht) h0 hM hH hb h1 hm (.inr (.inl ⟨k,EO⟩)) (fun _=>⟨k,EO⟩) (by intro e;cases e) hT hS hn
 |scope a=>
  simp only[gC]at hc;split at hc
  ·rename_i a' ha;cases hc;exact go _ _ (.cons _ _ _ _ (.code _ _ ha) (.cons _ _ _ _ (.scope _) hk)) (aiZ hm ht)
  ·cases hc
 |label l=>simp only[gC,dI]at hc;subst hc;exact go _ _ hk (ai0 hm ht)
 |goto l=>simp[gC]at hc
 |refuse s=>simp[gC]at hc
end
section
variable{P:Program}{ρ:Nat→Int}{C:bK}{nt:Nat}{w0:W0}{w:World}{μ0 μ:Mu}{G:Key→Option ah}{H:T ah}{nx:Key}{rest cs:List Frame}{fr:Frame}{af:lG}{jG:List lG}{K:List Item}{k:List cT}
theorem ain(X:Ctx P ρ w0 C)(h0:μ0.le μ)(hM:aZ P ρ w0 μ G nx.toNat w)(hH:HSub H G)(hb:zJ P ρ μ nt af fr)(h1:af.mode=.run)(hm:fr.mode=.run)
  (hTd:VQ P ρ C.orc μ G H nx nt af.todo af.tm fr.todo fr.tmps) (hS:dH P ρ C.orc μ G H nx jG cs) (hn:(bB (af ::jG)).Nodup) :
  Good P ρ C w0 μ0 rest (lone fr (cs++rest) w) (bT C af jG H nx):=by
 generalize EO:af.todo=AK at hTd;generalize htt:af.tm=TM at hTd;generalize ht:fr.todo=FK at hTd;generalize hft:fr.tmps=FT at hTd;cases hTd with
 |plain k0 K0 tm tmps hk hT=>
  subst htt hft;have hn:(bB jG).Nodup:=(List.nodup_append.1 hn).2.1;cases hk with
  |nil=>unfold bT;rw[EO];exact IP X (.fin ht) h0 hM hH hb h1 hm (.inl EO) (by intro e;cases e) (fun _=>EO) hT hS hn
  |cons a x k K h hk=>
   have go:∀(k':List cT) (K':List Item),mg P μ nt k' K'→step P (lone fr (cs++rest) w)=.next (lone {fr with todo:=K'} (cs++rest) w)→Good P ρ C w0 μ0 rest (lone fr (cs++rest) w) (.next ⟨{af with todo:=k'},jG,H,nx⟩):=by intro k' K' HF dy;exact⟨_,cs,w,.one dy,qY h0 hM hH (hb.todo af.tm k' fr.tmps K') h1 hm HF hT hS hn⟩
   cases h with
   |code pc c h=>exact aeW X h h0 hM hH hb h1 hm EO ht hk hT hS hn
   |inBlock id=>unfold bT;rw[EO];exact go _ _ hk (ZZ hm ht)
   |scope c=>unfold bT;rw[EO];exact go _ _ hk (Z0 hm ht)
   |inLoop pc c h=>unfold bT;rw[EO];exact go _ _ (.cons _ _ _ _ (.code _ _ h) (.cons _ _ _ _ (.inLoop _ _ h) hk)) (aeX hm ht)
   |ops l ops rest h=>unfold bT;rw[EO];exact agz X h0 hM hH hb h1 hm h ht hk hT hS hn
   |inRF key l r h hr=>unfold bT;rw[EO];trivial
   |endRF key l r BQ hr=>
    subst hr;unfold bT;rw[EO];simp only;split
    ·rename_i st pd fn tm res params as bd dfs MB;obtain⟨lc',L,ntl,ld,e0,OF,e1,e2,e3,e4,e5,e5',e6,e7,e8,e9,e10⟩:=Jp hM (hH _ _ MB);rw[BQ]at e0;cases e0;split
     ·trivial
     ·rename_i hnb;simp only[sTCe];have avX:L.state≠.busy:=by intro e;rw[e]at e1;cases st<;>first|exact e1.elim|exact hnb rfl
      obtain⟨μ',G',g1,g2,g3,g4⟩:=PN (st':=.exhausted) (pd':=pd) (s:=.exhausted) (pc:=L.pending) hM hH MB BQ OF trivial (fun h=>h);have dy:=aio (P:=P) (cs:=cs++rest) hm ht (WM OF avX);have Nx:∀(k':List cT),mg P μ' nt k' ((L.pending.map Item.code).toList++K)→Good P ρ C w0 μ0 rest (lone fr (cs++rest) w) (.next ⟨{af with todo:=k'},jG,av key (some (.loop .exhausted pd fn tm res params as bd dfs)) H,nx⟩):=by intro k' HF;exact⟨_,cs,_,.one dy,qY (Mu.le_trans h0 g1) g2 g3 ((hb.mono g1).todo af.tm k' fr.tmps _) h1 hm HF (hT.mono g1) (hS.kept g1 g4) hn⟩
      refine Nx _ ?_;cases pd with
      |none=>
       cases hp:L.pending with
       |none=>exact hk.mono g1
       |some c=>rw[hp]at e2;exact(e2 0).elim
      |some pc=>
       cases hp:L.pending with
       |none=>rw[hp]at e2;exact(e2 0).elim
       |some c=>rw[hp]at e2;exact .cons _ _ _ _ (.code _ _ (e2 nt)) (hk.mono g1)
    ·trivial
   |beginRound=>
    unfold bT;rw[EO];simp only;split
    ·trivial
    ·rename_i key hrn;have Jr:∃lc,μ key=some lc∧fr.roundOf=some lc.c:=by
      have:=hb.sV;rw[hrn]at this;cases hh:fr.roundOf with
      |none=>rw[hh]at this;exact this.elim
      |some x=>rw[hh]at this;obtain⟨lc,e1,e2⟩:=this;exact⟨lc,e1,by rw[e2]⟩
     obtain⟨lc,BQ,Jr⟩:=Jr;split
     ·rename_i pd fn tm res params as bd dfs MB;simp only[sTCe];obtain⟨lc',L,ntl,ld,e0,OF,e1,e2,e3,e4,e5,e5',e6,e7,e8,e9,e10⟩:=Jp hM (hH _ _ MB);rw[BQ]at e0;cases e0;have arv:L.state=.ready:=by cases hs:L.state<;>rw[hs]at e1<;>first|rfl|exact e1.elim
      obtain⟨μ',G',g1,g2,g3,g4⟩:=PN (st':=.busy) (pd':=pd) (s:=.busy) (pc:=L.pending) hM hH MB BQ OF trivial (fun h=>h);have dy:=RF (P:=P) (cs:=cs++rest) hm ht Jr (PO OF arv);exact⟨_,cs,_,.one dy,qY (Mu.le_trans h0 g1) g2 g3 ((hb.mono g1).todo af.tm k fr.tmps K) h1 hm (hk.mono g1) (hT.mono g1) (hS.kept g1 g4) hn⟩
     ·trivial
 |ready ops pl bf g uD items iJ aq k K tm tmps rs hf hc hd hk S=>subst htt hft;unfold bT;rw[EO];refine Mh X h0 hM hH hb h1 hm hf hc hd ht hk S hS ?_;simp only[bB,pk,EO]at hn;exact hn
 |back ops pl bf g os uD items iJ aq k K tm tmps rs hf hc hd hk VK Iz S=>
  subst htt hft;unfold bT;rw[EO];simp only;rw[UG];cases hrc:recheck C.orc iJ.jj aq af.tm H os with
  |false=>simp only[cond_false,oe];trivial
  |true=>simp only[cond_true];have S5:=S.Tj hd.2 hrc VK Iz;refine Mh X h0 hM hH hb h1 hm hf hc hd ht hk S5 hS ?_;simp only[bB,pk,EO]at hn;exact hn
theorem LI{b:Nat}(h:w.heap[b]?=some (.deferred (some []))):(Instr.takeDeferred b).run P w=.ok [] {w with heap:=w.heap.setIfInBounds b (.deferred none)}:=by simp[Instr.takeDeferred,getObj,setObj,Sem.run,h]
theorem WN(X:Ctx P ρ w0 C)(h0:μ0.le μ)(hM:aZ P ρ w0 μ G nx.toNat w)(hH:HSub H G)(hb:zJ P ρ μ nt af fr)(Rj:Zc P ρ C.orc μ G H nx af fr)(bU:af.mode≠.run)(hS:dH P ρ C.orc μ G H nx jG cs)(hn:(bB (af ::jG)).Nodup) :
  Good P ρ C w0 μ0 rest (lone fr (cs++rest) w) (yb C af jG H nx):=by
 have hpk:pk af=[]:=by
  cases Rj with
  |run nt hb h1=>exact absurd h1 bU
  |ret nt hb h1 h2 h3 h=>unfold pk;rcases h3 with h3|⟨k,h3⟩<;>rw[h3]
  |pan nt hb v u r h1 h2 hv h3 h=>unfold pk;rw[h3]
 have hfm:fr.mode≠.run:=by
  cases Rj with
  |run nt hb h1=>exact absurd h1 bU
  |ret nt hb h1 h2 h3 h=>rw[h2];intro e;cases e
  |pan nt hb v u r h1 h2 hv h3 h=>rw[h2];intro e;cases e
 have VN:(bB jG).Nodup:=(List.nodup_append.1 hn).2.1;have aK2:∃nt,zJ P ρ μ nt af fr∧j5 ρ μ nt af.tm fr.tmps:=by
  cases Rj with
  |run nt hb h1=>exact absurd h1 bU
  |ret nt hb h1 h2 h3 h=>exact⟨nt,hb,h⟩
  |pan nt hb v u r h1 h2 hv h3 h=>exact⟨nt,hb,h⟩
 have move:∀{μ':Mu} {G':Key→Option ah} {H':T ah} (ds:List TR) (Ds:List Deferred),μ.le μ'→PQ ρ μ' ds Ds→Zc P ρ C.orc μ' G' H' nx {af with dfs:=ds} {fr with defers:=Ds}:=by
  intro μ' G' H' ds Ds hle hd;cases Rj with
  |run nt hb h1=>exact absurd h1 bU
  |ret nt hb h1 h2 h3 h=>exact .ret nt ⟨hb.fn,hb.Y0,hd,hb.kind,(hb.mono hle).sV,hb.rd⟩ h1 h2 h3 (h.mono hle)
  |pan nt hb v u r h1 h2 hv h3 h=>exact .pan nt ⟨hb.fn,hb.Y0,hd,hb.kind,(hb.mono hle).sV,hb.rd⟩ v u r h1 h2 (hv.mono hle) h3 (h.mono hle)
 have hD:=hb.dfs;unfold yb;split
 ·rename_i b ds hds;split
  ·rename_i MB;simp only[sTCe];rw[hds]at hD;cases UH:fr.defers with
   |nil=>rw[UH]at hD;exact hD.elim
   |cons d Ds=>
   rw[UH]at hD;obtain⟨⟨l,hl,rfl⟩,hD2⟩:=hD;have hg:=hH _ _ MB;obtain⟨l',o,e1,e2,e3⟩:=hM.xG b _ hg;rw[hl]at e1;cases e1;have amd:w.heap[l.c]?=some (.deferred (some [])):=by cases e3 with|dfs _ _=>exact e2
   have WD:l.c<w.heap.size:=hM.zA b l hl;have rm:w0.heap.size≤l.c:=(hM.own b _ l hg hl).resolve_left (by simp[ah.ro]);obtain⟨m1,m2⟩:=hM.put (w':={w with heap:=w.heap.setIfInBounds l.c (.deferred none)}) b (.dfs true) l (.deferred none) (nx':=nx.toNat) (.inr hl)
    ⟨rfl,rfl,rfl,by simp,fun j hj _=>by show(w.heap.setIfInBounds l.c _)[j]?=_;rw[zqn (Ne.symm hj)],fa _⟩
    (by show(w.heap.setIfInBounds l.c _)[l.c]?=_;simp[WD])
    (.dfs true l)
    (fun b' B' l' g m' ne=>hM.sep b' b B' _ l' l g hg m' hl ne) rm (fa _) (hM.new b l hl) (hM.lo0 hg hl rfl)
   have dy:=UI (P:=P) (cs:=cs++rest) hfm UH (LI amd);refine⟨_,cs,_,.one dy,_,_,Mu.le_trans h0 m1,m2,hH.set b _,move ds Ds m1 (hD2.mono m1),hS.kept m1 (z7 MB hl _ _),?_⟩;show(bB (_ ::jG)).Nodup;have:pk {af with dfs:=ds}=pk af:=rfl;simp only[bB,this,hpk,List.nil_append];exact VN
  ·trivial
 ·rename_i f args ds hds;rcases Eu X f args true (.bad 71 ⟨af,jG,H,nx⟩) (fun gD=>.next ⟨gD,{af with dfs:=ds} ::jG,H,nx⟩)with e|⟨p,hp,e⟩
  ·rw[e];trivial
  ·rw[e];rw[hds]at hD;cases UH:fr.defers with
   |nil=>rw[UH]at hD;exact hD.elim
   |cons d Ds=>
   rw[UH]at hD;obtain⟨⟨ws,hd1,hd2⟩,hD2⟩:=hD;obtain⟨fn,c,f1,f2,f3,f4,f5⟩:=sW hp;have hi:(invoke d.target d.args).run P w=.ok (.enter f (d.args++ws)) w:=by rw[hd1];simp[invoke,pK f1 (by rw[f2];rfl) f3]
   have dy:=WO (P:=P) (cs:=cs++rest) hfm UH hd1 hi;refine⟨_,{fr with defers:=Ds} ::cs,w,.one dy,μ,G,h0,hM,hH,vH hp hd2 true,⟨.unw (move ds Ds μ.le_refl hD2) bU,hS⟩,?_⟩;show(bB (_ ::_ ::jG)).Nodup;have:pk {af with dfs:=ds}=pk af:=rfl;simp only[bB,this,hpk,List.nil_append];simp only[pk,List.nil_append];exact VN
 ·rename_i hds;have UH:fr.defers=[]:=by
   rw[hds]at hD;cases UH:fr.defers with
   |nil=>rfl
   |cons d Ds=>rw[UH]at hD;exact hD.elim
  split
  ·trivial
  ·rename_i Av;cases Rj with
   |run nt hb h1=>exact absurd h1 bU
   |pan nt hb v u r h1=>rw[h1]at Av;cases Av
   |ret nt hb h1 h2 h3 hT=>
    split
    ·rename_i l hl;obtain⟨fn,g1,g2,g3⟩:=hb.Y0.ex;have g1':P.funcs[fr.fn]?=some fn:=by rw[hb.fn];exact g1
     rw[g2]at g3;obtain⟨vs,q1,q2⟩:=RG hM hH hT g3 hl;rw[wc];obtain⟨μ1,G1,x1,x2⟩:=Jo (C.kY af.fn) hM hH q2;have q2:=Z1 x2;have hS:=dH.kept x1.le x1.kept hS;have h0:=Mu.le_trans h0 x1.le;have hM:=x1.M;have hH:=x1.hs;have hb:=hb.mono x1.le;have hT:=hT.mono x1.le;generalize b9 (C.kY af.fn) l H=lh at q2 hS hM hH;obtain⟨l1,H1⟩:=lh;simp only at q2 hS hM hH ⊢;clear x1 x2;generalize hvv:Ke vs=v at q1 q2;unfold JF;cases jG with
     |nil=>
      cases cs with
      |cons _ _=>exact hS.elim
      |nil=>
      cases hdf:af.Ew with
      |true=>trivial
      |false=>
       have K4:fr.kind=.normal:=by rw[hb.kind,hdf];rfl
       exact⟨fr,w,μ1,G1,v,Steps.refl _ _,hb.fn,⟨h2,UH,K4,fn,g1',q1⟩,q2,h0,hM,hH⟩
     |cons c jG=>
      cases cs with
      |nil=>exact hS.elim
      |cons cf cs=>
      have Z2:(bB (c ::jG)).Nodup:=VN;cases hdf:af.Ew with
      |true=>
       have K4:fr.kind=.deferred:=by rw[hb.kind,hdf];rfl
       have dy:=IQ (P:=P) (c:=cf) (cs:=cs++rest) h2 UH K4 g1' q1;simp only[cond_true];cases hS.1 with
       |wait Og gx zI=>rw[zI];trivial
       |unw hc Hd=>
        cases hc with
        |run Og gx zI=>exact absurd zI Hd
        |ret Og gx zI Q4 h3' hT'=>
         have OD:settle cf.mode=cf.mode:=by rw[Q4];rfl
         rw[OD]at dy;rw[zI];exact⟨_,cs,w,.one dy,μ1,G1,h0,hM,hH,.ret Og gx zI Q4 h3' hT',hS.2,Z2⟩
        |pan Og gx v' u' r' zI Q4 TS h3' hT'=>
         rw[zI];cases r' with
         |true=>
          have OD:settle cf.mode=.returning:=by rw[Q4];rfl
          rw[OD]at dy;refine⟨_,cs,w,.one dy,μ1,G1,h0,hM,hH,.ret Og ⟨gx.fn,gx.Y0,gx.dfs,gx.kind,gx.sV,gx.rd⟩ rfl rfl (.inl h3') hT',hS.2,?_⟩;exact Z2
         |false=>
          have OD:settle cf.mode=cf.mode:=by rw[Q4];rfl
          rw[OD]at dy;exact⟨_,cs,w,.one dy,μ1,G1,h0,hM,hH,.pan Og gx v' u' false zI Q4 TS h3' hT',hS.2,Z2⟩
      |false=>
       have K4:fr.kind=.normal:=by rw[hb.kind,hdf];rfl
       have dy:=aeY (P:=P) (c:=cf) (cs:=cs++rest) h2 UH K4 g1' q1;simp only[cond_false];split
       ·rename_i c' hf;obtain⟨k1,k2⟩:=hS.1.finish q2 hf;refine⟨_,cs,w,.one dy,μ1,G1,h0,hM,hH,k1,hS.2,?_⟩;show(bB (c' ::jG)).Nodup;simp only[bB,k2]at Z2 ⊢;exact Z2
       ·trivial
    ·trivial
  ·rename_i v Av;cases Rj with
   |run nt hb h1=>exact absurd h1 bU
   |ret nt hb h1=>rw[h1]at Av;cases Av
   |pan nt hb v' u r h1 h2 hv h3 hT=>
    rw[h1]at Av;simp only[agy.pan.injEq]at Av;obtain⟨rfl,rfl⟩:=Av;obtain⟨fn,g1,g2,g3⟩:=hb.Y0.ex;have g1':P.funcs[fr.fn]?=some fn:=by rw[hb.fn];exact g1
    cases jG with
    |nil=>trivial
    |cons c jG=>
     cases cs with
     |nil=>exact hS.elim
     |cons cf cs=>
     simp only;cases hS.1 with
     |unw hc Hd=>
      cases hc with
      |run Og gx zI=>exact absurd zI Hd
      |ret Og gx zI=>rw[zI];trivial
      |pan Og gx v2 u2 r2 zI=>rw[zI];trivial
     |wait Og gx zI Q4 hW=>
      rw[zI];have dy:=WQ (P:=P) (c:=cf) (cs:=cs++rest) (w:=w) h2 UH g1';have hra:cf.raise [{v:=u,recovered:=false}]={cf with mode:=.panicking [{v:=u,recovered:=false}]}:=by simp[Frame.raise,Q4]
      rw[hra]at dy;refine⟨_,cs,w,.one dy,μ,G,h0,hM,hH,.pan Og ⟨gx.fn,gx.Y0,gx.dfs,gx.kind,gx.sV,gx.rd⟩ v' u false rfl rfl hv rfl ?_,hS.2,?_⟩
      ·show j5 ρ μ Og (match c.todo with|.staged _ d _ ::_=>IA d.ds c.tm (fun t=>t)|_=>c.tm) cf.tmps;generalize cf.todo=KK at hW;generalize hTT:cf.tmps=TT at hW;generalize c.todo=kk at hW;generalize c.tm=tt at hW;cases hW with
       |ops o l ops i rest k K tm tmps hp h ht=>exact ht
       |rf key l k K tm tmps hk h ht=>exact ht
       |staged ops pl bf g i po ad os uD items iJ aq k K tm tmps rest qX hf hc hL SB hd h VK Iz S=>simp only[oe];exact S.erase hd.1
      ·have Z2:(bB (c ::jG)).Nodup:=VN;show(bB (_ ::jG)).Nodup;simp only[bB,pk,List.nil_append]at Z2 ⊢;exact(List.nodup_append.1 Z2).2.1
  ·trivial
theorem EC(X:Ctx P ρ w0 C){am:AM}(h:DS P ρ C.orc w0 μ0 am fr cs w):Good P ρ C w0 μ0 rest (lone fr (cs++rest) w) (iD C am):=by
 obtain⟨μ,G,h0,hM,hH,hc,hS,hn⟩:=h.ex;unfold iD;split
 ·rename_i hm;cases hc with
  |run nt hb h1 h2 h=>exact ain X h0 hM hH hb h1 h2 h hS hn
  |ret nt hb h1=>rw[h1]at hm;cases hm
  |pan nt hb v u r h1=>rw[h1]at hm;cases hm
 ·rename_i hm;have bU:am.fr.mode≠.run:=fun e=>hm e;have hb:∃nt,zJ P ρ μ nt am.fr fr:=by
   cases hc with
   |run nt hb h1 h2 h=>exact⟨nt,hb⟩
   |ret nt hb h1=>exact⟨nt,hb⟩
   |pan nt hb v u r h1=>exact⟨nt,hb⟩
  obtain⟨nt,hb⟩:=hb;exact WN X h0 hM hH hb hc bU hS hn
theorem zM(C:bK)(n:Nat)(m:AM):tK C (n+1) m=match iD C m with
  |.next m=>tK C n m
  |r=>r:=rfl
theorem wY(X:Ctx P ρ w0 C):∀(n:Nat) {am:AM} {fr:Frame} {cs:List Frame} {w:World},DS P ρ C.orc w0 μ0 am fr cs w→Good P ρ C w0 μ0 rest (lone fr (cs++rest) w) (tK C n am)
 |0,am,fr,cs,w,h=>⟨fr,cs,w,Steps.refl _ _,h⟩
 |n+1,am,fr,cs,w,h=>by
  have h1:=EC (rest:=rest) X h;rw[zM];cases hs:iD C am with
  |next m=>rw[hs]at h1;obtain⟨gD,Gj,w',s1,h2⟩:=h1;exact Good.steps s1 (wY X n h2)
  |done f v hh nx=>rw[hs]at h1;exact h1
  |pan v hh nx=>trivial
  |bad k m=>trivial
end
noncomputable def an(f:Nat)(p:ej)(l:List AV):lG:={fn:=f,tm:=gw l .z .nil,todo:=[.code p.body],dfs:=[],mode:=.run,Ew:=false,sV:=none,res:=p.res}
section
variable{P:Program}{ρ:Nat→Int}{C:bK}{w0:W0}{w:World}{μ0:Mu}{G0:Key→Option ah}{H H':T ah}{nx nx':Key}
inductive Ev(C:bK)(S:AM→Prop):AM→Prop
 |now {m:AM} (h:S m):Ev C S m
 |step {m m':AM} (e:iD C m=.next m') (h:Ev C S m'):Ev C S m
theorem Ev.bind{S S':AM→Prop}{m:AM}(h:Ev C S m)(hs:∀m',S m'→Ev C S' m'):Ev C S' m:=by
 induction h with
 |now h=>exact hs _ h
 |step e _ ih=>exact .step e ih
theorem Ev.mono{S S':AM→Prop}{m:AM}(h:Ev C S m)(hs:∀m',S m'→S' m'):Ev C S' m:=h.bind fun m' q=>.now (hs m' q)
theorem Ev.same{S:AM→Prop}{m m2:AM}(hs:iD C m=iD C m2)(hn:¬S m2)(h:Ev C S m2):Ev C S m:=by
 cases h with
 |now h=>exact absurd h hn
 |step e h=>exact .step (hs.trans e) h
theorem agL(a b:Nat)(m m1:AM)(h:tK C a m=.next m1):tK C (a+b) m=tK C b m1:=by
 induction a generalizing m with
 |zero=>have:SR.next m=SR.next m1:=h;cases this;rw[Nat.zero_add]
 |succ a ih=>
  rw[zM]at h;have e:a+1+b=(a+b)+1:=by omega
  rw[e,zM];cases hs:iD C m with
  |next m2=>rw[hs]at h;exact ih m2 h
  |done f v hh nx=>rw[hs]at h;cases h
  |pan v hh nx=>rw[hs]at h;cases h
  |bad k m=>rw[hs]at h;cases h
theorem Ev.agM{S:AM→Prop}:∀(n:Nat) {m m':AM},tK C n m=.next m'→Ev C S m'→Ev C S m
 |0,m,m',h,q=>by have:SR.next m=SR.next m':=h;cases this;exact q
 |n+1,m,m',h,q=>by
  rw[zM]at h;cases hs:iD C m with
  |next m2=>rw[hs]at h;exact .step hs (Ev.agM n h q)
  |done f v hh nx=>rw[hs]at h;cases h
  |pan v hh nx=>rw[hs]at h;cases h
  |bad k m=>rw[hs]at h;cases h
def To(C:bK)(m m':AM):Prop:=∃n,tK C n m=.next m'
theorem To.refl(m:AM):To C m m:=⟨0,rfl⟩
theorem To.head{m m1 m2:AM}(h:iD C m=.next m1)(h':To C m1 m2):To C m m2:=by obtain⟨n,hn⟩:=h';exact⟨n+1,by rw[zM,h];exact hn⟩
theorem To.one{m m1:AM}(h:iD C m=.next m1):To C m m1:=.head h (.refl _)
theorem To.trans{m m1 m2:AM}(h:To C m m1)(h':To C m1 m2):To C m m2:=by obtain⟨a,ha⟩:=h;obtain⟨b,hb⟩:=h';exact⟨a+b,by rw[agL a b m m1 ha];exact hb⟩
theorem To.ev{S:AM→Prop}{m m':AM}(h:To C m m')(q:Ev C S m'):Ev C S m:=by obtain⟨n,hn⟩:=h;exact Ev.agM n hn q
theorem Ev.sound(X:Ctx P ρ w0 C){S:AM→Prop}{rest:List Frame}{am:AM}(h:Ev C S am):∀{fr:Frame} {cs:List Frame} {w:World},DS P ρ C.orc w0 μ0 am fr cs w→
  ∃am' gD Gj w',S am'∧Steps P (lone fr (cs++rest) w) (lone gD (Gj++rest) w')∧DS P ρ C.orc w0 μ0 am' gD Gj w':=by
 induction h with
 |now h=>intro fr cs w hm;exact⟨_,fr,cs,w,h,Steps.refl _ _,hm⟩
 |step e _ ih=>intro fr cs w hm;have hg:=EC (rest:=rest) X hm;rw[e]at hg;obtain⟨gD,Gj,w',s1,h2⟩:=hg;obtain⟨am',KZ,cs2,w2,q,s2,h3⟩:=ih h2;exact⟨am',KZ,cs2,w2,q,s1.trans s2,h3⟩
end
end Go.Sx
